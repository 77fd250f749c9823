/- Texts of this claim, put together: EscF, EscG, EscH, EscI, EscJ, EscK, EscL, EscM, EscN, EscO, EscP -/
import Derived.Test.YteomkfcfhlljkaaAllLawgpbmei
import Derived.Test.YteomkfcfhlljkaaAllFwdhgkco
/- A row put right: the program's way, whole. -/
set_option linter.unusedVariables false
set_option maxRecDepth 100000
namespace Go.Sh
open Go.Fw Go.Gf Go.RowKit Go.Proofs.Try

theorem putX_set : ∀ (l : List F) (i : Nat) (v : F), putX l i v = l.set i (l.getD i 0 + v)
  | [], _, _ => rfl
  | c :: l, 0, v => rfl
  | c :: l, i + 1, v => by
    show c :: putX l i v = c :: l.set i _
    rw [putX_set l i v]; rfl

theorem rep_s7 {K : Nat} (hK : 300 ≤ K) {w : World} {g : Nat} {e : TypeId} {c0 c1 c2 c3 : F} (b : Bk e w g (fb [c0, c1, c2, c3])) {ps : Sl} {P : List F} (hs : BSrc w ps P) (hP : P.length = 2) {i : Nat} (hi : i < 2) (x : F) :
    escrow_repaired_s7 K ⟨g, 0, none⟩ ps timesV (i : Int) (bF x) (bF c0) true w = some ((bF (vOf c0 c1 x (P.getD (1 - i) 0)), ()), w.drew) := by
  have ud := (Upd.refl none_ w).drew
  obtain ⟨d0, d1, d2, d3⟩ := cells4 hK b.drew
  obtain ⟨p, p1, p2⟩ := src_cell (hs.upd0 ud) (i := 1 - i) (by omega)
  have hg : P[1 - i]'(by omega) = P.getD (1 - i) 0 := by rw [List.getD_eq_getElem?_getD, List.getElem?_eq_getElem (by omega)]; rfl
  rw [hg] at p2
  have hpl : ps.len = 2 := by rw [hs.len, fb_length, hP]
  have e1 : IntKind.i64.wrap (1 - (i : Int)) = ((1 - i : Nat) : Int) := by rw [w64 (by omega) (by omega)]; omega
  have cc : (0 : Int) ≤ ((1 - i : Nat) : Int) ∧ ((1 - i : Nat) : Int) < ((ps.len : Nat) : Int) := by omega
  unfold escrow_repaired_s7 escrow_repaired_s8
  rw [if_pos rfl, p1, Option.bind_some, e1, if_pos cc, Option.bind_some, if_pos cc, Int.toNat_natCast]
  simp only [Nat.mul_one, add_lit, Nat.zero_add, d0, d1, p2, Option.bind_some, dyn_times hK, asI_int, sameK_selfF, addF, over_ok hK, bnd_ok]
  rfl

theorem rep_s7n {K : Nat} {w : World} {s5 : Addr} {ps : Sl} {i x v : Int} : escrow_repaired_s7 K s5 ps timesV i x v false w = some ((v, ()), w) := rfl

/-- what is added at a place -/
def addV (P : List F) (c0 c1 : F) (i : Nat) : F := if P.length = 2 then vOf c0 c1 (P.getD i 0) (P.getD (1 - i) 0) else c0

theorem rep_l6 {K : Nat} (hK : 18446744073709551616 ≤ K) {w : World} {g : Nat} {e : TypeId} {c0 c1 c2 c3 : F} (b : Bk e w g (fb [c0, c1, c2, c3])) {ps out : Sl} {P O : List F} (hs : BSrc w ps P) (ho : OwnS 5 w out (fb O)) (hO : O.length ≤ 255) {i : Nat} (hi : i < P.length) (hP : P.length ≤ 2) (m : Nat) :
    (fix O (P.getD i 0) (addV P c0 c1 i) = none → ∃ w', escrow_repaired_l6 K (m + 1) ⟨g, 0, none⟩ ps timesV out ps ((P.length : Nat) : Int) (i : Int) w = some (.ret (⟨none, 0, 0⟩, 0, false, ()), w') ∧ Upd none_ w w') ∧
    (∀ O2, fix O (P.getD i 0) (addV P c0 c1 i) = some O2 → ∃ w', escrow_repaired_l6 K (m + 1) ⟨g, 0, none⟩ ps timesV out ps ((P.length : Nat) : Int) (i : Int) w = escrow_repaired_l6 K m ⟨g, 0, none⟩ ps timesV out ps ((P.length : Nat) : Int) ((i + 1 : Nat) : Int) w' ∧ OwnS 5 w' out (fb O2) ∧ Upd (fun k => out.blk = some k) w w') := by
  have hpl : ps.len = P.length := by rw [hs.len, fb_length]
  have hol : out.len = O.length := by rw [ho.len, fb_length]
  obtain ⟨d0, d1, d2, d3⟩ := cells4 (show 300 ≤ K by omega) b
  obtain ⟨p, p1, p2⟩ := src_cell hs hi
  have hg : P[i] = P.getD i 0 := by rw [List.getD_eq_getElem?_getD, List.getElem?_eq_getElem (by omega)]; rfl
  rw [hg] at p2
  have cc : (0 : Int) ≤ (i : Int) ∧ (i : Int) < ((ps.len : Nat) : Int) := by omega
  have e3 : IntKind.i64.wrap ((i : Int) + 1) = ((i + 1 : Nat) : Int) := by rw [w64 (by omega) (by omega)]; rfl
  obtain ⟨w1, h7, u1⟩ : ∃ w1, escrow_repaired_s7 K ⟨g, 0, none⟩ ps timesV (i : Int) (bF (P.getD i 0)) (bF c0) (((ps.len : Nat) : Int) == 2) w = some ((bF (addV P c0 c1 i), ()), w1) ∧ Upd none_ w w1 := by
    by_cases h2 : P.length = 2
    · have : (((ps.len : Nat) : Int) == 2) = true := by rw [hpl, h2]; rfl
      rw [this]
      refine ⟨w.drew, ?_, (Upd.refl _ _).drew⟩
      rw [rep_s7 (by omega) b hs h2 (by omega)]
      unfold addV; rw [if_pos h2]
    · have : (((ps.len : Nat) : Int) == 2) = false := by rw [beq_eq_false_iff_ne]; omega
      rw [this]
      refine ⟨w, ?_, Upd.refl _ _⟩
      rw [rep_s7n]
      unfold addV; rw [if_neg h2]
  have h9 := rep_l9 (K := K) (by omega) (s5 := ⟨g, 0, none⟩) (ps := ps) (out := out) (a113 := ps) (P.getD i 0) (addV P c0 c1 i) (a114 := ((P.length : Nat) : Int)) (a115 := (i : Int)) (n := O.length) hO hol O.length 0 K w1 none (by omega) (by omega)
  have h9 : escrow_repaired_l9 K K ⟨g, 0, none⟩ ps timesV out (bF (P.getD i 0)) (bF (addV P c0 c1 i)) (-1) ps ((P.length : Nat) : Int) (i : Int) ((out.len : Nat) : Int) 0 w1 = some ((atI (atOf O.length (P.getD i 0)), ()), w1) := by rw [hol]; exact h9
  have hun : escrow_repaired_l6 K (m + 1) ⟨g, 0, none⟩ ps timesV out ps ((P.length : Nat) : Int) (i : Int) w = escrow_repaired_l6_b K (escrow_repaired_l6 K m) ⟨g, 0, none⟩ ps timesV out ps ((P.length : Nat) : Int) (i : Int) w := rfl
  rw [hun]
  unfold escrow_repaired_l6_b
  rw [if_pos (decide_eq_true (show (i : Int) < ((P.length : Nat) : Int) by omega)), p1, Option.bind_some, if_pos cc, Int.toNat_natCast, Nat.mul_one, p2, Option.bind_some, Nat.zero_mul, add_lit, Nat.zero_add, d0, Option.bind_some, h7, bnd_ok]
  dsimp only
  rw [h9, bnd_ok]
  unfold Gf.fix
  cases ha : atOf O.length (P.getD i 0) with
  | none =>
    refine ⟨fun _ => ⟨w1, ?_, u1⟩, fun O2 h => by cases h⟩
    rfl
  | some k =>
    refine ⟨fun h => (by cases h), fun O2 h => ?_⟩
    have h : putX O k (addV P c0 c1 i) = O2 := Option.some.inj h
    have hk := (atOf_some hO ha).1
    have ho1 := ho.upd0 u1
    obtain ⟨q, q1, q2⟩ := own_cell ho1 (i := k) hk
    obtain ⟨q', w2, s1, s2, s3, s4⟩ := own_set ho1 (i := k) hk (O.getD k 0 + addV P c0 c1 i)
    obtain rfl : q' = q := Option.some.inj (s1.symm.trans q1)
    rw [← putX_set, h] at s3
    have ck : (0 : Int) ≤ (k : Int) ∧ (k : Int) < ((out.len : Nat) : Int) := by omega
    refine ⟨w2, ?_, s3, (u1.mono (T := fun k => out.blk = some k) fun _ _ e => e.elim).trans' s4 fun _ _ e => e⟩
    have eat : atI (some k) = (k : Int) := rfl
    rw [eat]
    dsimp only
    rw [if_neg (by simp only [decide_eq_true_eq]; omega), q1, Option.bind_some, if_pos ck, Int.toNat_natCast, Nat.mul_one, q2, Option.bind_some, Option.bind_some, if_pos ck, addF, s2, Option.bind_some, e3]

theorem rep_l6e {K : Nat} {s5 : Addr} {ps out : Sl} {n : Nat} {w : World} (m : Nat) : escrow_repaired_l6 K (m + 1) s5 ps timesV out ps ((n : Nat) : Int) ((n : Nat) : Int) w = some (.norm (), w) := by
  show escrow_repaired_l6_b K (escrow_repaired_l6 K m) s5 ps timesV out ps ((n : Nat) : Int) ((n : Nat) : Int) w = _
  unfold escrow_repaired_l6_b
  rw [if_neg (by simp)]

theorem repaired_ok {K : Nat} (hK : 18446744073709551616 ≤ K) {w : World} {b : Sl} {l : List F} (hs : BSrc w b l) (hl : l.length ≤ 255) :
    ∃ s n v w', escrow_repaired K b w = some ((s, n, v, ()), w') ∧ Upd none_ w w' ∧ (match Gf.repP l with | some r => v = true ∧ n = ((r.2 : Nat) : Int) ∧ BSrc w' s r.1 ∧ (s = b ∨ Fresh w.heap.size s) | none => v = false) := by
  have hK3 : 300 ≤ K := by omega
  obtain ⟨w1, a1, u1⟩ := summed_ok hK hs (by omega)
  obtain ⟨w2, b1, b2, b3, b4⟩ := newB_ok z71 71 w1
  have b2 : Bk 71 w2 w1.heap.size (fb [0, 0, 0, 0]) := b2
  obtain ⟨w3, c1, c2, c3⟩ := b2.stA (o := 0) (vs := (fb (sumsL l)).toArray) (by simp [fb, ints, sumsL]) (fun v hv => fb_one _ v hv)
  have c2 : Bk 71 w3 w1.heap.size (fb [sj l 0, sj l 1, sj l 2, sj l 3]) := c2
  have u3 : Upd none_ w w3 := (u1.and0 b3).trans' c3 fun k hk e => by have := u1.size; omega
  have g1 := c2.ldA (i := 0) (n := 4) (by rw [fb_length]; simp)
  have g1 : ldA 4 ⟨w1.heap.size, 0, none⟩ w3 = some (fb (sumsL l)).toArray := g1
  have hq1 := u1.size
  unfold escrow_repaired
  rw [a1, bnd_ok, b1, bnd_ok, if_pos (by simp [fb, ints, sumsL]), c1, Option.bind_some, g1, Option.bind_some, built170, Option.bind_some, eq170 rfl rfl, Option.bind_some]
  unfold Gf.repP
  by_cases hr : Right l
  · rw [if_pos (decide_eq_true ((right_sums l).2 hr)), if_pos hr]
    exact ⟨b, 0, true, w3, rfl, u3, rfl, rfl, hs.upd0 u3, .inl rfl⟩
  · rw [if_neg (fun h => hr ((right_sums l).1 (of_decide_eq_true h))), if_neg hr, rep_s0 hK3 c2, bnd_ok]
    have c2' := c2.drew
    have u3' := u3.drew
    have hbd : (bF (sj l 0 * sj l 2 + sj l 1 * sj l 1) == 0) = decide (Gf.delta l = 0) := by rw [Bool.eq_iff_iff, bF_beq, decide_eq_true_eq]; rfl
    dsimp only
    rw [hbd]
    -- the tail
    have tail : ∀ (w4 : World) (ps : Sl) (P : List F), Upd none_ w w4 → Bk 71 w4 w1.heap.size (fb [sj l 0, sj l 1, sj l 2, sj l 3]) → OwnS 5 w4 ps (fb P) → 1 ≤ P.length → P.length ≤ 2 →
        ∃ s n v w', (bnd (slices_Clone_byte_byte b w4) fun r_104 w_105 =>
  bnd (escrow_repaired_l6 K K ⟨w1.heap.size, 0, none⟩ ps timesV r_104.1 ps ((ps.len : Nat) : Int) 0 w_105) fun y_138 w_139 =>
  (match y_138 with
  | .norm z_140n => ((prog.built 71 []).bind fun cs_141 =>
  bnd (escrow_summed K r_104.1 w_139.drew) fun r_142 w_143 =>
  (eqA prog 71 r_142.1 cs_141).bind fun b_144 =>
  some ((r_104.1, ((ps.len : Nat) : Int), b_144, ()), w_143))
  | .ret z_140r => (some ((z_140r.1, z_140r.2.1, z_140r.2.2.1, ()), w_139)))) = some ((s, n, v, ()), w') ∧ Upd none_ w w' ∧
          (match (match P with
            | [x] => Gf.fix l x (sj l 0)
            | [x, y] => (Gf.fix l x (vOf (sj l 0) (sj l 1) x y)).bind fun o => Gf.fix o y (vOf (sj l 0) (sj l 1) y x)
            | _ => none) with
          | some o => (v = decide (Right o)) ∧ n = ((P.length : Nat) : Int) ∧ BSrc w' s o ∧ Fresh w.heap.size s
          | none => v = false) := by
      intro w4 ps P u4 k4 ho hP1 hP2
      have q4 := u4.size
      have hpl : ps.len = P.length := by rw [ho.len, fb_length]
      obtain ⟨so, w5, d1, d2, d3, d4⟩ := clone_ok K (hs.upd0 u4) (by omega)
      have k5 := k4.upd0 d3
      have hp5 := (ho.upd0 d3).src (fb_one _)
      have hpne : ∀ q, ps.a = some q → ¬ so.blk = some q.block := fun q hq e => by have := d4 _ e; have := own_lt ho q hq; omega
      have hgne : ¬ so.blk = some w1.heap.size := fun e => by have := d4 _ e; have := k4.lt; omega
      obtain ⟨k, hk⟩ : ∃ k, K = k + 4 := ⟨K - 4, by omega⟩
      have fin : ∀ (w6 : World) (o : List F), o.length ≤ 255 → OwnS 5 w6 so (fb o) → Upd none_ w w6 → ∃ s n v w', ((prog.built 71 []).bind fun cs_141 =>
            bnd (escrow_summed K so w6.drew) fun r_142 w_143 => (eqA prog 71 r_142.1 cs_141).bind fun b_144 => some ((so, ((ps.len : Nat) : Int), b_144, ()), w_143)) = some ((s, n, v, ()), w') ∧ Upd none_ w w' ∧
          ((v = decide (Right o)) ∧ n = ((P.length : Nat) : Int) ∧ BSrc w' s o ∧ Fresh w.heap.size s) := by
        intro w6 o hol ho6 u6
        have hs6 := (ho6.upd0 (Upd.refl none_ w6).drew).src (fb_one _)
        obtain ⟨w7, e1, e2⟩ := summed_ok hK hs6 (by omega)
        refine ⟨so, ((ps.len : Nat) : Int), decide (Right o), w7, ?_, (u6.drew).and0 e2, rfl, ?_, hs6.upd0 e2, fun j hj => by have := d4 j hj; omega⟩
        · rw [built170, Option.bind_some, e1, bnd_ok, eq170 rfl rfl, Option.bind_some, decide_eq_decide.2 (right_sums o)]
        · rw [hpl]
      rw [d1, bnd_ok]
      dsimp only
      have hK0 : ∀ n, n = k + 4 → escrow_repaired_l6 K n ⟨w1.heap.size, 0, none⟩ ps timesV so ps ((ps.len : Nat) : Int) 0 w5 = escrow_repaired_l6 K (k + 4) ⟨w1.heap.size, 0, none⟩ ps timesV so ps ((P.length : Nat) : Int) ((0 : Nat) : Int) w5 := fun n hn => by rw [hn, hpl]; rfl
      rw [hK0 K hk]
      obtain ⟨n1, s1⟩ := rep_l6 hK k5 hp5 d2 hl (i := 0) (by omega) hP2 (k + 3)
      match P, hP1, hP2, hpl, n1, s1, ho, hp5 with
      | [x], _, _, hpl, n1, s1, ho, hp5 =>
        have ea : addV [x] (sj l 0) (sj l 1) 0 = sj l 0 := rfl
        rw [ea] at n1 s1
        have eg : [x].getD 0 0 = x := rfl
        rw [eg] at n1 s1
        dsimp only
        cases hf : Gf.fix l x (sj l 0) with
        | none =>
          obtain ⟨w6, e1, e2⟩ := n1 hf
          exact ⟨_, _, _, w6, by rw [e1, bnd_ok], (u4.and0 d3).and0 e2, rfl⟩
        | some o =>
          obtain ⟨w6, e1, e2, e3⟩ := s1 o hf
          have u6 : Upd none_ w w6 := (u4.and0 d3).trans' e3 fun j hj e => by have := d4 j e; omega
          obtain ⟨s, n, v, w', f1, f2, f3⟩ := fin w6 o (by rw [fix_length hf]; exact hl) e2 u6
          refine ⟨s, n, v, w', ?_, f2, f3⟩
          rw [e1]
          have := rep_l6e (K := K) (s5 := ⟨w1.heap.size, 0, none⟩) (ps := ps) (out := so) (n := [x].length) (w := w6) (k + 2)
          have this : escrow_repaired_l6 K (k + 3) ⟨w1.heap.size, 0, none⟩ ps timesV so ps (([x].length : Nat) : Int) ((0 + 1 : Nat) : Int) w6 = some (.norm (), w6) := this
          rw [this, bnd_ok]
          exact f1
      | [x, y], _, _, hpl, n1, s1, ho, hp5 =>
        have ea : addV [x, y] (sj l 0) (sj l 1) 0 = vOf (sj l 0) (sj l 1) x y := rfl
        rw [ea] at n1 s1
        have eg : [x, y].getD 0 0 = x := rfl
        rw [eg] at n1 s1
        dsimp only
        cases hf : Gf.fix l x (vOf (sj l 0) (sj l 1) x y) with
        | none =>
          obtain ⟨w6, e1, e2⟩ := n1 hf
          exact ⟨_, _, _, w6, by rw [e1, bnd_ok], (u4.and0 d3).and0 e2, rfl⟩
        | some o =>
          obtain ⟨w6, e1, e2, e3⟩ := s1 o hf
          have u56 : Upd (fun j => so.blk = some j) w5 w6 := e3
          have u6 : Upd none_ w w6 := (u4.and0 d3).trans' e3 fun j hj e => by have := d4 j e; omega
          obtain ⟨n2, s2⟩ := rep_l6 hK (k5.upd u56 hgne) (src_updF hp5 u56 fun q hq _ => hpne q hq) e2 (by rw [fix_length hf]; exact hl) (i := 1) (by simp) (by simp) (k + 2)
          have ea : addV [x, y] (sj l 0) (sj l 1) 1 = vOf (sj l 0) (sj l 1) y x := rfl
          rw [ea] at n2 s2
          have eg : [x, y].getD 1 0 = y := rfl
          rw [eg] at n2 s2
          rw [Option.bind_some]
          cases hf2 : Gf.fix o y (vOf (sj l 0) (sj l 1) y x) with
          | none =>
            obtain ⟨w7, f1, f2⟩ := n2 hf2
            exact ⟨_, _, _, w7, by rw [e1, f1, bnd_ok], u6.and0 f2, rfl⟩
          | some o2 =>
            obtain ⟨w7, f1, f2, f3⟩ := s2 o2 hf2
            have u7 : Upd none_ w w7 := u6.trans' f3 fun j hj e => by have := d4 j e; omega
            obtain ⟨s, n, v, w', g1, g2, g3⟩ := fin w7 o2 (by rw [fix_length hf2, fix_length hf]; exact hl) f2 u7
            refine ⟨s, n, v, w', ?_, g2, g3⟩
            rw [e1, f1]
            have := rep_l6e (K := K) (s5 := ⟨w1.heap.size, 0, none⟩) (ps := ps) (out := so) (n := [x, y].length) (w := w7) (k + 1)
            have this : escrow_repaired_l6 K (k + 2) ⟨w1.heap.size, 0, none⟩ ps timesV so ps (([x, y].length : Nat) : Int) ((1 + 1 : Nat) : Int) w7 = some (.norm (), w7) := this
            rw [this, bnd_ok]
            exact g1
    unfold escrow_repaired_s1
    by_cases hd : Gf.delta l = 0
    · rw [if_pos (decide_eq_true hd), if_pos hd, rep_s2 hK3 c2', bnd_ok]
      dsimp only
      by_cases hz : sj l 0 = 0 ∨ sj l 1 = 0
      · rw [if_pos (decide_eq_true hz), if_pos hz, bnd_ok]
        exact ⟨_, _, _, _, rfl, u3', rfl⟩
      · rw [if_neg (fun h => hz (of_decide_eq_true h)), if_neg hz]
        obtain ⟨d0, d1, _, _⟩ := cells4 hK3 c2'
        obtain ⟨w4, e1, e2, e3, e4⟩ := bldS1_ok sliceB (.int .u8 (bF (sj l 1 * (sj l 0).inv))) rfl w3.drew
        have e2 : OwnS 5 w4 ⟨some ⟨w3.drew.heap.size, 0, none⟩, 1, 1⟩ (fb [sj l 1 * (sj l 0).inv]) := e2
        obtain ⟨s, n, v, w', f1, f2, f3⟩ := tail w4 ⟨some ⟨w3.drew.heap.size, 0, none⟩, 1, 1⟩ _ (u3'.and0 e3) (c2'.upd0 e3) e2 (by simp) (by simp)
        refine ⟨s, n, v, w', ?_, f2, ?_⟩
        · rw [Nat.mul_one, Nat.mul_one, add_lit, add_lit, Nat.zero_add, Nat.zero_add, d1, Option.bind_some, d0, Option.bind_some, over_ok hK3, Option.bind_some, e1, bnd_ok, bnd_ok]
          exact f1
        · dsimp only at f3
          cases hf : Gf.fix l (sj l 1 * (sj l 0).inv) (sj l 0) with
          | none => rw [hf] at f3; exact f3
          | some o =>
            rw [hf] at f3
            dsimp only at f3
            obtain ⟨g1, g2, g3, g4⟩ := f3
            rw [Option.bind_some]
            by_cases hro : Right o
            · rw [if_pos hro]
              exact ⟨by rw [g1, decide_eq_true hro], g2, g3, .inr g4⟩
            · rw [if_neg hro]
              show v = false
              rw [g1, decide_eq_false hro]
    · rw [if_neg (fun h => hd (of_decide_eq_true h)), if_neg hd]
      have hs3 := rep_s3 hK3 c2' (Gf.delta l)
      have hs3 : escrow_repaired_s3 K ⟨w1.heap.size, 0, none⟩ timesV (bF (sj l 0 * sj l 2 + sj l 1 * sj l 1)) w3.drew = some ((bF (Gf.one l), ()), w3.drew.drew) := hs3
      have hs4 := rep_s4 hK3 c2'.drew (Gf.delta l)
      have hs4 : escrow_repaired_s4 K ⟨w1.heap.size, 0, none⟩ timesV (bF (sj l 0 * sj l 2 + sj l 1 * sj l 1)) w3.drew.drew = some ((bF (Gf.two l), ()), w3.drew.drew.drew) := hs4
      obtain ⟨sp, w4, e1, e2, e3, e4⟩ := rep_l5 hK3 (b := b) (s5 := ⟨w1.heap.size, 0, none⟩) (Gf.one l) (Gf.two l) hl l.length 0 K w3.drew.drew.drew ⟨none, 0, 0⟩ [] (by omega) (by omega) (by simp) (OwnS.nil _ _)
      have hbl : b.len = l.length := by rw [hs.len, fb_length]
      have e1 : escrow_repaired_l5 K K b ⟨w1.heap.size, 0, none⟩ ⟨none, 0, 0⟩ timesV (bF (Gf.one l)) (bF (Gf.two l)) ((b.len : Nat) : Int) 0 w3.drew.drew.drew = some ((sp, ()), w4) := by rw [hbl]; exact e1
      rw [hs3, bnd_ok]
      dsimp only
      rw [hs4, bnd_ok]
      dsimp only
      rw [e1, bnd_ok]
      rw [List.nil_append] at e2
      have hspl : sp.len = (Gf.roots l).length := by rw [e2.len, fb_length]; rfl
      have u4 : Upd none_ w w4 := (u3'.drew.drew).trans' e3 fun j hj e => by cases e
      have c4 : Bk 71 w4 w1.heap.size (fb [sj l 0, sj l 1, sj l 2, sj l 3]) := (c2'.drew.drew).upd e3 fun e => by cases e
      dsimp only
      by_cases h2 : (Gf.roots l).length = 2
      · rw [if_neg (by rw [hspl, h2]; decide), bnd_ok]
        obtain ⟨x, y, hxy⟩ : ∃ x y, Gf.roots l = [x, y] := by
          match hm : Gf.roots l, h2 with
          | [x, y], _ => exact ⟨x, y, rfl⟩
        have e2 : OwnS 5 w4 sp (fb [x, y]) := by rw [← hxy]; exact e2
        obtain ⟨s, n, v, w', f1, f2, f3⟩ := tail w4 sp _ u4 c4 e2 (by simp) (by simp)
        refine ⟨s, n, v, w', f1, f2, ?_⟩
        rw [hxy]
        dsimp only at f3 ⊢
        cases hf : Gf.fix l x (vOf (sj l 0) (sj l 1) x y) with
        | none => rw [hf] at f3; exact f3
        | some o =>
          rw [hf, Option.bind_some] at f3
          rw [Option.bind_some]
          cases hf2 : Gf.fix o y (vOf (sj l 0) (sj l 1) y x) with
          | none => rw [hf2] at f3; exact f3
          | some o2 =>
            rw [hf2] at f3
            dsimp only at f3
            obtain ⟨g1, g2, g3, g4⟩ := f3
            rw [Option.bind_some]
            by_cases hro : Right o2
            · rw [if_pos hro]
              exact ⟨by rw [g1, decide_eq_true hro], g2, g3, .inr g4⟩
            · rw [if_neg hro]
              show v = false
              rw [g1, decide_eq_false hro]
      · rw [if_pos (by rw [hspl]; simp only [bne_iff_ne, ne_eq]; omega), bnd_ok]
        refine ⟨_, _, _, _, rfl, u4, ?_⟩
        obtain ⟨R, hR⟩ : ∃ R, Gf.roots l = R := ⟨_, rfl⟩
        rw [hR] at h2 ⊢
        match R, h2 with
        | [], _ => rfl
        | [_], _ => rfl
        | [_, _], h2 => exact absurd rfl h2
        | _ :: _ :: _ :: _, _ => rfl

end Go.Sh

/- The document's powers, sums, quotients. -/
set_option linter.unusedVariables false
set_option maxRecDepth 100000
namespace Go.Sh
open Go.Fw Go.Gf Go.RowKit Go.Proofs.Try

def powL (n : Nat) : List F := (List.range n).map tj
theorem powL_length (n : Nat) : (powL n).length = n := by simp [powL]
theorem powL_succ (n : Nat) : powL (n + 1) = powL n ++ [tj n] := by simp [powL, List.range_succ]
theorem powL_get {n i : Nat} (hi : i < n) : (powL n)[i]'(by rw [powL_length]; exact hi) = tj i := by simp [powL]

/-- a byte is pushed behind bytes that were made here -/
theorem push_fb {w : World} {s : Sl} {l : List F} (ho : OwnS 5 w s (fb l)) (hl : l.length ≤ 1099511627776) (v : F) :
    ∃ w1 s' w', bldS prog 25 1 #[(0, (.int .u8 (bF v)))] w = some (⟨some ⟨w.heap.size, 0, none⟩, 1, 1⟩, w1) ∧ apd prog 25 25 (.slice s.a s.len s.cap) (.slice (some ⟨w.heap.size, 0, none⟩) 1 1) w1 = some (s', w') ∧ OwnS 5 w' s' (fb (l ++ [v])) ∧ Upd (fun k => s.blk = some k) w w' ∧ ∀ k, s'.blk = some k → s.blk = some k ∨ w.heap.size ≤ k := by
  obtain ⟨w1, a1, a2, a3, a4⟩ := bldS1_ok sliceB (.int .u8 (bF v)) rfl w
  have a2 : OwnS 5 w1 ⟨some ⟨w.heap.size, 0, none⟩, 1, 1⟩ (fb [v]) := a2
  have hpl := ho.len
  rw [fb_length] at hpl
  obtain ⟨s2, w2, b1, b2, b3, b4, b5⟩ := apd_ok sliceB (ho.upd0 a3) (a2.src ints_one) (by show (s.len + 1) * 1 ≤ _; omega)
  rw [← fb_append] at b3
  have q1 := a3.size
  refine ⟨w1, s2, w2, a1, b1, b3, (a3.mono (T := fun k => s.blk = some k) fun _ _ e => e.elim).trans' b4 fun _ _ e => e, fun k hk => ?_⟩
  rcases b5 with e | e
  · rw [e] at hk; exact .inl hk
  · rw [e] at hk; have e2 : w1.heap.size = k := Option.some.inj hk; exact .inr (by omega)

theorem rPowers_loop {K : Nat} (hK : 300 ≤ K) {n : Nat} (hn : n ≤ 1099511627776) :
    ∀ (d i m : Nat) (w : World) (s : Sl), i + d = n → d < m → OwnS 5 w s (fb (powL i)) →
      ∃ s' w', ref11_Powers_l0 K m (n : Int) s (bF (tj i)) (i : Int) w = some ((s', ()), w') ∧ OwnS 5 w' s' (fb (powL n)) ∧ Upd (fun k => s.blk = some k) w w' ∧ ∀ k, s'.blk = some k → s.blk = some k ∨ w.heap.size ≤ k := by
  intro d
  induction d with
  | zero =>
    intro i m w s hi hm ho
    obtain ⟨m, rfl⟩ : ∃ q, m = q + 1 := ⟨m - 1, by omega⟩
    obtain rfl : i = n := by omega
    refine ⟨s, w, ?_, ho, Upd.refl _ _, fun k hk => .inl hk⟩
    show ref11_Powers_l0_b K (ref11_Powers_l0 K m) (i : Int) s (bF (tj i)) (i : Int) w = _
    unfold ref11_Powers_l0_b
    rw [if_neg (by simp)]
  | succ d ih =>
    intro i m w s hi hm ho
    obtain ⟨m, rfl⟩ : ∃ q, m = q + 1 := ⟨m - 1, by omega⟩
    have e3 : IntKind.i64.wrap ((i : Int) + 1) = ((i + 1 : Nat) : Int) := by rw [w64 (by omega) (by omega)]; rfl
    obtain ⟨w1, s2, w2, a1, a2, a3, a4, a5⟩ := push_fb ho (by rw [powL_length]; omega) (tj i)
    rw [← powL_succ] at a3
    obtain ⟨s3, w3, b1, b2, b3, b4⟩ := ih (i + 1) m w2 s2 (by omega) (by omega) a3
    have q := a4.size
    have et := rtimes hK (tj i) F.three
    rw [bF_three] at et
    refine ⟨s3, w3, ?_, b2, a4.trans' b3 (fun k hk e => (a5 k e).elim id fun e2 => absurd hk (by omega)), fun k hk => (b4 k hk).elim (a5 k) fun e => .inr (by omega)⟩
    show ref11_Powers_l0_b K (ref11_Powers_l0 K m) (n : Int) s (bF (tj i)) (i : Int) w = _
    unfold ref11_Powers_l0_b
    rw [if_pos (decide_eq_true (show (i : Int) < (n : Int) by omega)), a1, bnd_ok]
    dsimp only
    rw [a2, bnd_ok, et, Option.bind_some, e3]
    exact b1

theorem rPowers_ok {K : Nat} (hK : 18446744073709551616 ≤ K) (w : World) {n : Nat} (hn : n ≤ 1099511627776) :
    ∃ s' w', ref11_Powers K (n : Int) w = some ((s', ()), w') ∧ OwnS 5 w' s' (fb (powL n)) ∧ Upd none_ w w' ∧ Fresh w.heap.size s' := by
  obtain ⟨s', w', a1, a2, a3, a4⟩ := rPowers_loop (K := K) (by omega) hn n 0 K w ⟨none, 0, 0⟩ (by omega) (by omega) (OwnS.nil _ _)
  have a1 : ref11_Powers_l0 K K (n : Int) ⟨none, 0, 0⟩ 1 0 w = some ((s', ()), w') := a1
  refine ⟨s', w', ?_, a2, a3.mono (fun j _ e => by cases e), fun j hj => (a4 j hj).elim (fun e => by cases e) id⟩
  unfold ref11_Powers
  rw [a1, bnd_ok]

theorem over_ne {a b v : F} (hb : b ≠ 0) (h : v.n < (a * b.inv).n) : v * b ≠ a := fun e => by
  have : v = a * b.inv := by rw [← e, F.mul_assoc, F.mul_inv hb, F.mul_one]
  rw [this] at h; exact absurd h (Nat.lt_irrefl _)

theorem rover_loop {K : Nat} (hK : 300 ≤ K) {a b : F} (hb : b ≠ 0) : ∀ (d i m : Nat), i + d = (a * b.inv).n → d < m → ref11_over_l0 K m (bF a) (bF b) (i : Int) = some (.ret (bF (a * b.inv), ())) := by
  have hab : a * b.inv * b = a := by rw [F.mul_assoc, F.inv_mul hb, F.mul_one]
  intro d
  induction d with
  | zero =>
    intro i m hi hm
    obtain ⟨m, rfl⟩ : ∃ q, m = q + 1 := ⟨m - 1, by omega⟩
    have hlt := (a * b.inv).lt
    have hbi : IntKind.u8.wrap (i : Int) = bF (a * b.inv) := by
      rw [IntKind.wrap_u8]; show _ = (((a * b.inv).n : Nat) : Int); omega
    show ref11_over_l0_b K (ref11_over_l0 K m) (bF a) (bF b) (i : Int) = _
    unfold ref11_over_l0_b
    rw [if_pos (decide_eq_true (show (i : Int) < 256 by omega)), hbi, rtimes hK, Option.bind_some, hab, if_pos (by simp)]
  | succ d ih =>
    intro i m hi hm
    obtain ⟨m, rfl⟩ : ∃ q, m = q + 1 := ⟨m - 1, by omega⟩
    have hlt := (a * b.inv).lt
    obtain ⟨v, hv⟩ : ∃ v : F, v.n = i := ⟨⟨i, by omega⟩, rfl⟩
    have hbi : IntKind.u8.wrap (i : Int) = bF v := by
      rw [IntKind.wrap_u8]; show _ = ((v.n : Nat) : Int); omega
    have hne := over_ne hb (v := v) (a := a) (by omega)
    have hbq : ¬ (bF (v * b) == bF a) = true := by rw [beq_iff_eq, bF_eq]; exact hne
    have e3 : IntKind.i64.wrap ((i : Int) + 1) = ((i + 1 : Nat) : Int) := by rw [w64 (by omega) (by omega)]; rfl
    show ref11_over_l0_b K (ref11_over_l0 K m) (bF a) (bF b) (i : Int) = _
    unfold ref11_over_l0_b
    rw [if_pos (decide_eq_true (show (i : Int) < 256 by omega)), hbi, rtimes hK, Option.bind_some]
    dsimp only
    rw [if_neg hbq, e3]
    exact ih (i + 1) m (by omega) (by omega)

theorem rover_ok {K : Nat} (hK : 300 ≤ K) (a : F) {b : F} (hb : b ≠ 0) : ref11_over K (bF a) (bF b) = some (bF (a * b.inv), ()) := by
  have h := rover_loop hK (a := a) hb (a * b.inv).n 0 K (by omega) (by have := (a * b.inv).lt; omega)
  have h : ref11_over_l0 K K (bF a) (bF b) 0 = _ := h
  unfold ref11_over
  rw [h]; rfl

/-! ### Sums -/

def sumG (j : Nat) : F → List F → F
  | a, [] => a
  | a, c :: l => sumG j (a + c * tj (j * l.length)) l
theorem sumG_eq (j : Nat) : ∀ (l : List F) (a : F), sumG j a l = a + sj l j
  | [], a => by show a = a + 0; rw [F.add_zero]
  | c :: l, a => by
    show sumG j (a + c * tj (j * l.length)) l = _
    rw [sumG_eq j l]
    unfold sj
    rw [hor_cons, Nat.mul_comm, tj_mul, F.add_assoc]

theorem rSums_l1 {K : Nat} (hK : 300 ≤ K) {b ps : Sl} {l : List F} {g : Nat} {e : TypeId} {a2 : Addr} (hl : l.length ≤ 1099511627776) {i : Nat} (hi : i < l.length) {w : World} {S : List F} (hS : S.length = 4) (hb : Bk e w g (fb S)) (hs : BSrc w b l) (hp : BSrc w ps (powL 255)) {j m : Nat} (hj : j < 4) :
    ∃ w', ref11_Sums_l1 K (m + 1) b a2 ⟨g, 0, none⟩ ps ((l.length : Nat) : Int) (i : Int) (j : Int) w = ref11_Sums_l1 K m b a2 ⟨g, 0, none⟩ ps ((l.length : Nat) : Int) (i : Int) ((j + 1 : Nat) : Int) w' ∧ Bk e w' g (fb (S.set j (S.getD j 0 + l[i] * tj (j * (l.length - 1 - i))))) ∧ Upd (· = g) w w' := by
  have hbl : b.len = l.length := by rw [hs.len, fb_length]
  have hpl : ps.len = 255 := by rw [hp.len, fb_length, powL_length]
  have ud := (Upd.refl none_ w).drew
  obtain ⟨r, hr⟩ : ∃ r, r = l.length - 1 - i := ⟨_, rfl⟩
  rw [← hr]
  have hjr : j * r ≤ 3 * 1099511627776 := Nat.mul_le_mul (by omega) (by omega)
  have e1 : IntKind.i64.wrap (((l.length : Nat) : Int) - 1) = ((l.length - 1 : Nat) : Int) := by rw [w64 (by omega) (by omega)]; omega
  have e2 : IntKind.i64.wrap (((l.length - 1 : Nat) : Int) - (i : Int)) = ((r : Nat) : Int) := by rw [w64 (by omega) (by omega)]; omega
  have e4 : IntKind.i64.wrap ((j : Int) * ((r : Nat) : Int)) = ((j * r : Nat) : Int) := by rw [← Int.natCast_mul, w64 (by omega) (by omega)]
  have e5 : Int.tmod ((j * r : Nat) : Int) 255 = ((j * r % 255 : Nat) : Int) := rfl
  have hlt : j * r % 255 < 255 := Nat.mod_lt _ (by decide)
  have hj1 : IntKind.i64.wrap ((j : Int) + 1) = ((j + 1 : Nat) : Int) := by rw [w64 (by omega) (by omega)]; rfl
  obtain ⟨p, p1, p2⟩ := src_cell (hs.upd0 ud) hi
  obtain ⟨q, q1, q2⟩ := src_cell (hp.upd0 ud) (i := j * r % 255) (by rw [powL_length]; exact hlt)
  rw [powL_get hlt] at q2
  have etj : tj (j * r % 255) = tj (j * r) := pow3_mod _
  rw [etj] at q2
  have hc := bk_cellF hb.drew (j := j) (by omega)
  have hgd : S[j]'(by omega) = S.getD j 0 := by rw [List.getD_eq_getElem?_getD, List.getElem?_eq_getElem (by omega)]; rfl
  rw [hgd] at hc
  obtain ⟨w1, s1, s2, s3⟩ := hb.drew.stC (i := j) (by rw [fb_length]; omega) (.int .u8 (bF (S.getD j 0 + l[i] * tj (j * r))))
  rw [fb_set] at s2
  have c1 : (0 : Int) ≤ (i : Int) ∧ (i : Int) < ((b.len : Nat) : Int) := by omega
  have c2 : (0 : Int) ≤ (j : Int) ∧ (j : Int) < ((4 : Nat) : Int) := by omega
  have c3 : (0 : Int) ≤ ((j * r % 255 : Nat) : Int) ∧ ((j * r % 255 : Nat) : Int) < ((ps.len : Nat) : Int) := by rw [hpl]; exact ⟨Int.natCast_nonneg _, Int.ofNat_lt.2 hlt⟩
  refine ⟨w1, ?_, s2, s3.predrew⟩
  show ref11_Sums_l1_b K (ref11_Sums_l1 K m) b a2 ⟨g, 0, none⟩ ps ((l.length : Nat) : Int) (i : Int) (j : Int) w = _
  unfold ref11_Sums_l1_b
  rw [if_pos (decide_eq_true (show (j : Int) < 4 by omega)), if_pos c2, p1, Option.bind_some, if_pos c1, q1, Option.bind_some, e1, e2, e4, e5, if_pos c3, Int.toNat_natCast, Nat.mul_one, add_lit, Nat.zero_add, hc, Option.bind_some, Int.toNat_natCast, Nat.mul_one, p2, Option.bind_some, Int.toNat_natCast, Nat.mul_one, q2, Option.bind_some, rtimes hK, Option.bind_some, if_pos c2, addF, s1, Option.bind_some, hj1]

theorem rSums_l0 {K : Nat} (hK : 18446744073709551616 ≤ K) {b ps : Sl} {l : List F} {g : Nat} {e : TypeId} {a2 : Addr} (hl : l.length ≤ 1099511627776) (hgb : ∀ q, b.a = some q → l ≠ [] → q.block ≠ g) (hgp : ∀ q, ps.a = some q → q.block ≠ g) :
    ∀ (d i m : Nat) (w : World) (a b0 c dd : F), i + d = l.length → d < m → Bk e w g (fb [a, b0, c, dd]) → BSrc w b l → BSrc w ps (powL 255) →
      ∃ w', ref11_Sums_l0 K m b a2 ⟨g, 0, none⟩ ps ((l.length : Nat) : Int) (i : Int) w = some ((), w') ∧ Bk e w' g (fb [sumG 0 a (l.drop i), sumG 1 b0 (l.drop i), sumG 2 c (l.drop i), sumG 3 dd (l.drop i)]) ∧ Upd (· = g) w w' := by
  intro d
  induction d with
  | zero =>
    intro i m w a b0 c dd hi hm hb hs hp
    obtain ⟨m, rfl⟩ : ∃ q, m = q + 1 := ⟨m - 1, by omega⟩
    refine ⟨w, ?_, by rw [List.drop_eq_nil_of_le (by omega)]; exact hb, Upd.refl _ _⟩
    show ref11_Sums_l0_b K (ref11_Sums_l0 K m) b a2 ⟨g, 0, none⟩ ps ((l.length : Nat) : Int) (i : Int) w = _
    unfold ref11_Sums_l0_b
    rw [if_neg (by simp only [decide_eq_true_eq]; omega)]
  | succ d ih =>
    intro i m w a b0 c dd hi hm hb hs hp
    obtain ⟨m, rfl⟩ : ∃ q, m = q + 1 := ⟨m - 1, by omega⟩
    have hil : i < l.length := by omega
    have e3 : IntKind.i64.wrap ((i : Int) + 1) = ((i + 1 : Nat) : Int) := by rw [w64 (by omega) (by omega)]; rfl
    obtain ⟨k, hk⟩ : ∃ k, K = k + 5 := ⟨K - 5, by omega⟩
    have up : ∀ {w w' : World}, BSrc w b l → Upd (· = g) w w' → BSrc w' b l := fun h u => src_updF h u fun q hq hne => hgb q hq hne
    have upp : ∀ {w w' : World}, BSrc w ps (powL 255) → Upd (· = g) w w' → BSrc w' ps (powL 255) := fun h u => src_updF h u fun q hq _ => hgp q hq
    obtain ⟨w1, a1, b1, u1⟩ := rSums_l1 (K := K) (by omega) (a2 := a2) hl hil rfl hb hs hp (j := 0) (m := k + 4) (by omega)
    obtain ⟨w2, a2', b2, u2⟩ := rSums_l1 (K := K) (by omega) (a2 := a2) hl hil (by rfl) b1 (up hs u1) (upp hp u1) (j := 1) (m := k + 3) (by omega)
    have u12 := u1.trans' u2 fun _ _ e => e
    obtain ⟨w3, a3, b3, u3⟩ := rSums_l1 (K := K) (by omega) (a2 := a2) hl hil (by rfl) b2 (up hs u12) (upp hp u12) (j := 2) (m := k + 2) (by omega)
    have u13 := u12.trans' u3 fun _ _ e => e
    obtain ⟨w4, a4, b4, u4⟩ := rSums_l1 (K := K) (by omega) (a2 := a2) hl hil (by rfl) b3 (up hs u13) (upp hp u13) (j := 3) (m := k + 1) (by omega)
    have u14 := u13.trans' u4 fun _ _ e => e
    have b4 : Bk e w4 g (fb [a + l[i] * tj (0 * (l.length - 1 - i)), b0 + l[i] * tj (1 * (l.length - 1 - i)), c + l[i] * tj (2 * (l.length - 1 - i)), dd + l[i] * tj (3 * (l.length - 1 - i))]) := b4
    have hin : ref11_Sums_l1 K K b a2 ⟨g, 0, none⟩ ps ((l.length : Nat) : Int) (i : Int) 0 w = some ((), w4) := by
      have gen : ∀ n, n = k + 5 → ref11_Sums_l1 K n b a2 ⟨g, 0, none⟩ ps ((l.length : Nat) : Int) (i : Int) ((0 : Nat) : Int) w = some ((), w4) := fun n hn => by
        rw [hn, a1, a2', a3, a4]
        show ref11_Sums_l1_b K (ref11_Sums_l1 K k) b a2 ⟨g, 0, none⟩ ps ((l.length : Nat) : Int) (i : Int) ((4 : Nat) : Int) w4 = _
        unfold ref11_Sums_l1_b
        rw [if_neg (by decide)]
      exact gen K hk
    obtain ⟨w5, c1, c2, c3⟩ := ih (i + 1) m w4 _ _ _ _ (by omega) (by omega) b4 (up hs u14) (upp hp u14)
    refine ⟨w5, ?_, ?_, u14.trans' c3 fun _ _ e => e⟩
    · show ref11_Sums_l0_b K (ref11_Sums_l0 K m) b a2 ⟨g, 0, none⟩ ps ((l.length : Nat) : Int) (i : Int) w = _
      unfold ref11_Sums_l0_b
      rw [if_pos (decide_eq_true (show (i : Int) < ((l.length : Nat) : Int) by omega)), hin, bnd_ok, e3]
      exact c1
    · rw [List.drop_eq_getElem_cons hil]
      have hr : (l.drop (i + 1)).length = l.length - 1 - i := by rw [List.length_drop]; omega
      show Bk e w5 g (fb [sumG 0 (a + l[i] * tj (0 * (l.drop (i + 1)).length)) _, sumG 1 (b0 + l[i] * tj (1 * (l.drop (i + 1)).length)) _, sumG 2 (c + l[i] * tj (2 * (l.drop (i + 1)).length)) _, sumG 3 (dd + l[i] * tj (3 * (l.drop (i + 1)).length)) _])
      rw [hr]
      exact c2

theorem rSums_ok {K : Nat} (hK : 18446744073709551616 ≤ K) {w : World} {b : Sl} {l : List F} (hs : BSrc w b l) (hl : l.length ≤ 1099511627776) :
    ∃ w', ref11_Sums K b w = some (((fb (sumsL l)).toArray, ()), w') ∧ Upd none_ w w' := by
  have hbl : b.len = l.length := by rw [hs.len, fb_length]
  have hlt := src_ltF hs
  obtain ⟨w1, a1, a2, a3, a4⟩ := newB_ok z60 60 w
  obtain ⟨w2, b1, b2, b3, b4⟩ := newB_ok z60 60 w1
  have a2 : Bk 60 w1 w.heap.size (fb [0, 0, 0, 0]) := a2
  have b2 : Bk 60 w2 w1.heap.size (fb [0, 0, 0, 0]) := b2
  obtain ⟨sp, w3, c1, c2, c3, c4⟩ := rPowers_ok hK w2 (n := 255) (by omega)
  have u3 := (a3.and0 b3).and0 c3
  have q1 := a3.size
  obtain ⟨w4, d1, d2, d3⟩ := rSums_l0 hK (b := b) (ps := sp) (a2 := ⟨w.heap.size, 0, none⟩) (g := w1.heap.size) hl (fun q hq hne => by have := hlt q hq hne; omega) (fun q hq => by have := c4 q.block (by simp [Sl.blk, hq]); omega) l.length 0 K w3 0 0 0 0 (by omega) (by omega) (b2.upd0 c3) (hs.upd0 u3) (c2.src (fb_one _))
  have d1 : ref11_Sums_l0 K K b ⟨w.heap.size, 0, none⟩ ⟨w1.heap.size, 0, none⟩ sp ((b.len : Nat) : Int) 0 w3 = some ((), w4) := by rw [hbl]; exact d1
  have d2 : Bk 60 w4 w1.heap.size (fb (sumsL l)) := by
    rw [List.drop_zero, sumG_eq, sumG_eq, sumG_eq, sumG_eq, F.zero_add, F.zero_add, F.zero_add, F.zero_add] at d2
    exact d2
  have a6 := ((a2.upd0 b3).upd0 c3).upd d3 (by omega)
  have g1 := d2.ldA (i := 0) (n := 4) (by rw [fb_length]; simp [sumsL])
  obtain ⟨w7, h1, h2, h3⟩ := a6.stA (o := 0) (vs := (fb (sumsL l)).toArray) (by simp [fb, ints, sumsL]) (fun v hv => fb_one _ v hv)
  have h2 : Bk 60 w7 w.heap.size (fb (sumsL l)) := h2
  have g2 := h2.ldA (i := 0) (n := 4) (by rw [fb_length]; simp [sumsL])
  have g1 : ldA 4 ⟨w1.heap.size, 0, none⟩ w4 = some (fb (sumsL l)).toArray := g1
  have g2 : ldA 4 ⟨w.heap.size, 0, none⟩ w7 = some (fb (sumsL l)).toArray := g2
  refine ⟨w7, ?_, (u3.trans' d3 fun j hj e => by omega).trans' h3 fun j hj e => by omega⟩
  unfold ref11_Sums
  have c1 : ref11_Powers K 255 w2 = some ((sp, ()), w3) := c1
  rw [a1, bnd_ok, b1, bnd_ok, c1, bnd_ok]
  dsimp only
  rw [d1, bnd_ok, g1, Option.bind_some, if_pos (by simp [fb, ints, sumsL]), h1, Option.bind_some, g2, Option.bind_some]

end Go.Sh

/- Rows of bytes that were made here. -/
set_option linter.unusedVariables false
set_option maxRecDepth 100000
namespace Go.Sh
open Go.Fw Go.Gf Go.RowKit Go.Proofs.Try

abbrev nilF : Sl := ⟨none, 0, 0⟩
abbrev slF (s : Sl) : Value := .slice s.a s.len s.cap

theorem sliceR : OneSlice prog 68 25 (.slice none 0 0) 24 := ⟨by kernel_rfl, ⟨t25, by kernel_rfl, by kernel_rfl, by kernel_rfl, by kernel_rfl⟩, by decide, rfl, rfl⟩

structure RowsAt (w : World) (rs : Sl) (ss : List Sl) (R : List (List F)) (m B N : Nat) : Prop where
  own : OwnS 25 w rs (ss.map slF)
  len : ss.length = R.length
  row : ∀ i, i < R.length → OwnS 5 w (ss.getD i nilF) (fb (R.getD i []))
  rlen : ∀ i, i < R.length → (R.getD i []).length = m
  apart : ∀ i j, i < R.length → j < R.length → i ≠ j → ∀ k, (ss.getD i nilF).blk = some k → (ss.getD j nilF).blk ≠ some k
  off : ∀ i, i < R.length → ∀ k, rs.blk = some k → (ss.getD i nilF).blk ≠ some k
  low : (∀ k, rs.blk = some k → B ≤ k ∧ k < N) ∧ ∀ i, i < R.length → ∀ k, (ss.getD i nilF).blk = some k → B ≤ k ∧ k < N

theorem RowsAt.upd {w w' : World} {rs : Sl} {ss : List Sl} {R : List (List F)} {m B N : Nat} {X : Nat → Prop} (h : RowsAt w rs ss R m B N) (u : Upd X w w') (hn : ∀ k, B ≤ k → k < N → ¬ X k) : RowsAt w' rs ss R m B N :=
  ⟨h.own.upd u fun k hk => hn k (h.low.1 k hk).1 (h.low.1 k hk).2, h.len, fun i hi => (h.row i hi).upd u fun k hk => hn k (h.low.2 i hi k hk).1 (h.low.2 i hi k hk).2, h.rlen, h.apart, h.off, h.low⟩
theorem RowsAt.upd0 {w w' : World} {rs : Sl} {ss : List Sl} {R : List (List F)} {m B N : Nat} (h : RowsAt w rs ss R m B N) (u : Upd none_ w w') : RowsAt w' rs ss R m B N := h.upd u fun _ _ _ => id
theorem RowsAt.drew {w : World} {rs : Sl} {ss : List Sl} {R : List (List F)} {m B N : Nat} (h : RowsAt w rs ss R m B N) : RowsAt w.drew rs ss R m B N := h.upd0 (Upd.refl _ _).drew
theorem RowsAt.size {w : World} {rs : Sl} {ss : List Sl} {R : List (List F)} {m B N : Nat} (h : RowsAt w rs ss R m B N) : rs.len = R.length := by rw [h.own.len, List.length_map, h.len]
theorem RowsAt.slen {w : World} {rs : Sl} {ss : List Sl} {R : List (List F)} {m B N : Nat} (h : RowsAt w rs ss R m B N) {i : Nat} (hi : i < R.length) : (ss.getD i nilF).len = m := by rw [(h.row i hi).len, fb_length, h.rlen i hi]

theorem slF_one (ss : List Sl) : ∀ v ∈ ss.map slF, v.oneCell' = true := fun v hv => by obtain ⟨s, _, rfl⟩ := List.mem_map.1 hv; rfl

/-- a header is read -/
theorem RowsAt.ld {w : World} {rs : Sl} {ss : List Sl} {R : List (List F)} {m B N : Nat} (h : RowsAt w rs ss R m B N) {i : Nat} (hi : i < R.length) : ∃ p, rs.a = some p ∧ ldS (p.add i) w = some (ss.getD i nilF) := by
  have hs := h.own.src (slF_one ss)
  have hl := h.len
  rcases hs.rd with ⟨_, _, e⟩ | ⟨p, e1, e2⟩
  · have := congrArg List.length e
    rw [List.length_map] at this
    simp at this; rw [this] at hl; simp at hl; omega
  · refine ⟨p, e1, ?_⟩
    have hv : (ss.map slF)[i]? = some (slF (ss.getD i nilF)) := by
      rw [List.getElem?_map, List.getElem?_eq_getElem (by omega), List.getD_eq_getElem?_getD, List.getElem?_eq_getElem (by omega)]; rfl
    have := e2 i _ hv
    unfold ldS
    rw [this]; rfl

/-- a cell is read -/
theorem RowsAt.cell {w : World} {rs : Sl} {ss : List Sl} {R : List (List F)} {m B N : Nat} (h : RowsAt w rs ss R m B N) {i t : Nat} (hi : i < R.length) (ht : t < m) : ∃ p, (ss.getD i nilF).a = some p ∧ ldI .u8 (p.add t) w = some (bF (Gf.E R i t)) :=
  own_cell (h.row i hi) (by rw [h.rlen i hi]; exact ht)

theorem getD_set_l {α : Type} {l : List α} {c i : Nat} (v d : α) (hc : c < l.length) : (l.set c v).getD i d = if i = c then v else l.getD i d := by
  rw [List.getD_eq_getElem?_getD]
  by_cases e : i = c
  · rw [if_pos e, e, List.getElem?_set_self hc]; rfl
  · rw [if_neg e, List.getElem?_set_ne (fun h => e h.symm), List.getD_eq_getElem?_getD]

/-- a cell is written -/
theorem RowsAt.put {w : World} {rs : Sl} {ss : List Sl} {R : List (List F)} {m B N : Nat} (h : RowsAt w rs ss R m B N) {i t : Nat} (hi : i < R.length) (ht : t < m) (v : F) :
    ∃ p w', (ss.getD i nilF).a = some p ∧ stC (p.add t) (.int .u8 (bF v)) w = some w' ∧ RowsAt w' rs ss (R.set i ((R.getD i []).set t v)) m B N ∧ Upd (fun k => B ≤ k ∧ k < N) w w' := by
  obtain ⟨p, w', a, b, c, d⟩ := own_set (h.row i hi) (i := t) (by rw [h.rlen i hi]; exact ht) v
  have hl : (R.set i ((R.getD i []).set t v)).length = R.length := List.length_set
  refine ⟨p, w', a, b, ⟨h.own.upd d fun k hk e => h.off i hi k hk e, by rw [hl]; exact h.len, fun j hj => ?_, fun j hj => ?_, fun x y hx hy => h.apart x y (by omega) (by omega), fun x hx => h.off x (by omega), h.low.1, fun x hx => h.low.2 x (by omega)⟩, d.mono fun k _ e => h.low.2 i hi k e⟩
  · rw [hl] at hj
    rw [getD_set_l _ _ hi]
    by_cases e : j = i
    · rw [if_pos e, e]; exact c
    · rw [if_neg e]
      exact (h.row j hj).upd d fun k hk e2 => h.apart i j hi hj (fun x => e x.symm) k e2 hk
  · rw [hl] at hj
    rw [getD_set_l _ _ hi]
    by_cases e : j = i
    · rw [if_pos e, List.length_set]; exact h.rlen i hi
    · rw [if_neg e]; exact h.rlen j hj

/-- two rows change their places -/
theorem RowsAt.swap {w : World} {rs : Sl} {ss : List Sl} {R : List (List F)} {m B N : Nat} (h : RowsAt w rs ss R m B N) {c a : Nat} (hc : c < R.length) (ha : a < R.length) :
    ∃ p w1 w2 ss', rs.a = some p ∧ stC (p.add c) (slF (ss.getD a nilF)) w = some w1 ∧ stC (p.add a) (slF (ss.getD c nilF)) w1 = some w2 ∧ RowsAt w2 rs ss' (Gf.swapR R c a) m B N ∧ Upd (fun k => B ≤ k ∧ k < N) w w2 := by
  have hrl := h.size
  have hsl := h.len
  obtain ⟨p, w1, a1, a2, a3, a4⟩ := h.own.st (i := c) (by omega) (slF (ss.getD a nilF))
  obtain ⟨p', w2, b1, b2, b3, b4⟩ := a3.st (i := a) (by omega) (slF (ss.getD c nilF))
  obtain rfl : p' = p := Option.some.inj (b1.symm.trans a1)
  have ec : ((ss.map slF).set c (slF (ss.getD a nilF))).set a (slF (ss.getD c nilF)) = ((ss.set c (ss.getD a nilF)).set a (ss.getD c nilF)).map slF := by
    rw [List.map_set, List.map_set]
  rw [ec] at b3
  have u2 := a4.trans' b4 fun _ _ e => e
  have hget : ∀ i, ((ss.set c (ss.getD a nilF)).set a (ss.getD c nilF)).getD i nilF = if i = a then ss.getD c nilF else if i = c then ss.getD a nilF else ss.getD i nilF := fun i => by
    rw [getD_set_l _ _ (by rw [List.length_set]; omega)]
    by_cases e : i = a
    · rw [if_pos e, if_pos e]
    · rw [if_neg e, if_neg e, getD_set_l _ _ (by omega)]
  have hRget := Gf.swap_get hc ha
  have hRl := Gf.swap_length R c a
  -- where a row comes from
  have key : ∀ i, i < R.length → ∃ j, j < R.length ∧ ((ss.set c (ss.getD a nilF)).set a (ss.getD c nilF)).getD i nilF = ss.getD j nilF ∧ (Gf.swapR R c a).getD i [] = R.getD j [] ∧ j = (if i = a then c else if i = c then a else i) := fun i hi => by
    rw [hget, hRget]
    by_cases e : i = a
    · exact ⟨c, hc, by rw [if_pos e], by rw [if_pos e], by rw [if_pos e]⟩
    · by_cases e2 : i = c
      · exact ⟨a, ha, by rw [if_neg e, if_pos e2], by rw [if_neg e, if_pos e2], by rw [if_neg e, if_pos e2]⟩
      · exact ⟨i, hi, by rw [if_neg e, if_neg e2], by rw [if_neg e, if_neg e2], by rw [if_neg e, if_neg e2]⟩
  refine ⟨p', w1, w2, (ss.set c (ss.getD a nilF)).set a (ss.getD c nilF), a1, a2, b2, ⟨b3, by rw [hRl, List.length_set, List.length_set]; exact hsl, fun i hi => ?_, fun i hi => ?_, fun i j hi hj hij => ?_, fun i hi => ?_, h.low.1, fun i hi => ?_⟩, u2.mono fun k _ e => h.low.1 k e⟩
  · rw [hRl] at hi
    obtain ⟨j, j1, j2, j3, j4⟩ := key i hi
    rw [j2, j3]
    exact (h.row j j1).upd u2 fun k hk e => h.off j j1 k e hk
  · rw [hRl] at hi
    obtain ⟨j, j1, j2, j3, j4⟩ := key i hi
    rw [j3]; exact h.rlen j j1
  · rw [hRl] at hi hj
    obtain ⟨x, x1, x2, x3, x4⟩ := key i hi
    obtain ⟨y, y1, y2, y3, y4⟩ := key j hj
    rw [x2, y2]
    refine h.apart x y x1 y1 fun e => ?_
    rw [x4, y4] at e
    split at e
    · split at e
      · omega
      · split at e <;> omega
    · split at e
      · split at e
        · omega
        · split at e <;> omega
      · split at e
        · omega
        · split at e <;> omega
  · rw [hRl] at hi
    obtain ⟨j, j1, j2, j3, j4⟩ := key i hi
    rw [j2]; exact h.off j j1
  · rw [hRl] at hi
    obtain ⟨j, j1, j2, j3, j4⟩ := key i hi
    rw [j2]; exact h.low.2 j j1

/-- a row is pushed -/
theorem RowsAt.push {w : World} {rs : Sl} {ss : List Sl} {R : List (List F)} {m B N : Nat} (h : RowsAt w rs ss R m B N) (hR : R.length ≤ 4096) {s : Sl} {r : List F} (ho : OwnS 5 w s (fb r)) (hr : r.length = m) (hs : ∀ k, s.blk = some k → N ≤ k) (hN : N ≤ w.heap.size) (hBN : B ≤ N) :
    ∃ w1 rs' w2, bldS prog 68 1 #[(0, slF s)] w = some (⟨some ⟨w.heap.size, 0, none⟩, 1, 1⟩, w1) ∧ apd prog 68 68 (.slice rs.a rs.len rs.cap) (.slice (some ⟨w.heap.size, 0, none⟩) 1 1) w1 = some (rs', w2) ∧ RowsAt w2 rs' (ss ++ [s]) (R ++ [r]) m B w2.heap.size ∧ Upd (fun k => B ≤ k ∧ k < N) w w2 := by
  obtain ⟨w1, a1, a2, a3, a4⟩ := bldS1_ok sliceR (slF s) rfl w
  have hrl := h.size
  have hsl := h.len
  obtain ⟨rs', w2, b1, b2, b3, b4, b5⟩ := apd_ok sliceR (h.own.upd0 a3) (a2.src (fun v hv => by simp only [List.mem_singleton] at hv; rw [hv]; rfl)) (by show (rs.len + 1) * 24 ≤ _; omega)
  have q1 := a3.size
  have q2 := b4.size
  have u2 : Upd (fun k => rs.blk = some k) w w2 := (a3.mono (T := fun k => rs.blk = some k) fun _ _ e => e.elim).trans' b4 fun _ _ e => e
  have hrs' : ∀ k, rs'.blk = some k → rs.blk = some k ∨ (w.heap.size < k ∧ k < w2.heap.size) := fun k hk => by
    rcases b5 with e | e
    · rw [e] at hk; exact .inl hk
    · have := b3.lt hk
      rw [e] at hk; have e2 : w1.heap.size = k := Option.some.inj hk; exact .inr (by omega)
  have hsw : ∀ k, s.blk = some k → k < w.heap.size := fun k hk => ho.lt hk
  have hg : ∀ i, i < R.length → (ss ++ [s]).getD i nilF = ss.getD i nilF := fun i hi => by
    rw [List.getD_eq_getElem?_getD, List.getElem?_append_left (by omega), ← List.getD_eq_getElem?_getD]
  have hgR : ∀ i, i < R.length → (R ++ [r]).getD i [] = R.getD i [] := fun i hi => by
    rw [List.getD_eq_getElem?_getD, List.getElem?_append_left hi, ← List.getD_eq_getElem?_getD]
  have hge : (ss ++ [s]).getD R.length nilF = s := by
    rw [List.getD_eq_getElem?_getD, List.getElem?_append_right (by omega), hsl, Nat.sub_self]; rfl
  have hgeR : (R ++ [r]).getD R.length [] = r := by
    rw [List.getD_eq_getElem?_getD, List.getElem?_append_right (by omega), Nat.sub_self]; rfl
  have cases_i : ∀ i, i < (R ++ [r]).length → i < R.length ∨ i = R.length := fun i hi => by rw [List.length_append] at hi; simp at hi; omega
  have hbm : (ss.map slF ++ [slF s]) = (ss ++ [s]).map slF := by simp
  have b3 : OwnS 25 w2 rs' ((ss ++ [s]).map slF) := by rw [← hbm]; exact b3
  refine ⟨w1, rs', w2, a1, b1, ⟨b3, by simp [hsl], fun i hi => ?_, fun i hi => ?_, fun i j hi hj hij k hk => ?_, fun i hi k hk => ?_, fun k hk => ?_, fun i hi k hk => ?_⟩, u2.mono fun k _ e => h.low.1 k e⟩
  · rcases cases_i i hi with h1 | rfl
    · rw [hg i h1, hgR i h1]
      exact (h.row i h1).upd u2 fun k hk e => h.off i h1 k e hk
    · rw [hge, hgeR]
      exact ho.upd u2 fun k hk e => by have := hs k hk; have := h.low.1 k e; omega
  · rcases cases_i i hi with h1 | rfl
    · rw [hgR i h1]; exact h.rlen i h1
    · rw [hgeR]; exact hr
  · rcases cases_i i hi with h1 | rfl
    · rw [hg i h1] at hk
      rcases cases_i j hj with h2 | rfl
      · rw [hg j h2]; exact h.apart i j h1 h2 hij k hk
      · rw [hge]
        intro e
        have := hs k e
        have := h.low.2 i h1 k hk
        omega
    · rw [hge] at hk
      rcases cases_i j hj with h2 | rfl
      · rw [hg j h2]
        intro e
        have := hs k hk
        have := h.low.2 j h2 k e
        omega
      · exact absurd rfl hij
  · rcases cases_i i hi with h1 | rfl
    · rw [hg i h1]
      intro e
      have h3 := h.low.2 i h1 k e
      rcases hrs' k hk with e2 | e2
      · exact h.off i h1 k e2 e
      · omega
    · rw [hge]
      intro e
      have h3 := hs k e
      have := hsw k e
      rcases hrs' k hk with e2 | e2
      · have := h.low.1 k e2; omega
      · omega
  · rcases hrs' k hk with e | e
    · have := h.low.1 k e; omega
    · omega
  · rcases cases_i i hi with h1 | rfl
    · rw [hg i h1] at hk
      have := h.low.2 i h1 k hk; omega
    · rw [hge] at hk
      have := hs k hk
      have := hsw k hk
      omega

theorem RowsAt.nil (w : World) (m B : Nat) : RowsAt w nilF [] [] m B B :=
  ⟨OwnS.nil _ _, rfl, fun i hi => by simp at hi, fun i hi => by simp at hi, fun i j hi => by simp at hi, fun i hi => by simp at hi, fun k hk => (by cases hk), fun i hi => by simp at hi⟩

/-- a wider range -/
theorem RowsAt.wide {w : World} {rs : Sl} {ss : List Sl} {R : List (List F)} {m B N N' : Nat} (h : RowsAt w rs ss R m B N) (hN : N ≤ N') : RowsAt w rs ss R m B N' :=
  ⟨h.own, h.len, h.row, h.rlen, h.apart, h.off, fun k hk => by have := h.low.1 k hk; omega, fun i hi k hk => by have := h.low.2 i hi k hk; omega⟩

/-- rows that are read -/
structure RowsIn (w : World) (rs : Sl) (ss : List Sl) (R : List (List F)) (m : Nat) : Prop where
  own : Fw.Src w rs (ss.map slF)
  len : ss.length = R.length
  row : ∀ i, i < R.length → BSrc w (ss.getD i nilF) (R.getD i [])
  rlen : ∀ i, i < R.length → (R.getD i []).length = m

theorem RowsAt.into {w : World} {rs : Sl} {ss : List Sl} {R : List (List F)} {m B N : Nat} (h : RowsAt w rs ss R m B N) : RowsIn w rs ss R m :=
  ⟨h.own.src (slF_one ss), h.len, fun i hi => (h.row i hi).src (fb_one _), h.rlen⟩

theorem src_upd1 {X : Nat → Prop} {w w' : World} {s : Sl} {vs : List Value} (h : Fw.Src w s vs) (u : Upd X w w') (hn : ∀ q, s.a = some q → vs ≠ [] → ¬ X q.block) : Fw.Src w' s vs :=
  ⟨h.len, h.cap, h.rd.imp id fun ⟨p, hp, hr⟩ => ⟨p, hp, hr.upd u fun hne => hn p hp hne⟩, h.one⟩

theorem RowsIn.upd {w w' : World} {rs : Sl} {ss : List Sl} {R : List (List F)} {m : Nat} {X : Nat → Prop} (h : RowsIn w rs ss R m) (u : Upd X w w') (h1 : ∀ k, X k → ¬ k < w.heap.size) : RowsIn w' rs ss R m :=
  ⟨h.own.upd0 (u.mono fun k hk e => h1 k e hk), h.len, fun i hi => (h.row i hi).upd0 (u.mono fun k hk e => h1 k e hk), h.rlen⟩
theorem RowsIn.upd0 {w w' : World} {rs : Sl} {ss : List Sl} {R : List (List F)} {m : Nat} (h : RowsIn w rs ss R m) (u : Upd none_ w w') : RowsIn w' rs ss R m := h.upd u fun _ e => e.elim

theorem RowsIn.ld {w : World} {rs : Sl} {ss : List Sl} {R : List (List F)} {m : Nat} (h : RowsIn w rs ss R m) {i : Nat} (hi : i < R.length) : ∃ p, rs.a = some p ∧ ldS (p.add i) w = some (ss.getD i nilF) := by
  have hl := h.len
  rcases h.own.rd with ⟨_, _, e⟩ | ⟨p, e1, e2⟩
  · have := congrArg List.length e
    rw [List.length_map] at this
    simp at this; rw [this] at hl; simp at hl; omega
  · refine ⟨p, e1, ?_⟩
    have hv : (ss.map slF)[i]? = some (slF (ss.getD i nilF)) := by
      rw [List.getElem?_map, List.getElem?_eq_getElem (by omega), List.getD_eq_getElem?_getD, List.getElem?_eq_getElem (by omega)]; rfl
    have := e2 i _ hv
    unfold ldS
    rw [this]; rfl
theorem RowsIn.size {w : World} {rs : Sl} {ss : List Sl} {R : List (List F)} {m : Nat} (h : RowsIn w rs ss R m) : rs.len = R.length := by rw [h.own.len, List.length_map, h.len]

end Go.Sh

/- Equations solved by the document: parts. -/
set_option linter.unusedVariables false
set_option maxRecDepth 100000
namespace Go.Sh
open Go.Fw Go.Gf Go.RowKit Go.Proofs.Try

theorem solve_copy {K : Nat} (hK : 18446744073709551616 ≤ K) {m0 : Sl} {n4 : Int} {ms : List Sl} {R : List (List F)} {m B : Nat} (hR : R.length ≤ 4096) (hm : m ≤ 4096) :
    ∀ (d i f : Nat) (w : World) (rs : Sl) (ss : List Sl), i + d = R.length → d < f → RowsAt w rs ss (R.take i) m B w.heap.size → B ≤ w.heap.size → RowsIn w m0 ms R m → (∀ k, B ≤ k → ¬ m0.blk = some k) → (∀ i, i < R.length → ∀ k, B ≤ k → ¬ (ms.getD i nilF).blk = some k) →
      ∃ rs' ss' w', ref11_Solve_l0 K f m0 n4 rs (i : Int) w = some ((rs', ()), w') ∧ RowsAt w' rs' ss' R m B w'.heap.size ∧ Upd (fun k => B ≤ k) w w' := by
  intro d
  induction d with
  | zero =>
    intro i f w rs ss hi hf h hB hm0 h1 h2
    obtain ⟨f, rfl⟩ : ∃ q, f = q + 1 := ⟨f - 1, by omega⟩
    refine ⟨rs, ss, w, ?_, by rw [List.take_of_length_le (by omega)] at h; exact h, Upd.refl _ _⟩
    show ref11_Solve_l0_b K (ref11_Solve_l0 K f) m0 n4 rs (i : Int) w = _
    unfold ref11_Solve_l0_b
    rw [if_neg (by rw [hm0.size]; simp only [decide_eq_true_eq]; omega)]
  | succ d ih =>
    intro i f w rs ss hi hf h hB hm0 h1 h2
    obtain ⟨f, rfl⟩ : ∃ q, f = q + 1 := ⟨f - 1, by omega⟩
    have hil : i < R.length := by omega
    have hms := hm0.size
    have e3 : IntKind.i64.wrap ((i : Int) + 1) = ((i + 1 : Nat) : Int) := by rw [w64 (by omega) (by omega)]; rfl
    obtain ⟨w1, a1, a2, a3⟩ := bld0_ok sliceB w
    obtain ⟨p, p1, p2⟩ := (hm0.upd0 a3).ld hil
    have c1 : (0 : Int) ≤ (i : Int) ∧ (i : Int) < ((m0.len : Nat) : Int) := by omega
    have hrow := hm0.row i hil
    have hrl := hm0.rlen i hil
    have hsl : (ms.getD i nilF).len = m := by rw [hrow.len, fb_length, hrl]
    obtain ⟨s2, w2, b1, b2, b3, b4, b5⟩ := apd_ok sliceB a2 (hrow.upd0 a3) (by show (0 + (ms.getD i nilF).len) * 1 ≤ _; omega)
    have q1 := a3.size
    have q2 := b4.size
    have u2 : Upd none_ w w2 := a3.trans' b4 fun j hj e => by have e2 : w.heap.size = j := Option.some.inj e; omega
    have hs2 : ∀ k, s2.blk = some k → w.heap.size ≤ k := fun k hk => by
      rcases b5 with e | e
      · rw [e] at hk; have e2 : w.heap.size = k := Option.some.inj hk; omega
      · rw [e] at hk; have e2 : w1.heap.size = k := Option.some.inj hk; omega
    have b3 : OwnS 5 w2 s2 (fb (R.getD i [])) := b3
    obtain ⟨w3, rs', w4, c2, c3, c4, c5⟩ := (h.upd0 u2).push (by rw [List.length_take]; omega) b3 hrl hs2 (by omega) hB
    have q4 := c5.size
    have etk : R.take i ++ [R.getD i []] = R.take (i + 1) := by
      rw [List.take_succ_eq_append_getElem hil, List.getD_eq_getElem?_getD, List.getElem?_eq_getElem hil]; rfl
    rw [etk] at c4
    have u4 : Upd (fun k => B ≤ k) w w4 := (u2.mono (T := fun k => B ≤ k) fun _ _ e => e.elim).trans' c5 fun k _ e => e.1
    have hm4 : RowsIn w4 m0 ms R m := ⟨src_upd1 hm0.own u4 fun q hq _ e => h1 q.block e (by simp [Sl.blk, hq]), hm0.len, fun j hj => src_upd1 (hm0.row j hj) u4 fun q hq _ e => h2 j hj q.block e (by unfold Sl.blk; rw [hq]; rfl), hm0.rlen⟩
    obtain ⟨rs'', ss'', w5, d1, d2, d3⟩ := ih (i + 1) f w4 rs' _ (by omega) (by omega) c4 (by omega) hm4 h1 h2
    refine ⟨rs'', ss'', w5, ?_, d2, u4.trans' d3 fun _ _ e => e⟩
    show ref11_Solve_l0_b K (ref11_Solve_l0 K f) m0 n4 rs (i : Int) w = _
    unfold ref11_Solve_l0_b
    rw [if_pos (decide_eq_true (show (i : Int) < ((m0.len : Nat) : Int) by omega)), a1, bnd_ok, p1, Option.bind_some, if_pos c1, Int.toNat_natCast, Nat.mul_one, p2, Option.bind_some]
    dsimp only
    rw [b1, bnd_ok, c2, bnd_ok]
    dsimp only
    rw [c3, bnd_ok, e3, d1]

theorem solve_pivot {K : Nat} {rs x7 : Sl} {ss : List Sl} {n4 : Int} {R : List (List F)} {m B N c : Nat} {w : World} (h : RowsAt w rs ss R m B N) (hc : c < m) (hR : R.length ≤ 4096) :
    ∀ (d i f : Nat), i + d = R.length → d + 2 < f → ref11_Solve_l2 K f n4 rs x7 (c : Int) (-1) (i : Int) w = some ((atI (Gf.pivotG R c d i), ()), w) := by
  intro d
  have hsz := h.size
  induction d with
  | zero =>
    intro i f hi hf
    obtain ⟨f, rfl⟩ : ∃ q, f = q + 1 := ⟨f - 1, by omega⟩
    show ref11_Solve_l2_b K (ref11_Solve_l2 K f) n4 rs x7 (c : Int) (-1) (i : Int) w = _
    unfold ref11_Solve_l2_b ref11_Solve_s3
    rw [if_neg (by rw [hsz]; simp only [decide_eq_true_eq]; omega), bnd_ok, if_neg (by decide)]
    rfl
  | succ d ih =>
    intro i f hi hf
    obtain ⟨f, rfl⟩ : ∃ q, f = q + 1 := ⟨f - 1, by omega⟩
    have hil : i < R.length := by omega
    have e3 : IntKind.i64.wrap ((i : Int) + 1) = ((i + 1 : Nat) : Int) := by rw [w64 (by omega) (by omega)]; rfl
    obtain ⟨p, p1, p2⟩ := h.ld hil
    obtain ⟨q, q1, q2⟩ := h.cell hil hc
    have hsl := h.slen hil
    have c1 : (0 : Int) ≤ (i : Int) ∧ (i : Int) < ((rs.len : Nat) : Int) := by omega
    have c2 : (0 : Int) ≤ (c : Int) ∧ (c : Int) < (((ss.getD i nilF).len : Nat) : Int) := by omega
    show ref11_Solve_l2_b K (ref11_Solve_l2 K f) n4 rs x7 (c : Int) (-1) (i : Int) w = _
    unfold ref11_Solve_l2_b ref11_Solve_s3
    rw [if_pos (decide_eq_true (show (i : Int) < ((rs.len : Nat) : Int) by omega)), bnd_ok, if_pos (by decide), p1, Option.bind_some, if_pos c1, Int.toNat_natCast, Nat.mul_one, p2, Option.bind_some, q1, Option.bind_some, if_pos c2, Int.toNat_natCast, Nat.mul_one, q2, Option.bind_some, e3]
    by_cases hz : Gf.E R i c = 0
    · have hp : Gf.pivotG R c (d + 1) i = Gf.pivotG R c d (i + 1) := by
        show (if Gf.E R i c ≠ 0 then some i else Gf.pivotG R c d (i + 1)) = _
        rw [if_neg (fun e => e hz)]
      rw [if_neg (by rw [bF_bne]; exact fun e => e hz), hp]
      exact ih (i + 1) f (by omega) (by omega)
    · have hp : Gf.pivotG R c (d + 1) i = some i := by
        show (if Gf.E R i c ≠ 0 then some i else Gf.pivotG R c d (i + 1)) = _
        rw [if_pos hz]
      rw [if_pos (by rw [bF_bne]; exact hz), hp]
      obtain ⟨f, rfl⟩ : ∃ q, f = q + 1 := ⟨f - 1, by omega⟩
      show ref11_Solve_l2_b K (ref11_Solve_l2 K f) n4 rs x7 (c : Int) (i : Int) ((i + 1 : Nat) : Int) w = _
      have hs3 : ref11_Solve_s3 K rs (i : Int) ((i + 1 : Nat) : Int) w = some ((false, ()), w) := by
        unfold ref11_Solve_s3
        split
        · rw [decide_eq_false (show ¬ (i : Int) < 0 by omega)]
        · rfl
      unfold ref11_Solve_l2_b
      rw [hs3, bnd_ok, if_neg (by decide)]
      rfl

/-- a row whose first k numbers are done -/
def pnorm (k : Nat) (r : List F) (by_ : F) : List F := (r.take k).map (· * by_) ++ r.drop k
theorem pnorm_get {k : Nat} {r : List F} {by_ : F} : (pnorm k r by_).getD k 0 = r.getD k 0 := by
  unfold pnorm
  rw [List.getD_eq_getElem?_getD, List.getD_eq_getElem?_getD]
  by_cases h : k ≤ r.length
  · rw [List.getElem?_append_right (by simp; omega), List.length_map, List.length_take, Nat.min_eq_left h, Nat.sub_self, List.getElem?_drop, Nat.add_zero]
  · rw [List.getElem?_eq_none (by simp; omega), List.getElem?_eq_none (by omega)]
theorem pnorm_set {k : Nat} {r : List F} {by_ : F} (h : k < r.length) : (pnorm k r by_).set k (r.getD k 0 * by_) = pnorm (k + 1) r by_ := by
  unfold pnorm
  rw [List.set_append_right _ _ (by simp; omega), List.length_map, List.length_take, Nat.min_eq_left (by omega), Nat.sub_self, List.drop_eq_getElem_cons h, List.set_cons_zero, List.take_succ_eq_append_getElem h, List.map_append]
  have : r.getD k 0 = r[k] := by rw [List.getD_eq_getElem?_getD, List.getElem?_eq_getElem h]; rfl
  rw [this]; simp

theorem getD_lt {R : List (List F)} {c : Nat} (v : List F) (hc : c < R.length) : (R.set c v).getD c [] = v := by rw [getD_set_l _ _ hc, if_pos rfl]

theorem solve_norm {K : Nat} (hK : 300 ≤ K) {rs x7 : Sl} {ss : List Sl} {n B N c : Nat} {R : List (List F)} {by_ : F} (hc : c < R.length) (hcm : (R.getD c []).length = n + 1) (hn : n ≤ 4096) (hR : R.length ≤ 4096) :
    ∀ (d k f : Nat) (w : World), k + d = n + 1 → d < f → RowsAt w rs ss (R.set c (pnorm k (R.getD c []) by_)) (n + 1) B N →
      ∃ w', ref11_Solve_l4 K f (n : Int) rs x7 (c : Int) (bF by_) (k : Int) w = some ((), w') ∧ RowsAt w' rs ss (R.set c ((R.getD c []).map (· * by_))) (n + 1) B N ∧ Upd (fun k => B ≤ k ∧ k < N) w w' := by
  intro d
  induction d with
  | zero =>
    intro k f w hk hf h
    obtain ⟨f, rfl⟩ : ∃ q, f = q + 1 := ⟨f - 1, by omega⟩
    refine ⟨w, ?_, ?_, Upd.refl _ _⟩
    · show ref11_Solve_l4_b K (ref11_Solve_l4 K f) (n : Int) rs x7 (c : Int) (bF by_) (k : Int) w = _
      unfold ref11_Solve_l4_b
      rw [if_neg (by simp only [decide_eq_true_eq]; omega)]
    · have : pnorm k (R.getD c []) by_ = (R.getD c []).map (· * by_) := by
        unfold pnorm
        rw [List.take_of_length_le (by omega), List.drop_eq_nil_of_le (by omega), List.append_nil]
      rw [this] at h; exact h
  | succ d ih =>
    intro k f w hk hf h
    obtain ⟨f, rfl⟩ : ∃ q, f = q + 1 := ⟨f - 1, by omega⟩
    have hcs : c < (R.set c (pnorm k (R.getD c []) by_)).length := by rw [List.length_set]; exact hc
    have hsz := h.size
    rw [List.length_set] at hsz
    have e3 : IntKind.i64.wrap ((k : Int) + 1) = ((k + 1 : Nat) : Int) := by rw [w64 (by omega) (by omega)]; rfl
    obtain ⟨p, p1, p2⟩ := h.drew.ld hcs
    obtain ⟨q, q1, q2⟩ := h.drew.cell hcs (t := k) (by omega)
    have hE : Gf.E (R.set c (pnorm k (R.getD c []) by_)) c k = (R.getD c []).getD k 0 := by
      unfold Gf.E
      rw [getD_lt _ hc, pnorm_get]
    rw [hE] at q2
    have hsl := h.slen hcs
    obtain ⟨q', w1, s1, s2, s3, s4⟩ := h.drew.put hcs (t := k) (by omega) ((R.getD c []).getD k 0 * by_)
    obtain rfl : q' = q := Option.some.inj (s1.symm.trans q1)
    rw [getD_lt _ hc, pnorm_set (by omega), List.set_set] at s3
    have c1 : (0 : Int) ≤ (c : Int) ∧ (c : Int) < ((rs.len : Nat) : Int) := by omega
    have c2 : (0 : Int) ≤ (k : Int) ∧ (k : Int) < (((ss.getD c nilF).len : Nat) : Int) := by omega
    obtain ⟨w2, k1, k2, k3⟩ := ih (k + 1) f w1 (by omega) (by omega) s3
    refine ⟨w2, ?_, k2, s4.predrew.trans' k3 fun _ _ e => e⟩
    show ref11_Solve_l4_b K (ref11_Solve_l4 K f) (n : Int) rs x7 (c : Int) (bF by_) (k : Int) w = _
    unfold ref11_Solve_l4_b
    rw [if_pos (decide_eq_true (show (k : Int) ≤ (n : Int) by omega)), p1, Option.bind_some, if_pos c1, Option.bind_some, if_pos c1, Int.toNat_natCast, Nat.mul_one, p2, Option.bind_some, Option.bind_some, q1, Option.bind_some, if_pos c2, Int.toNat_natCast, Nat.mul_one, q2, Option.bind_some, rtimes hK, Option.bind_some, Option.bind_some, if_pos c2]
    dsimp only
    rw [s2, Option.bind_some, e3, k1]

def pless (k : Nat) (r q : List F) (f : F) : List F := xorR (r.take k) ((q.take k).map (f * ·)) ++ r.drop k
theorem xorR_get : ∀ {l m : List F} (k : Nat), l.length = m.length → (xorR l m).getD k 0 = l.getD k 0 + m.getD k 0 := fun k h => Gf.getD_xorR k h
theorem xorR_append : ∀ {a b c d : List F}, a.length = c.length → xorR (a ++ b) (c ++ d) = xorR a c ++ xorR b d
  | [], b, [], d, _ => rfl
  | x :: a, b, y :: c, d, h => by
    show (x + y) :: xorR (a ++ b) (c ++ d) = (x + y) :: (xorR a c ++ xorR b d)
    rw [xorR_append (by simpa using h)]
  | [], _, _ :: _, _, h => by simp at h
  | _ :: _, _, [], _, h => by simp at h
theorem pless_get {k : Nat} {r q : List F} {f : F} (h : r.length = q.length) (hk : k < r.length) : (pless k r q f).getD k 0 = r.getD k 0 := by
  unfold pless
  have hl : (xorR (r.take k) ((q.take k).map (f * ·))).length = k := by rw [Gf.xorR_length (by simp; omega)]; simp; omega
  rw [List.getD_eq_getElem?_getD, List.getD_eq_getElem?_getD, List.getElem?_append_right (by omega), hl, Nat.sub_self, List.getElem?_drop, Nat.add_zero]
theorem pless_set {k : Nat} {r q : List F} {f : F} (h : r.length = q.length) (hk : k < r.length) : (pless k r q f).set k (r.getD k 0 + f * q.getD k 0) = pless (k + 1) r q f := by
  unfold pless
  have hl : (xorR (r.take k) ((q.take k).map (f * ·))).length = k := by rw [Gf.xorR_length (by simp; omega)]; simp; omega
  have h1 : r.getD k 0 = r[k] := by rw [List.getD_eq_getElem?_getD, List.getElem?_eq_getElem hk]; rfl
  have h2 : q.getD k 0 = q[k]'(by omega) := by rw [List.getD_eq_getElem?_getD, List.getElem?_eq_getElem (by omega)]; rfl
  rw [List.set_append_right _ _ (by omega), hl, Nat.sub_self, List.drop_eq_getElem_cons hk, List.set_cons_zero, List.take_succ_eq_append_getElem hk, List.take_succ_eq_append_getElem (show k < q.length by omega), List.map_append, xorR_append (by simp; omega), h1, h2]
  simp [xorR]

theorem solve_less {K : Nat} (hK : 300 ≤ K) {rs x7 : Sl} {ss : List Sl} {n B N c i : Nat} {R : List (List F)} {fac : F} (hc : c < R.length) (hi : i < R.length) (hic : i ≠ c) (hcm : (R.getD c []).length = n + 1) (him : (R.getD i []).length = n + 1) (hn : n ≤ 4096) (hR : R.length ≤ 4096) :
    ∀ (d k f : Nat) (w : World), k + d = n + 1 → d < f → RowsAt w rs ss (R.set i (pless k (R.getD i []) (R.getD c []) fac)) (n + 1) B N →
      ∃ w', ref11_Solve_l7 K f (n : Int) rs x7 (c : Int) (i : Int) (bF fac) (k : Int) w = some ((), w') ∧ RowsAt w' rs ss (R.set i (xorR (R.getD i []) ((R.getD c []).map (fac * ·)))) (n + 1) B N ∧ Upd (fun k => B ≤ k ∧ k < N) w w' := by
  intro d
  induction d with
  | zero =>
    intro k f w hk hf h
    obtain ⟨f, rfl⟩ : ∃ q, f = q + 1 := ⟨f - 1, by omega⟩
    refine ⟨w, ?_, ?_, Upd.refl _ _⟩
    · show ref11_Solve_l7_b K (ref11_Solve_l7 K f) (n : Int) rs x7 (c : Int) (i : Int) (bF fac) (k : Int) w = _
      unfold ref11_Solve_l7_b
      rw [if_neg (by simp only [decide_eq_true_eq]; omega)]
    · have : pless k (R.getD i []) (R.getD c []) fac = xorR (R.getD i []) ((R.getD c []).map (fac * ·)) := by
        unfold pless
        rw [List.take_of_length_le (by omega), List.take_of_length_le (by omega), List.drop_eq_nil_of_le (by omega), List.append_nil]
      rw [this] at h; exact h
  | succ d ih =>
    intro k f w hk hf h
    obtain ⟨f, rfl⟩ : ∃ q, f = q + 1 := ⟨f - 1, by omega⟩
    have his : i < (R.set i (pless k (R.getD i []) (R.getD c []) fac)).length := by rw [List.length_set]; exact hi
    have hcs : c < (R.set i (pless k (R.getD i []) (R.getD c []) fac)).length := by rw [List.length_set]; exact hc
    have hsz := h.size
    rw [List.length_set] at hsz
    have e3 : IntKind.i64.wrap ((k : Int) + 1) = ((k + 1 : Nat) : Int) := by rw [w64 (by omega) (by omega)]; rfl
    obtain ⟨p, p1, p2⟩ := h.drew.ld his
    obtain ⟨p', p1', p3⟩ := h.drew.ld hcs
    obtain rfl : p' = p := Option.some.inj (p1'.symm.trans p1)
    obtain ⟨q, q1, q2⟩ := h.drew.cell his (t := k) (by omega)
    obtain ⟨z, z1, z2⟩ := h.drew.cell hcs (t := k) (by omega)
    have hE : Gf.E (R.set i (pless k (R.getD i []) (R.getD c []) fac)) i k = (R.getD i []).getD k 0 := by
      unfold Gf.E
      rw [getD_lt _ hi, pless_get (by omega) (by omega)]
    have hEc : Gf.E (R.set i (pless k (R.getD i []) (R.getD c []) fac)) c k = (R.getD c []).getD k 0 := by
      unfold Gf.E
      rw [getD_set_l _ _ hi, if_neg (fun e => hic e.symm)]
    rw [hE] at q2
    rw [hEc] at z2
    have hsl := h.slen his
    have hslc := h.slen hcs
    obtain ⟨q', w1, s1, s2, s3, s4⟩ := h.drew.put his (t := k) (by omega) ((R.getD i []).getD k 0 + fac * (R.getD c []).getD k 0)
    obtain rfl : q' = q := Option.some.inj (s1.symm.trans q1)
    rw [getD_lt _ hi, pless_set (by omega) (by omega), List.set_set] at s3
    have c1 : (0 : Int) ≤ (i : Int) ∧ (i : Int) < ((rs.len : Nat) : Int) := by omega
    have c1c : (0 : Int) ≤ (c : Int) ∧ (c : Int) < ((rs.len : Nat) : Int) := by omega
    have c2 : (0 : Int) ≤ (k : Int) ∧ (k : Int) < (((ss.getD i nilF).len : Nat) : Int) := by omega
    have c3 : (0 : Int) ≤ (k : Int) ∧ (k : Int) < (((ss.getD c nilF).len : Nat) : Int) := by omega
    obtain ⟨w2, k1, k2, k3⟩ := ih (k + 1) f w1 (by omega) (by omega) s3
    refine ⟨w2, ?_, k2, s4.predrew.trans' k3 fun _ _ e => e⟩
    show ref11_Solve_l7_b K (ref11_Solve_l7 K f) (n : Int) rs x7 (c : Int) (i : Int) (bF fac) (k : Int) w = _
    unfold ref11_Solve_l7_b
    rw [if_pos (decide_eq_true (show (k : Int) ≤ (n : Int) by omega)), p1, Option.bind_some, if_pos c1, Option.bind_some, if_pos c1, Option.bind_some, if_pos c1c, Int.toNat_natCast, Nat.mul_one, p2, Option.bind_some, Option.bind_some, q1, Option.bind_some, if_pos c2, Int.toNat_natCast, Nat.mul_one, q2, Option.bind_some, Int.toNat_natCast, Nat.mul_one, p3, Option.bind_some, z1, Option.bind_some, if_pos c3, z2, Option.bind_some, rtimes hK, Option.bind_some, Option.bind_some, if_pos c2]
    dsimp only
    rw [addF, s2, Option.bind_some, e3, k1]

end Go.Sh

/- Equations solved by the document. -/
set_option linter.unusedVariables false
set_option maxRecDepth 100000
namespace Go.Sh
open Go.Fw Go.Gf Go.RowKit Go.Proofs.Try

def elimP (R : List (List F)) (c i : Nat) : List (List F) := R.mapIdx fun j r => if j < i ∧ j ≠ c then Gf.lessR (R.getD c []) c r else r
theorem elimP_length (R : List (List F)) (c i : Nat) : (elimP R c i).length = R.length := by simp [elimP]
theorem elimP_get {R : List (List F)} {c i j : Nat} (hj : j < R.length) : (elimP R c i).getD j [] = if j < i ∧ j ≠ c then Gf.lessR (R.getD c []) c (R.getD j []) else R.getD j [] := by
  unfold elimP
  rw [List.getD_eq_getElem?_getD, List.getElem?_mapIdx, List.getElem?_eq_getElem hj]
  simp [List.getD_eq_getElem?_getD, List.getElem?_eq_getElem hj]
theorem list_ext_getD {A B : List (List F)} (h : A.length = B.length) (hg : ∀ j, j < A.length → A.getD j [] = B.getD j []) : A = B := by
  apply List.ext_getElem h
  intro j h1 h2
  have := hg j h1
  rwa [List.getD_eq_getElem?_getD, List.getD_eq_getElem?_getD, List.getElem?_eq_getElem h1, List.getElem?_eq_getElem h2] at this
theorem elimP_zero (R : List (List F)) (c : Nat) : elimP R c 0 = R := list_ext_getD (elimP_length _ _ _) fun j hj => by
  rw [elimP_length] at hj
  rw [elimP_get hj, if_neg (by omega)]
theorem elimP_all (R : List (List F)) (c : Nat) : elimP R c R.length = Gf.elimR R c := list_ext_getD (by rw [elimP_length, Gf.elim_length]) fun j hj => by
  rw [elimP_length] at hj
  rw [elimP_get hj, Gf.elim_get hj]
  by_cases e : j = c
  · rw [if_neg (by omega), if_pos e]
  · rw [if_pos ⟨hj, e⟩, if_neg e]
theorem xorR_zero : ∀ {l m : List F}, l.length = m.length → xorR l (m.map ((0 : F) * ·)) = l
  | [], [], _ => rfl
  | a :: l, b :: m, h => by
    show (a + 0 * b) :: xorR l (m.map ((0 : F) * ·)) = a :: l
    rw [F.zero_mul, F.add_zero, xorR_zero (by simpa using h)]
  | [], _ :: _, h => by simp at h
  | _ :: _, [], h => by simp at h
theorem elimP_same {R : List (List F)} {c i : Nat} (hi : i < R.length) (h : i = c ∨ (Gf.E R i c = 0 ∧ (R.getD i []).length = (R.getD c []).length)) : elimP R c (i + 1) = elimP R c i := list_ext_getD (by rw [elimP_length, elimP_length]) fun j hj => by
  rw [elimP_length] at hj
  rw [elimP_get hj, elimP_get hj]
  by_cases e : j = i
  · subst e
    rcases h with h | ⟨h1, h2⟩
    · rw [if_neg (by omega), if_neg (by omega)]
    · rw [if_neg (show ¬ (j < j ∧ j ≠ c) by omega)]
      by_cases ec : j = c
      · rw [if_neg (by omega)]
      · rw [if_pos ⟨by omega, ec⟩]
        unfold Gf.lessR
        have : (R.getD j []).getD c 0 = 0 := h1
        rw [this, xorR_zero h2]
  · by_cases c1 : j < i ∧ j ≠ c
    · rw [if_pos c1, if_pos ⟨by omega, c1.2⟩]
    · rw [if_neg c1, if_neg (by omega)]
theorem elimP_step {R : List (List F)} {c i : Nat} (hi : i < R.length) (hic : i ≠ c) : elimP R c (i + 1) = (elimP R c i).set i (Gf.lessR (R.getD c []) c (R.getD i [])) := list_ext_getD (by rw [elimP_length, List.length_set, elimP_length]) fun j hj => by
  rw [elimP_length] at hj
  rw [elimP_get hj, getD_set_l _ _ (by rw [elimP_length]; exact hi), elimP_get hj]
  by_cases e : j = i
  · subst e
    rw [if_pos ⟨by omega, hic⟩, if_pos rfl]
  · rw [if_neg e]
    by_cases c1 : j < i ∧ j ≠ c
    · rw [if_pos c1, if_pos ⟨by omega, c1.2⟩]
    · rw [if_neg c1, if_neg (by omega)]

theorem solve_elim {K : Nat} (hK : 18446744073709551616 ≤ K) {rs x7 : Sl} {ss : List Sl} {n B N c : Nat} {R : List (List F)} (hc : c < R.length) (hcn : c < n + 1) (hn : n ≤ 4096) (hR : R.length ≤ 4096) (hrl : ∀ i, i < R.length → (R.getD i []).length = n + 1) :
    ∀ (d i f : Nat) (w : World), i + d = R.length → d < f → RowsAt w rs ss (elimP R c i) (n + 1) B N →
      ∃ w', ref11_Solve_l5 K f (n : Int) rs x7 (c : Int) (i : Int) w = some ((), w') ∧ RowsAt w' rs ss (Gf.elimR R c) (n + 1) B N ∧ Upd (fun k => B ≤ k ∧ k < N) w w' := by
  intro d
  induction d with
  | zero =>
    intro i f w hi hf h
    obtain ⟨f, rfl⟩ : ∃ q, f = q + 1 := ⟨f - 1, by omega⟩
    have hsz := h.size
    rw [elimP_length] at hsz
    refine ⟨w, ?_, by rw [show i = R.length by omega, elimP_all] at h; exact h, Upd.refl _ _⟩
    show ref11_Solve_l5_b K (ref11_Solve_l5 K f) (n : Int) rs x7 (c : Int) (i : Int) w = _
    unfold ref11_Solve_l5_b
    rw [if_neg (by rw [hsz]; simp only [decide_eq_true_eq]; omega)]
  | succ d ih =>
    intro i f w hi hf h
    obtain ⟨f, rfl⟩ : ∃ q, f = q + 1 := ⟨f - 1, by omega⟩
    have hil : i < R.length := by omega
    have hsz := h.size
    rw [elimP_length] at hsz
    have e3 : IntKind.i64.wrap ((i : Int) + 1) = ((i + 1 : Nat) : Int) := by rw [w64 (by omega) (by omega)]; rfl
    have hip : i < (elimP R c i).length := by rw [elimP_length]; exact hil
    have hcp : c < (elimP R c i).length := by rw [elimP_length]; exact hc
    have hgi : (elimP R c i).getD i [] = R.getD i [] := by rw [elimP_get hil, if_neg (by omega)]
    have hgc : (elimP R c i).getD c [] = R.getD c [] := by rw [elimP_get hc, if_neg (by omega)]
    have c1 : (0 : Int) ≤ (i : Int) ∧ (i : Int) < ((rs.len : Nat) : Int) := by omega
    show ∃ w', ref11_Solve_l5_b K (ref11_Solve_l5 K f) (n : Int) rs x7 (c : Int) (i : Int) w = some ((), w') ∧ _
    unfold ref11_Solve_l5_b ref11_Solve_s6
    rw [if_pos (decide_eq_true (show (i : Int) < ((rs.len : Nat) : Int) by omega)), e3]
    by_cases hic : i = c
    · rw [if_pos (by rw [hic]; simp), bnd_ok, if_pos rfl]
      exact ih (i + 1) f w (by omega) (by omega) (by rw [elimP_same hil (.inl hic)]; exact h)
    · obtain ⟨p, p1, p2⟩ := h.ld hip
      obtain ⟨q, q1, q2⟩ := h.cell hip hcn
      have hsl := h.slen hip
      have hE : Gf.E (elimP R c i) i c = Gf.E R i c := by unfold Gf.E; rw [hgi]
      rw [hE] at q2
      have c2 : (0 : Int) ≤ (c : Int) ∧ (c : Int) < (((ss.getD i nilF).len : Nat) : Int) := by omega
      rw [if_neg (by rw [beq_iff_eq]; omega), p1, Option.bind_some, if_pos c1, Int.toNat_natCast, Nat.mul_one, p2, Option.bind_some, q1, Option.bind_some, if_pos c2, Int.toNat_natCast, Nat.mul_one, q2, Option.bind_some, bnd_ok]
      dsimp only
      by_cases hz : Gf.E R i c = 0
      · rw [if_pos (by rw [bF_beq]; exact hz)]
        exact ih (i + 1) f w (by omega) (by omega) (by rw [elimP_same hil (.inr ⟨hz, by rw [hrl i hil, hrl c hc]⟩)]; exact h)
      · rw [if_neg (by rw [bF_beq]; exact hz), Option.bind_some, if_pos c1, p2, Option.bind_some, q1, Option.bind_some, if_pos c2, q2, Option.bind_some]
        have h0 : RowsAt w rs ss ((elimP R c i).set i (pless 0 ((elimP R c i).getD i []) ((elimP R c i).getD c []) (Gf.E R i c))) (n + 1) B N := by
          have e0 : pless 0 ((elimP R c i).getD i []) ((elimP R c i).getD c []) (Gf.E R i c) = (elimP R c i).getD i [] := by simp [pless, xorR]
          rw [e0]
          have : (elimP R c i).set i ((elimP R c i).getD i []) = elimP R c i := by
            rw [List.getD_eq_getElem?_getD, List.getElem?_eq_getElem hip]
            exact List.set_getElem_self hip
          rw [this]; exact h
        obtain ⟨w1, a1, a2, a3⟩ := solve_less (K := K) (by omega) (x7 := x7) hcp hip hic (by rw [hgc]; exact hrl c hc) (by rw [hgi]; exact hrl i hil) hn (by rw [elimP_length]; exact hR) (n + 1) 0 K w (by omega) (by omega) h0
        have a1 : ref11_Solve_l7 K K (n : Int) rs x7 (c : Int) (i : Int) (bF (Gf.E R i c)) 0 w = some ((), w1) := a1
        rw [hgi, hgc] at a2
        have hst : (elimP R c i).set i (xorR (R.getD i []) ((R.getD c []).map (Gf.E R i c * ·))) = elimP R c (i + 1) := (elimP_step hil hic).symm
        rw [hst] at a2
        obtain ⟨w2, b1, b2, b3⟩ := ih (i + 1) f w1 (by omega) (by omega) a2
        exact ⟨w2, by rw [a1, bnd_ok, b1], b2, a3.trans' b3 fun _ _ e => e⟩

theorem solve_l1 {K : Nat} (hK : 18446744073709551616 ≤ K) {rs : Sl} {n B N : Nat} (hn : n ≤ 4096) :
    ∀ (d c f : Nat) (w : World) (ss : List Sl) (R : List (List F)) (x : Sl), c + d = n → d < f → R.length ≤ 4096 → RowsAt w rs ss R (n + 1) B N → B ≤ N → N ≤ w.heap.size → OwnS 5 w x (fb (List.replicate c 0)) → (∀ k, x.blk = some k → N ≤ k) →
      match Gf.solveG R d c with
      | none => ∃ w', ref11_Solve_l1 K f (n : Int) rs x (c : Int) w = some (.ret (nilF, false, ()), w') ∧ Upd (fun k => B ≤ k) w w'
      | some R' => ∃ x' ss' w', ref11_Solve_l1 K f (n : Int) rs x (c : Int) w = some (.norm (x', ()), w') ∧ RowsAt w' rs ss' R' (n + 1) B N ∧ OwnS 5 w' x' (fb (List.replicate n 0)) ∧ (∀ k, x'.blk = some k → N ≤ k) ∧ Upd (fun k => B ≤ k) w w' := by
  intro d
  induction d with
  | zero =>
    intro c f w ss R x hc hf hR h hBN hN hx hxN
    obtain ⟨f, rfl⟩ : ∃ q, f = q + 1 := ⟨f - 1, by omega⟩
    obtain rfl : c = n := by omega
    refine ⟨x, ss, w, ?_, h, hx, hxN, Upd.refl _ _⟩
    show ref11_Solve_l1_b K (ref11_Solve_l1 K f) (c : Int) rs x (c : Int) w = _
    unfold ref11_Solve_l1_b
    rw [if_neg (by simp)]
  | succ d ih =>
    intro c f w ss R x hc hf hR h hBN hN hx hxN
    obtain ⟨f, rfl⟩ : ∃ q, f = q + 1 := ⟨f - 1, by omega⟩
    have hcn : c < n := by omega
    have hsz := h.size
    have e3 : IntKind.i64.wrap ((c : Int) + 1) = ((c + 1 : Nat) : Int) := by rw [w64 (by omega) (by omega)]; rfl
    obtain ⟨w1, x2, w2, a1, a2, a3, a4, a5⟩ := push_fb hx (by rw [List.length_replicate]; omega) 0
    have a1 : bldS prog 25 1 #[(0, (.int .u8 0))] w = some (⟨some ⟨w.heap.size, 0, none⟩, 1, 1⟩, w1) := a1
    have erep : List.replicate c (0 : F) ++ [0] = List.replicate (c + 1) 0 := by rw [← List.replicate_succ']
    rw [erep] at a3
    have q2 := a4.size
    have hx2 : ∀ k, x2.blk = some k → N ≤ k := fun k hk => (a5 k hk).elim (hxN k) fun e => by omega
    have h2 := h.upd a4 fun k h1 h2 e => by have := hxN k e; omega
    have u2 : Upd (fun k => B ≤ k) w w2 := a4.mono fun k _ e => by have := hxN k e; omega
    have hun : ref11_Solve_l1 K (f + 1) (n : Int) rs x (c : Int) w = ref11_Solve_l1_b K (ref11_Solve_l1 K f) (n : Int) rs x (c : Int) w := rfl
    have hsg : Gf.solveG R (d + 1) c = (Gf.stepS R c).bind fun r => Gf.solveG r d (c + 1) := rfl
    rw [hun, hsg]
    unfold ref11_Solve_l1_b
    rw [if_pos (decide_eq_true (show (c : Int) < (n : Int) by omega)), a1, bnd_ok]
    dsimp only
    rw [a2, bnd_ok]
    by_cases hcR : c < R.length
    · have hpv := solve_pivot (K := K) (x7 := x2) (n4 := (n : Int)) h2 (c := c) (by omega) hR (R.length - c) c K (by omega) (by omega)
      rw [hpv, bnd_ok]
      unfold Gf.stepS
      cases hp : Gf.pivotG R c (R.length - c) c with
      | none =>
        exact ⟨w2, by rw [if_pos (by decide)], u2⟩
      | some a =>
        obtain ⟨ha1, ha2, ha3⟩ := Gf.pivot_some _ _ _ hp
        have haR : a < R.length := by omega
        have eat : atI (some a) = (a : Int) := rfl
        rw [eat]
        dsimp only
        have ca : (0 : Int) ≤ (a : Int) ∧ (a : Int) < ((rs.len : Nat) : Int) := by omega
        have cc : (0 : Int) ≤ (c : Int) ∧ (c : Int) < ((rs.len : Nat) : Int) := by omega
        obtain ⟨p, p1, p2⟩ := h2.drew.ld haR
        obtain ⟨p', p1', p3⟩ := h2.drew.ld hcR
        obtain rfl : p' = p := Option.some.inj (p1'.symm.trans p1)
        obtain ⟨q, w3, w4, ss', s1, s2, s3, s4, s5⟩ := h2.drew.swap hcR haR
        obtain rfl : q = p' := Option.some.inj (s1.symm.trans p1)
        have hcS : c < (Gf.swapR R c a).length := by rw [Gf.swap_length]; exact hcR
        obtain ⟨r, r1, r2⟩ := s4.ld hcS
        obtain rfl : r = q := Option.some.inj (r1.symm.trans p1)
        obtain ⟨z, z1, z2⟩ := s4.cell hcS (t := c) (by omega)
        have hsl := s4.slen hcS
        have hEc : Gf.E (Gf.swapR R c a) c c = Gf.E R a c := by
          unfold Gf.E
          rw [Gf.swap_get hcR haR]
          by_cases e : c = a
          · rw [if_pos e, e]
          · rw [if_neg e, if_pos rfl]
        have hne : Gf.E (Gf.swapR R c a) c c ≠ 0 := by rw [hEc]; exact ha3
        have hov := rover_ok (K := K) (by omega) 1 hne
        rw [F.one_mul] at hov
        have hov : ref11_over K 1 (bF (Gf.E (Gf.swapR R c a) c c)) = some (bF (Gf.E (Gf.swapR R c a) c c).inv, ()) := hov
        have c2 : (0 : Int) ≤ (c : Int) ∧ (c : Int) < (((ss'.getD c nilF).len : Nat) : Int) := by omega
        have u4 : Upd (fun k => B ≤ k) w w4 := u2.trans' (s5.predrew.mono (T := fun k => B ≤ k) fun _ _ e => e.1) fun _ _ e => e
        have h0 : RowsAt w4 rs ss' ((Gf.swapR R c a).set c (pnorm 0 ((Gf.swapR R c a).getD c []) (Gf.E (Gf.swapR R c a) c c).inv)) (n + 1) B N := by
          have e0 : pnorm 0 ((Gf.swapR R c a).getD c []) (Gf.E (Gf.swapR R c a) c c).inv = (Gf.swapR R c a).getD c [] := by simp [pnorm]
          rw [e0]
          have : (Gf.swapR R c a).set c ((Gf.swapR R c a).getD c []) = Gf.swapR R c a := by
            rw [List.getD_eq_getElem?_getD, List.getElem?_eq_getElem hcS]
            exact List.set_getElem_self hcS
          rw [this]; exact s4
        obtain ⟨w5, b1, b2, b3⟩ := solve_norm (K := K) (by omega) (x7 := x2) hcS (s4.rlen c hcS) hn (by rw [Gf.swap_length]; exact hR) (n + 1) 0 K w4 (by omega) (by omega) h0
        have b1 : ref11_Solve_l4 K K (n : Int) rs x2 (c : Int) (bF (Gf.E (Gf.swapR R c a) c c).inv) 0 w4 = some ((), w5) := b1
        have b2 : RowsAt w5 rs ss' (Gf.normR (Gf.swapR R c a) c) (n + 1) B N := b2
        have hNl : (Gf.normR (Gf.swapR R c a) c).length = R.length := by rw [Gf.norm_length, Gf.swap_length]
        obtain ⟨w6, d1, d2, d3⟩ := solve_elim hK (x7 := x2) (rs := rs) (ss := ss') (R := Gf.normR (Gf.swapR R c a) c) (by rw [hNl]; exact hcR) (show c < n + 1 by omega) hn (by rw [hNl]; exact hR) (fun i hi => b2.rlen i hi) R.length 0 K w5 (by rw [hNl]; omega) (by omega) (by rw [elimP_zero]; exact b2)
        have d1 : ref11_Solve_l5 K K (n : Int) rs x2 (c : Int) 0 w5 = some ((), w6) := d1
        have u26 : Upd (fun k => B ≤ k ∧ k < N) w2 w6 := (s5.predrew.trans' b3 fun _ _ e => e).trans' d3 fun _ _ e => e
        have q6 := u26.size
        have hx6 := a3.upd u26 fun k hk e => by have := hx2 k hk; omega
        have u6 : Upd (fun k => B ≤ k) w w6 := u2.trans' (u26.mono (T := fun k => B ≤ k) fun _ _ e => e.1) fun _ _ e => e
        have hEl : (Gf.elimR (Gf.normR (Gf.swapR R c a) c) c).length = R.length := by rw [Gf.elim_length, hNl]
        have hrec := ih (c + 1) f w6 ss' _ x2 (by omega) (by omega) (by rw [hEl]; exact hR) d2 hBN (by omega) hx6 hx2
        have hrun : (if decide ((a : Int) < 0) = true then some (.ret (nilF, false, ()), w2) else ((rs.a).bind fun p_27 =>
  if (0 : Int) ≤ (a : Int) ∧ (a : Int) < ((rs.len : Nat) : Int) then ((rs.a).bind fun p_28 =>
  if (0 : Int) ≤ (c : Int) ∧ (c : Int) < ((rs.len : Nat) : Int) then ((ldS (p_27.add ((Int.toNat (a : Int)) * 1)) w2.drew).bind fun v_29 =>
  (ldS (p_28.add ((Int.toNat (c : Int)) * 1)) w2.drew).bind fun v_30 =>
  (rs.a).bind fun p_31 =>
  if (0 : Int) ≤ (c : Int) ∧ (c : Int) < ((rs.len : Nat) : Int) then ((stC (p_31.add ((Int.toNat (c : Int)) * 1)) (.slice v_29.a v_29.len v_29.cap) w2.drew).bind fun w_32 =>
  (rs.a).bind fun p_33 =>
  if (0 : Int) ≤ (a : Int) ∧ (a : Int) < ((rs.len : Nat) : Int) then ((stC (p_33.add ((Int.toNat (a : Int)) * 1)) (.slice v_30.a v_30.len v_30.cap) w_32).bind fun w_34 =>
  (rs.a).bind fun p_35 =>
  if (0 : Int) ≤ (c : Int) ∧ (c : Int) < ((rs.len : Nat) : Int) then ((ldS (p_35.add ((Int.toNat (c : Int)) * 1)) w_34).bind fun v_36 =>
  (v_36.a).bind fun p_37 =>
  if (0 : Int) ≤ (c : Int) ∧ (c : Int) < ((v_36.len : Nat) : Int) then ((ldI .u8 (p_37.add ((Int.toNat (c : Int)) * 1)) w_34).bind fun v_38 =>
  (ref11_over K 1 v_38).bind fun r_39 =>
  bnd (ref11_Solve_l4 K K (n : Int) rs x2 (c : Int) r_39.1 0 w_34) fun y_49 w_50 =>
  bnd (ref11_Solve_l5 K K (n : Int) rs x2 (c : Int) 0 w_50) fun y_76 w_77 =>
  ref11_Solve_l1 K f (n : Int) rs x2 (IntKind.i64.wrap ((c : Int) + 1)) w_77) else none) else none) else none) else none) else none) else none)) = ref11_Solve_l1 K f (n : Int) rs x2 ((c + 1 : Nat) : Int) w6 := by
          rw [if_neg (by simp only [decide_eq_true_eq]; omega), p1, Option.bind_some, if_pos ca, Option.bind_some, if_pos cc, Int.toNat_natCast, Nat.mul_one, p2, Option.bind_some, Int.toNat_natCast, Nat.mul_one, p3, Option.bind_some, Option.bind_some, if_pos cc]
          rw [s2, Option.bind_some, Option.bind_some, if_pos ca, s3, Option.bind_some, Option.bind_some, if_pos cc, r2, Option.bind_some, z1, Option.bind_some, if_pos c2, z2, Option.bind_some, hov, Option.bind_some]
          dsimp only
          rw [b1, bnd_ok, d1, bnd_ok, e3]
        rw [hrun, Option.map_some, Option.bind_some]
        cases hs : Gf.solveG (Gf.elimR (Gf.normR (Gf.swapR R c a) c) c) d (c + 1) with
        | none =>
          rw [hs] at hrec
          obtain ⟨w7, k1, k2⟩ := hrec
          exact ⟨w7, k1, u6.trans' k2 fun _ _ e => e⟩
        | some R' =>
          rw [hs] at hrec
          obtain ⟨x', ss'', w7, k1, k2, k3, k4, k5⟩ := hrec
          exact ⟨x', ss'', w7, k1, k2, k3, k4, u6.trans' k5 fun _ _ e => e⟩
    · have hlz : R.length - c = 0 := by omega
      have hpv : ref11_Solve_l2 K K (n : Int) rs x2 (c : Int) (-1) (c : Int) w2 = some ((-1, ()), w2) := by
        obtain ⟨k, hk⟩ : ∃ k, K = k + 1 := ⟨K - 1, by omega⟩
        have gen : ∀ m, m = k + 1 → ref11_Solve_l2 K m (n : Int) rs x2 (c : Int) (-1) (c : Int) w2 = some ((-1, ()), w2) := fun m hm => by
          rw [hm]
          show ref11_Solve_l2_b K (ref11_Solve_l2 K k) (n : Int) rs x2 (c : Int) (-1) (c : Int) w2 = _
          unfold ref11_Solve_l2_b ref11_Solve_s3
          rw [if_neg (by rw [hsz]; simp only [decide_eq_true_eq]; omega), bnd_ok, if_neg (by decide)]
        exact gen K hk
      have hss : Gf.stepS R c = none := by unfold Gf.stepS; rw [hlz]; rfl
      rw [hpv, bnd_ok, hss]
      exact ⟨w2, by rw [if_pos (by decide)], u2⟩

end Go.Sh

/- Equations solved by the document, whole; its Coded. -/
set_option linter.unusedVariables false
set_option maxRecDepth 100000
namespace Go.Sh
open Go.Fw Go.Gf Go.RowKit Go.Proofs.Try

theorem solve_rest {K : Nat} {rs x7 : Sl} {ss : List Sl} {R : List (List F)} {n B N : Nat} {w : World} (hR : R.length ≤ 4096) (h : RowsAt w rs ss R (n + 1) B N) :
    ∀ (d i f : Nat), i + d = R.length ∨ (d = 0 ∧ R.length ≤ i ∧ i ≤ 4096) → d < f → ref11_Solve_l8 K f (n : Int) rs x7 (i : Int) w = some (if Gf.restG R n d i = true then (.norm (), w) else (.ret (nilF, false, ()), w)) := by
  have hsz := h.size
  intro d
  induction d with
  | zero =>
    intro i f hi hf
    obtain ⟨f, rfl⟩ : ∃ q, f = q + 1 := ⟨f - 1, by omega⟩
    show ref11_Solve_l8_b K (ref11_Solve_l8 K f) (n : Int) rs x7 (i : Int) w = _
    unfold ref11_Solve_l8_b
    rw [if_neg (by rw [hsz]; simp only [decide_eq_true_eq]; omega)]
    rfl
  | succ d ih =>
    intro i f hi hf
    obtain ⟨f, rfl⟩ : ∃ q, f = q + 1 := ⟨f - 1, by omega⟩
    have hil : i < R.length := by omega
    have e3 : IntKind.i64.wrap ((i : Int) + 1) = ((i + 1 : Nat) : Int) := by rw [w64 (by omega) (by omega)]; rfl
    obtain ⟨p, p1, p2⟩ := h.ld hil
    obtain ⟨q, q1, q2⟩ := h.cell hil (t := n) (by omega)
    have hsl := h.slen hil
    have c1 : (0 : Int) ≤ (i : Int) ∧ (i : Int) < ((rs.len : Nat) : Int) := by omega
    have c2 : (0 : Int) ≤ (n : Int) ∧ (n : Int) < (((ss.getD i nilF).len : Nat) : Int) := by omega
    show ref11_Solve_l8_b K (ref11_Solve_l8 K f) (n : Int) rs x7 (i : Int) w = _
    unfold ref11_Solve_l8_b
    rw [if_pos (decide_eq_true (show (i : Int) < ((rs.len : Nat) : Int) by omega)), p1, Option.bind_some, if_pos c1, Int.toNat_natCast, Nat.mul_one, p2, Option.bind_some, q1, Option.bind_some, if_pos c2, Int.toNat_natCast, Nat.mul_one, q2, Option.bind_some, e3]
    have hg : Gf.restG R n (d + 1) i = if Gf.E R i n = 0 then Gf.restG R n d (i + 1) else false := rfl
    rw [hg]
    by_cases hz : Gf.E R i n = 0
    · rw [if_neg (by rw [bF_bne]; exact fun e => e hz), if_pos hz]
      exact ih (i + 1) f (by omega) (by omega)
    · rw [if_pos (by rw [bF_bne]; exact hz), if_neg hz, if_neg (by decide)]

theorem solve_out {K : Nat} {rs x7 : Sl} {ss : List Sl} {R : List (List F)} {n B N : Nat} (hn : n ≤ 4096) (hRn : n ≤ R.length) (hR : R.length ≤ 4096) (hxN : ∀ k, x7.blk = some k → N ≤ k) :
    ∀ (d c f : Nat) (w : World) (x : List F), c + d = n → d < f → RowsAt w rs ss R (n + 1) B N → x.length = n → OwnS 5 w x7 (fb x) →
      ∃ w', ref11_Solve_l9 K f (n : Int) rs x7 (c : Int) w = some ((), w') ∧ OwnS 5 w' x7 (fb (x.take c ++ ((List.range n).map fun c => Gf.E R c n).drop c)) ∧ Upd (fun k => x7.blk = some k) w w' := by
  intro d
  induction d with
  | zero =>
    intro c f w x hc hf h hxl hx
    obtain ⟨f, rfl⟩ : ∃ q, f = q + 1 := ⟨f - 1, by omega⟩
    refine ⟨w, ?_, ?_, Upd.refl _ _⟩
    · show ref11_Solve_l9_b K (ref11_Solve_l9 K f) (n : Int) rs x7 (c : Int) w = _
      unfold ref11_Solve_l9_b
      rw [if_neg (by simp only [decide_eq_true_eq]; omega)]
    · rw [List.take_of_length_le (by omega), List.drop_eq_nil_of_le (by simp; omega), List.append_nil]
      exact hx
  | succ d ih =>
    intro c f w x hc hf h hxl hx
    obtain ⟨f, rfl⟩ : ∃ q, f = q + 1 := ⟨f - 1, by omega⟩
    have hcR : c < R.length := by omega
    have hsz := h.size
    have e3 : IntKind.i64.wrap ((c : Int) + 1) = ((c + 1 : Nat) : Int) := by rw [w64 (by omega) (by omega)]; rfl
    obtain ⟨p, p1, p2⟩ := h.ld hcR
    obtain ⟨q, q1, q2⟩ := h.cell hcR (t := n) (by omega)
    have hsl := h.slen hcR
    obtain ⟨z, w1, s1, s2, s3, s4⟩ := own_set hx (i := c) (by omega) (Gf.E R c n)
    have c1 : (0 : Int) ≤ (c : Int) ∧ (c : Int) < ((rs.len : Nat) : Int) := by omega
    have c2 : (0 : Int) ≤ (n : Int) ∧ (n : Int) < (((ss.getD c nilF).len : Nat) : Int) := by omega
    have hxlen : x7.len = n := by rw [hx.len, fb_length, hxl]
    have c3 : (0 : Int) ≤ (c : Int) ∧ (c : Int) < ((x7.len : Nat) : Int) := by omega
    obtain ⟨w2, k1, k2, k3⟩ := ih (c + 1) f w1 _ (by omega) (by omega) (h.upd s4 fun k h1 h2 e => by have := hxN k e; omega) (by rw [List.length_set]; exact hxl) s3
    refine ⟨w2, ?_, ?_, s4.trans' k3 fun _ _ e => e⟩
    · show ref11_Solve_l9_b K (ref11_Solve_l9 K f) (n : Int) rs x7 (c : Int) w = _
      unfold ref11_Solve_l9_b
      rw [if_pos (decide_eq_true (show (c : Int) < (n : Int) by omega)), p1, Option.bind_some, if_pos c1, Int.toNat_natCast, Nat.mul_one, p2, Option.bind_some, q1, Option.bind_some, if_pos c2, Int.toNat_natCast, Nat.mul_one, q2, Option.bind_some, s1, Option.bind_some, if_pos c3, s2, Option.bind_some, e3, k1]
    · have e1 : (x.set c (Gf.E R c n)).take (c + 1) = x.take c ++ [Gf.E R c n] := by
        rw [List.take_succ_eq_append_getElem (by rw [List.length_set]; omega)]
        simp [List.take_set_of_le]
      have e2 : ((List.range n).map fun c => Gf.E R c n).drop c = Gf.E R c n :: ((List.range n).map fun c => Gf.E R c n).drop (c + 1) := by
        rw [List.drop_eq_getElem_cons (by simp; omega)]
        simp
      rw [e1, List.append_assoc] at k2
      rw [e2]
      exact k2

theorem rsolve_ok {K : Nat} (hK : 18446744073709551616 ≤ K) {w : World} {m0 : Sl} {ms : List Sl} {R : List (List F)} {n : Nat} (hm : RowsIn w m0 ms R (n + 1)) (hR0 : 0 < R.length) (hR : R.length ≤ 4096) (hn : n ≤ 4095) (h1 : ∀ k, m0.blk = some k → k < w.heap.size) (h2 : ∀ i, i < R.length → ∀ k, (ms.getD i nilF).blk = some k → k < w.heap.size) :
    ∃ s v w', ref11_Solve K m0 w = some ((s, v, ()), w') ∧ Upd none_ w w' ∧ (match Gf.solve n R with | some y => v = true ∧ OwnS 5 w' s (fb y) ∧ Fresh w.heap.size s ∧ y.length = n | none => v = false) := by
  have hms := hm.size
  obtain ⟨p, p1, p2⟩ := hm.ld hR0
  have hrow := hm.row 0 hR0
  have hsl : (ms.getD 0 nilF).len = n + 1 := by rw [hrow.len, fb_length, hm.rlen 0 hR0]
  obtain ⟨rs, ss, w1, a1, a2, a3⟩ := solve_copy hK (n4 := (n : Int)) hR (by omega) (B := w.heap.size) R.length 0 K w nilF [] (by omega) (by omega) (RowsAt.nil w (n + 1) w.heap.size) (Nat.le_refl _) hm (fun k hk e => by have := h1 k e; omega) (fun i hi k hk e => by have := h2 i hi k e; omega)
  have a1 : ref11_Solve_l0 K K m0 (n : Int) nilF 0 w = some ((rs, ()), w1) := a1
  have q1 := a3.size
  have u1 : Upd none_ w w1 := a3.mono fun k hk e => by omega
  have hl1 := solve_l1 hK (rs := rs) (n := n) (B := w.heap.size) (N := w1.heap.size) (by omega) n 0 K w1 ss R nilF (by omega) (by omega) hR a2 (by omega) (Nat.le_refl _) (OwnS.nil _ _) (fun k hk => by cases hk)
  have c0 : (0 : Int) ≤ 0 ∧ (0 : Int) < ((m0.len : Nat) : Int) := by omega
  have en : IntKind.i64.wrap ((((ms.getD 0 nilF).len : Nat) : Int) - 1) = (n : Int) := by rw [hsl, w64 (by omega) (by omega)]; omega
  have run : ref11_Solve K m0 w = bnd (ref11_Solve_l1 K K (n : Int) rs nilF 0 w1) fun y_78 w_79 =>
  (match y_78 with
  | .norm z_80n => (bnd (ref11_Solve_l8 K K (n : Int) rs z_80n.1 (n : Int) w_79) fun y_85 w_86 =>
  (match y_85 with
  | .norm z_87n => (bnd (ref11_Solve_l9 K K (n : Int) rs z_80n.1 0 w_86) fun y_94 w_95 =>
  some ((z_80n.1, true, ()), w_95))
  | .ret z_87r => (some ((z_87r.1, z_87r.2.1, ()), w_86))))
  | .ret z_80r => (some ((z_80r.1, z_80r.2.1, ()), w_79))) := by
    unfold ref11_Solve
    rw [if_neg (by rw [beq_iff_eq]; omega), p1, Option.bind_some, if_pos c0, Nat.zero_mul]
    have p2' : ldS (p.add 0) w = some (ms.getD 0 nilF) := p2
    rw [p2', Option.bind_some, en, a1, bnd_ok]
    rfl
  rw [run]
  unfold Gf.solve
  cases hs : Gf.solveG R n 0 with
  | none =>
    rw [hs] at hl1
    obtain ⟨w2, b1, b2⟩ := hl1
    have b1 : ref11_Solve_l1 K K (n : Int) rs nilF 0 w1 = _ := b1
    exact ⟨nilF, false, w2, by rw [b1, bnd_ok], u1.trans' b2 fun k hk e => by omega, rfl⟩
  | some R' =>
    rw [hs] at hl1
    obtain ⟨x', ss', w2, b1, b2, b3, b4, b5⟩ := hl1
    have b1 : ref11_Solve_l1 K K (n : Int) rs nilF 0 w1 = _ := b1
    have u2 : Upd none_ w w2 := u1.trans' b5 fun k hk e => by omega
    rw [b1, bnd_ok, Option.bind_some]
    dsimp only
    have hshape : R'.length = R.length ∧ n ≤ R'.length := by
      have : ∀ (d c : Nat) (A A' : List (List F)), c + d = n → (d = 0 → c ≤ A.length) → Gf.solveG A d c = some A' → A'.length = A.length ∧ (0 < d → n ≤ A'.length) := by
        intro d
        induction d with
        | zero => intro c A A' _ _ h; obtain rfl := Option.some.inj h; exact ⟨rfl, fun h => by omega⟩
        | succ d ih =>
          intro c A A' hcd _ h
          have h : (Gf.stepS A c).bind (fun r => Gf.solveG r d (c + 1)) = some A' := h
          unfold Gf.stepS at h
          cases hp : Gf.pivotG A c (A.length - c) c with
          | none => rw [hp] at h; cases h
          | some a =>
            rw [hp, Option.map_some, Option.bind_some] at h
            obtain ⟨x1, x2, _⟩ := Gf.pivot_some _ _ _ hp
            have hEl : (Gf.elimR (Gf.normR (Gf.swapR A c a) c) c).length = A.length := by rw [Gf.elim_length, Gf.norm_length, Gf.swap_length]
            obtain ⟨y1, y2⟩ := ih (c + 1) _ A' (by omega) (fun _ => by rw [hEl]; omega) h
            refine ⟨by rw [y1, hEl], fun _ => ?_⟩
            by_cases hd : d = 0
            · rw [y1, hEl]; omega
            · exact y2 (by omega)
      obtain ⟨y1, y2⟩ := this n 0 R R' (by omega) (fun _ => by omega) hs
      refine ⟨y1, ?_⟩
      by_cases h0 : n = 0
      · omega
      · exact y2 (by omega)
    have h8 := solve_rest (K := K) (x7 := x') (by rw [hshape.1]; exact hR) b2 (R'.length - n) n K (by omega) (by omega)
    rw [h8]
    by_cases hr : Gf.restG R' n (R'.length - n) n = true
    · rw [if_pos hr, if_pos hr, bnd_ok]
      dsimp only
      obtain ⟨w3, c1, c2, c3⟩ := solve_out (K := K) (x7 := x') (by omega) hshape.2 (by rw [hshape.1]; exact hR) b4 n 0 K w2 _ (by omega) (by omega) b2 (List.length_replicate ..) b3
      have c1 : ref11_Solve_l9 K K (n : Int) rs x' 0 w2 = some ((), w3) := c1
      rw [List.take_zero, List.nil_append, List.drop_zero] at c2
      exact ⟨x', true, w3, by rw [c1, bnd_ok], u2.trans' c3 fun k hk e => by have := b4 k e; omega, rfl, c2, fun k hk => by have := b4 k hk; omega, by simp⟩
    · rw [if_neg hr, if_neg hr, bnd_ok]
      exact ⟨nilF, false, w2, rfl, u2, rfl⟩

/-! ### Coded -/

theorem fb_get4 (S : Nat → F) : ∀ {j : Nat}, j < 4 → (fb [S 0, S 1, S 2, S 3])[j]? = some (.int .u8 (bF (S j)))
  | 0, _ => rfl
  | 1, _ => rfl
  | 2, _ => rfl
  | 3, _ => rfl
  | j + 4, h => by omega

theorem rCoded_l0 {K : Nat} (hK : 18446744073709551616 ≤ K) {b ps : Sl} {g : Nat} {e : TypeId} {S : Nat → F} {B : Nat} (hgB : g < B) (hpB : ∀ q, ps.a = some q → q.block < B) :
    ∀ (d j f : Nat) (w : World) (rs : Sl) (ss : List Sl) (R : List (List F)), j + d = 4 → d < f → R.length = j → RowsAt w rs ss R 5 B w.heap.size → B ≤ w.heap.size → Bk e w g (fb [S 0, S 1, S 2, S 3]) → BSrc w ps (powL 255) →
      ∃ rs' ss' w', ref11_Coded_l0 K f b ⟨g, 0, none⟩ ps rs (j : Int) w = some ((rs', ()), w') ∧ RowsAt w' rs' ss' (R ++ (List.range' j d).map (Gf.eqnR S)) 5 B w'.heap.size ∧ Upd (fun k => B ≤ k) w w' := by
  intro d
  induction d with
  | zero =>
    intro j f w rs ss R hj hf hRl h hB hb hp
    obtain ⟨f, rfl⟩ : ∃ q, f = q + 1 := ⟨f - 1, by omega⟩
    refine ⟨rs, ss, w, ?_, by simpa using h, Upd.refl _ _⟩
    show ref11_Coded_l0_b K (ref11_Coded_l0 K f) b ⟨g, 0, none⟩ ps rs (j : Int) w = _
    unfold ref11_Coded_l0_b
    rw [if_neg (by simp only [decide_eq_true_eq]; omega)]
  | succ d ih =>
    intro j f w rs ss R hj hf hRl h hB hb hp
    obtain ⟨f, rfl⟩ : ∃ q, f = q + 1 := ⟨f - 1, by omega⟩
    have hpl : ps.len = 255 := by rw [hp.len, fb_length, powL_length]
    have ud := (Upd.refl none_ w).drew
    have hpw := hp.upd0 ud
    have e3 : IntKind.i64.wrap ((j : Int) + 1) = ((j + 1 : Nat) : Int) := by rw [w64 (by omega) (by omega)]; rfl
    have e33 : IntKind.i64.wrap (3 * (j : Int)) = ((3 * j : Nat) : Int) := by rw [w64 (by omega) (by omega)]; omega
    have e22 : IntKind.i64.wrap (2 * (j : Int)) = ((2 * j : Nat) : Int) := by rw [w64 (by omega) (by omega)]; omega
    obtain ⟨p, p1, p2⟩ := src_cell hpw (i := 3 * j) (by rw [powL_length]; omega)
    obtain ⟨p', p1', p3⟩ := src_cell hpw (i := 2 * j) (by rw [powL_length]; omega)
    obtain ⟨p'', p1'', p4⟩ := src_cell hpw (i := j) (by rw [powL_length]; omega)
    obtain rfl : p' = p := Option.some.inj (p1'.symm.trans p1)
    obtain rfl : p'' = p' := Option.some.inj (p1''.symm.trans p1)
    rw [powL_get (by omega)] at p2 p3 p4
    have hc : ldI .u8 (⟨g, j, none⟩ : Addr) w.drew = some (bF (S j)) := hb.drew.ldI (fb_get4 S (by omega))
    obtain ⟨w2, b1, b2, b3, b4⟩ := bldS_ok sliceB (fb (Gf.eqnR S j)) (fun v hv => by obtain ⟨x, _, rfl⟩ := List.mem_map.1 hv; rfl) (by rw [fb_length]; simp [Gf.eqnR]) (by rw [fb_length]; simp [Gf.eqnR]) w.drew
    have b1 : bldS prog 25 5 #[(0, (.int .u8 (bF (tj (3 * j))))), (1, (.int .u8 (bF (tj (2 * j))))), (2, (.int .u8 (bF (tj j)))), (3, (.int .u8 1)), (4, (.int .u8 (bF (S j))))] w.drew = some (⟨some ⟨w.heap.size, 0, none⟩, 5, 5⟩, w2) := b1
    have b2 : OwnS 5 w2 ⟨some ⟨w.heap.size, 0, none⟩, 5, 5⟩ (fb (Gf.eqnR S j)) := b2
    have u2 : Upd none_ w w2 := b3.predrew
    have q2 := u2.size
    obtain ⟨w3, rs', w4, c2, c3, c4, c5⟩ := (h.upd0 u2).push (by omega) b2 rfl (fun k hk => by have e2 : w.heap.size = k := Option.some.inj hk; omega) q2 hB
    have q4 := c5.size
    have u4 : Upd (fun k => B ≤ k) w w4 := (u2.mono (T := fun k => B ≤ k) fun _ _ e => e.elim).trans' c5 fun k _ e => e.1
    obtain ⟨rs'', ss'', w5, d1, d2, d3⟩ := ih (j + 1) f w4 rs' _ _ (by omega) (by omega) (by rw [List.length_append, hRl]; rfl) c4 (by omega) (hb.upd u4 (by omega)) (src_updF hp u4 fun q hq _ => by have := hpB q hq; omega)
    refine ⟨rs'', ss'', w5, ?_, ?_, u4.trans' d3 fun _ _ e => e⟩
    · have c1 : (0 : Int) ≤ ((3 * j : Nat) : Int) ∧ ((3 * j : Nat) : Int) < ((ps.len : Nat) : Int) := by omega
      have c1b : (0 : Int) ≤ ((2 * j : Nat) : Int) ∧ ((2 * j : Nat) : Int) < ((ps.len : Nat) : Int) := by omega
      have c1c : (0 : Int) ≤ (j : Int) ∧ (j : Int) < ((ps.len : Nat) : Int) := by omega
      have c1d : (0 : Int) ≤ (j : Int) ∧ (j : Int) < ((4 : Nat) : Int) := by omega
      show ref11_Coded_l0_b K (ref11_Coded_l0 K f) b ⟨g, 0, none⟩ ps rs (j : Int) w = _
      unfold ref11_Coded_l0_b
      rw [if_pos (decide_eq_true (show (j : Int) < 4 by omega)), p1, Option.bind_some, e33, if_pos c1, Option.bind_some, e22, if_pos c1b, Option.bind_some, if_pos c1c, if_pos c1d, Int.toNat_natCast, Nat.mul_one, p2, Option.bind_some, Int.toNat_natCast, Nat.mul_one, p3, Option.bind_some, Int.toNat_natCast, Nat.mul_one, p4, Option.bind_some, add_lit, Nat.zero_add, hc, Option.bind_some, b1, bnd_ok]
      dsimp only
      rw [c2, bnd_ok]
      dsimp only
      rw [c3, bnd_ok, e3, d1]
    · have er : (List.range' j (d + 1)).map (Gf.eqnR S) = Gf.eqnR S j :: (List.range' (j + 1) d).map (Gf.eqnR S) := by rw [List.range'_succ, List.map_cons]
      rw [er]
      rw [List.append_assoc] at d2
      exact d2

theorem rCoded_ok {K : Nat} (hK : 18446744073709551616 ≤ K) {w : World} {b : Sl} {l : List F} (hs : BSrc w b l) (hl : l.length ≤ 1073741824) :
    ∃ s' w', ref11_Coded K b w = some ((s', ()), w') ∧ OwnS 5 w' s' (fb (codedP l)) ∧ Upd none_ w w' ∧ Fresh w.heap.size s' := by
  have hbl : b.len = l.length := by rw [hs.len, fb_length]
  have hlt := src_ltF hs
  obtain ⟨w1, a1, a2, a3⟩ := bld0_ok sliceB w
  obtain ⟨s2, w2, b1, b2, b3, b4, b5⟩ := apd_ok sliceB a2 (hs.upd0 a3) (by show (0 + b.len) * 1 ≤ _; omega)
  have b2 : s2.len = l.length := by rw [b2, hbl]; show 0 + l.length = _; omega
  have b3 : OwnS 5 w2 s2 (fb l) := b3
  have q1 := a3.size
  have u2 : Upd none_ w w2 := a3.trans' b4 fun j hj e => by have e2 : w.heap.size = j := Option.some.inj e; omega
  have hf2 : ∀ k, s2.blk = some k → w.heap.size ≤ k := fun k hk => by
    rcases b5 with e | e
    · rw [e] at hk; have e2 : w.heap.size = k := Option.some.inj hk; omega
    · rw [e] at hk; have e2 : w1.heap.size = k := Option.some.inj hk; omega
  obtain ⟨w3, c1, c2, c3, c4⟩ := bldS_ok sliceB (fb [0, 0, 0, 0]) (fun v hv => by obtain ⟨x, _, rfl⟩ := List.mem_map.1 hv; rfl) (by rw [fb_length]; decide) (by rw [fb_length]; decide) w2
  have c1 : bldS prog 25 4 #[(0, (.int .u8 0)), (1, (.int .u8 0)), (2, (.int .u8 0)), (3, (.int .u8 0))] w2 = some (⟨some ⟨w2.heap.size, 0, none⟩, 4, 4⟩, w3) := c1
  have c2 : OwnS 5 w3 ⟨some ⟨w2.heap.size, 0, none⟩, 4, 4⟩ (fb [0, 0, 0, 0]) := c2
  obtain ⟨s4, w4, d1, d2, d3, d4, d5⟩ := apd_ok sliceB (b3.upd0 c3) (c2.src ints_one) (by rw [b2]; show (l.length + 4) * 1 ≤ _; omega)
  rw [← fb_append] at d3
  have q2 := u2.size
  have q3 := c3.size
  have u4 : Upd none_ w w4 := (u2.and0 c3).trans' d4 fun j hj e => by have := hf2 j e; omega
  have q4 := u4.size
  obtain ⟨w5, e1, u5⟩ := rSums_ok hK (d3.src ints_one) (by rw [List.length_append]; show l.length + 4 ≤ _; omega)
  obtain ⟨w6, f1, f2, f3, f4⟩ := newB_ok z60 60 w5
  have f2 : Bk 60 w6 w5.heap.size (fb [0, 0, 0, 0]) := f2
  obtain ⟨w7, g1, g2, g3⟩ := f2.stA (o := 0) (vs := (fb (sumsL (l ++ [0, 0, 0, 0]))).toArray) (by simp [fb, ints, sumsL]) (fun v hv => fb_one _ v hv)
  have g2 : Bk 60 w7 w5.heap.size (fb [sj (l ++ [0, 0, 0, 0]) 0, sj (l ++ [0, 0, 0, 0]) 1, sj (l ++ [0, 0, 0, 0]) 2, sj (l ++ [0, 0, 0, 0]) 3]) := g2
  have q5 := u5.size
  have u7 : Upd none_ w w7 := ((u4.and0 u5).and0 f3).trans' g3 fun j hj e => by omega
  obtain ⟨sp, w8, h1, h2, h3, h4⟩ := rPowers_ok hK w7 (n := 255) (by omega)
  have u8 := u7.and0 h3
  have q7 := u7.size
  have q8 := h3.size
  have hg8 := (g2.upd0 h3)
  obtain ⟨rs, ss, w9, i1, i2, i3⟩ := rCoded_l0 hK (b := b) (S := fun j => sj (l ++ [0, 0, 0, 0]) j) (B := w8.heap.size) hg8.lt (own_lt h2) 4 0 K w8 nilF [] [] (by omega) (by omega) rfl (RowsAt.nil w8 5 w8.heap.size) (Nat.le_refl _) hg8 (h2.src (fb_one _))
  have i1 : ref11_Coded_l0 K K b ⟨w5.heap.size, 0, none⟩ sp nilF 0 w8 = some ((rs, ()), w9) := i1
  have i2 : RowsAt w9 rs ss (Gf.eqnsR fun j => hor (tj j) (l ++ [0, 0, 0, 0])) 5 w8.heap.size w9.heap.size := i2
  have u9 : Upd none_ w w9 := u8.trans' i3 fun j hj e => by omega
  have hEq : (Gf.eqnsR fun j => hor (tj j) (l ++ [0, 0, 0, 0])).length = 4 := rfl
  obtain ⟨sx, v, w10, j1, j2, j3⟩ := rsolve_ok hK (n := 4) i2.into (by rw [hEq]; omega) (by rw [hEq]; omega) (by omega) (fun k hk => (i2.low.1 k hk).2) (fun i hi k hk => (i2.low.2 i hi k hk).2)
  rw [Gf.solve_coded] at j3
  obtain ⟨_, k1, k2, k3⟩ := j3
  have u10 := u9.and0 j2
  have q10 := u10.size
  obtain ⟨w11, l1, l2, l3⟩ := bld0_ok sliceB w10
  obtain ⟨s12, w12, m1, m2, m3, m4, m5⟩ := apd_ok sliceB l2 (hs.upd0 (u10.and0 l3)) (by show (0 + b.len) * 1 ≤ _; omega)
  have m3 : OwnS 5 w12 s12 (fb l) := m3
  have q11 := l3.size
  have u12 : Upd none_ w10 w12 := l3.trans' m4 fun j hj e => by have e2 : w10.heap.size = j := Option.some.inj e; omega
  have hf12 : ∀ k, s12.blk = some k → w10.heap.size ≤ k := fun k hk => by
    rcases m5 with e | e
    · rw [e] at hk; have e2 : w10.heap.size = k := Option.some.inj hk; omega
    · rw [e] at hk; have e2 : w11.heap.size = k := Option.some.inj hk; omega
  have h12l := m3.len
  rw [fb_length] at h12l
  have hsxl := k1.len
  rw [fb_length, k3] at hsxl
  obtain ⟨s13, w13, n1, n2, n3, n4, n5⟩ := apd_ok sliceB m3 ((k1.upd0 u12).src (fb_one _)) (by rw [h12l, hsxl]; omega)
  rw [← fb_append] at n3
  have q12 := u12.size
  refine ⟨s13, w13, ?_, n3, (u10.and0 u12).trans' n4 fun j hj e => by have := hf12 j e; omega, fun j hj => ?_⟩
  · unfold ref11_Coded
    have h1 : ref11_Powers K 255 w7 = some ((sp, ()), w8) := h1
    rw [a1, bnd_ok]
    dsimp only
    rw [b1, bnd_ok, c1, bnd_ok]
    dsimp only
    rw [d1, bnd_ok, e1, bnd_ok, f1, bnd_ok, if_pos (by simp [fb, ints, sumsL]), g1, Option.bind_some, h1, bnd_ok]
    dsimp only
    rw [i1, bnd_ok, j1, bnd_ok, l1, bnd_ok]
    dsimp only
    rw [m1, bnd_ok, n1, bnd_ok]
  · rcases n5 with e | e
    · rw [e] at hj; have := hf12 j hj; omega
    · rw [e] at hj; have e2 : w12.heap.size = j := Option.some.inj hj; omega

end Go.Sh

/- A row put right: the document's way; one place, the table of inverses. -/
set_option linter.unusedVariables false
set_option maxRecDepth 100000
namespace Go.Sh
open Go.Fw Go.Gf Go.RowKit Go.Proofs.Try

theorem tj_nz (j : Nat) : tj j ≠ 0 := pow3_nz j

/-- a copy of bytes -/
theorem copy_fb {w : World} {b : Sl} {l : List F} (hs : BSrc w b l) (hl : l.length ≤ 1073741824) :
    ∃ w1 s' w', bldS prog 25 0 #[] w = some (⟨some ⟨w.heap.size, 0, none⟩, 0, 0⟩, w1) ∧ apd prog 25 25 (.slice (some ⟨w.heap.size, 0, none⟩) 0 0) (.slice b.a b.len b.cap) w1 = some (s', w') ∧ OwnS 5 w' s' (fb l) ∧ Upd none_ w w' ∧ Fresh w.heap.size s' := by
  have hbl : b.len = l.length := by rw [hs.len, fb_length]
  obtain ⟨w1, a1, a2, a3⟩ := bld0_ok sliceB w
  obtain ⟨s2, w2, b1, b2, b3, b4, b5⟩ := apd_ok sliceB a2 (hs.upd0 a3) (by show (0 + b.len) * 1 ≤ _; omega)
  have q1 := a3.size
  refine ⟨w1, s2, w2, a1, b1, b3, a3.trans' b4 fun j hj e => by have e2 : w.heap.size = j := Option.some.inj e; omega, fun k hk => ?_⟩
  rcases b5 with e | e
  · rw [e] at hk; have e2 : w.heap.size = k := Option.some.inj hk; omega
  · rw [e] at hk; have e2 : w1.heap.size = k := Option.some.inj hk; omega

theorem near_s1 {K : Nat} (hK : 300 ≤ K) {w : World} {g : Nat} {e : TypeId} {c0 c1 c2 c3 : F} (b : Bk e w g (fb [c0, c1, c2, c3])) (x : F) :
    ∃ w', ref11_near_s1 K ⟨g, 0, none⟩ (bF x) (bF (x * x)) w = some ((decide (c1 = c0 * x ∧ c2 = c0 * (x * x) ∧ c3 = c0 * (x * (x * x))), ()), w') ∧ Upd none_ w w' := by
  obtain ⟨d0, d1, d2, d3⟩ := cells4 hK b.drew
  refine ⟨w.drew, ?_, (Upd.refl _ _).drew⟩
  have bq : ∀ a c : F, (bF a == bF c) = decide (a = c) := fun a c => by rw [Bool.eq_iff_iff, beq_iff_eq, bF_eq, decide_eq_true_eq]
  unfold ref11_near_s1
  simp only [Nat.mul_one, add_lit, Nat.zero_add, d0, d1, d2, d3, Option.bind_some, rtimes hK, bq, decide_eq_true_eq]
  by_cases h1 : c1 = c0 * x
  · rw [if_pos h1]
    by_cases h2 : c2 = c0 * (x * x)
    · rw [if_pos h2]; simp [h1, h2]
    · rw [if_neg h2]; simp [h1, h2]
  · rw [if_neg h1]; simp [h1]

theorem near_l0 {K : Nat} (hK : 18446744073709551616 ≤ K) {b ps : Sl} {l : List F} {g : Nat} {e : TypeId} (hl : l.length ≤ 255) :
    ∀ (d i f : Nat) (w : World), i + d = l.length → d < f → BSrc w b l → Bk e w g (fb [sj l 0, sj l 1, sj l 2, sj l 3]) → BSrc w ps (powL 255) →
      match (List.range' i d).findSome? (Gf.try1 l) with
      | none => ∃ w', ref11_near_l0 K f b ⟨g, 0, none⟩ ((l.length : Nat) : Int) ps (i : Int) w = some (.norm (), w') ∧ Upd none_ w w'
      | some c => ∃ s w', ref11_near_l0 K f b ⟨g, 0, none⟩ ((l.length : Nat) : Int) ps (i : Int) w = some (.ret (s, 1, (bF (sj l 0) != 0), ()), w') ∧ Upd none_ w w' ∧ OwnS 5 w' s (fb c) ∧ Fresh w.heap.size s := by
  intro d
  induction d with
  | zero =>
    intro i f w hi hf hs hb hp
    obtain ⟨f, rfl⟩ : ∃ q, f = q + 1 := ⟨f - 1, by omega⟩
    refine ⟨w, ?_, Upd.refl _ _⟩
    show ref11_near_l0_b K (ref11_near_l0 K f) b ⟨g, 0, none⟩ ((l.length : Nat) : Int) ps (i : Int) w = _
    unfold ref11_near_l0_b
    rw [if_neg (by simp only [decide_eq_true_eq]; omega)]
  | succ d ih =>
    intro i f w hi hf hs hb hp
    obtain ⟨f, rfl⟩ : ∃ q, f = q + 1 := ⟨f - 1, by omega⟩
    have hil : i < l.length := by omega
    have hpl : ps.len = 255 := by rw [hp.len, fb_length, powL_length]
    have e3 : IntKind.i64.wrap ((i : Int) + 1) = ((i + 1 : Nat) : Int) := by rw [w64 (by omega) (by omega)]; rfl
    have e1 : IntKind.i64.wrap (((l.length : Nat) : Int) - 1) = ((l.length - 1 : Nat) : Int) := by rw [w64 (by omega) (by omega)]; omega
    have e2 : IntKind.i64.wrap (((l.length - 1 : Nat) : Int) - (i : Int)) = ((l.length - 1 - i : Nat) : Int) := by rw [w64 (by omega) (by omega)]; omega
    obtain ⟨w1, s1, w2, a1, a2, a3, a4, a5⟩ := copy_fb hs (by omega)
    have hsl : s1.len = l.length := by rw [a3.len, fb_length]
    have b2 := (hb.upd0 a4).drew
    obtain ⟨d0, d1, d2, d3⟩ := cells4 (show 300 ≤ K by omega) b2
    have a3d := a3.upd0 (Upd.refl none_ w2).drew
    obtain ⟨p, p1, p2⟩ := own_cell a3d hil
    obtain ⟨p', w3, t1, t2, t3, t4⟩ := own_set a3d (i := i) hil (l.getD i 0 + sj l 0)
    obtain rfl : p' = p := Option.some.inj (t1.symm.trans p1)
    rw [← putX_set] at t3
    have u3 : Upd none_ w w3 := (a4.drew).trans' t4 fun k hk e => by have := a5 k e; omega
    obtain ⟨q, q1, q2⟩ := src_cell (hp.upd0 u3) (i := l.length - 1 - i) (by rw [powL_length]; omega)
    rw [powL_get (by omega)] at q2
    obtain ⟨w4, h1, u4⟩ := near_s1 (K := K) (by omega) (hb.upd0 u3) (tj (l.length - 1 - i))
    have u04 := u3.and0 u4
    have c1 : (0 : Int) ≤ (i : Int) ∧ (i : Int) < ((s1.len : Nat) : Int) := by omega
    have c2 : (0 : Int) ≤ ((l.length - 1 - i : Nat) : Int) ∧ ((l.length - 1 - i : Nat) : Int) < ((ps.len : Nat) : Int) := by omega
    have hun : ref11_near_l0 K (f + 1) b ⟨g, 0, none⟩ ((l.length : Nat) : Int) ps (i : Int) w = ref11_near_l0_b K (ref11_near_l0 K f) b ⟨g, 0, none⟩ ((l.length : Nat) : Int) ps (i : Int) w := rfl
    have run : ref11_near_l0 K (f + 1) b ⟨g, 0, none⟩ ((l.length : Nat) : Int) ps (i : Int) w = if decide (sj l 1 = sj l 0 * tj (l.length - 1 - i) ∧ sj l 2 = sj l 0 * (tj (l.length - 1 - i) * tj (l.length - 1 - i)) ∧ sj l 3 = sj l 0 * (tj (l.length - 1 - i) * (tj (l.length - 1 - i) * tj (l.length - 1 - i)))) = true then some (.ret (s1, 1, (bF (sj l 0) != 0), ()), w4.drew) else ref11_near_l0 K f b ⟨g, 0, none⟩ ((l.length : Nat) : Int) ps ((i + 1 : Nat) : Int) w4 := by
      rw [hun]
      unfold ref11_near_l0_b
      obtain ⟨x0, _, _, _⟩ := cells4 (show 300 ≤ K by omega) (hb.upd0 u04).drew
      rw [if_pos (decide_eq_true (show (i : Int) < ((l.length : Nat) : Int) by omega)), a1, bnd_ok]
      dsimp only
      rw [a2, bnd_ok, p1, Option.bind_some, if_pos c1, Int.toNat_natCast, Nat.mul_one, p2, Option.bind_some, Nat.zero_mul, add_lit, Nat.zero_add, d0, Option.bind_some, Option.bind_some, if_pos c1, addF, t2, Option.bind_some, q1, Option.bind_some, e1, e2, if_pos c2, Int.toNat_natCast, Nat.mul_one, q2, Option.bind_some, rtimes (by omega), Option.bind_some]
      dsimp only
      rw [h1, bnd_ok, x0, e3]
      rfl
    rw [run]
    have ht1 : Gf.try1 l i = if sj l 1 = sj l 0 * tj (l.length - 1 - i) ∧ sj l 2 = sj l 0 * (tj (l.length - 1 - i) * tj (l.length - 1 - i)) ∧ sj l 3 = sj l 0 * (tj (l.length - 1 - i) * (tj (l.length - 1 - i) * tj (l.length - 1 - i))) then some (putX l i (sj l 0)) else none := rfl
    rw [List.range'_succ, List.findSome?_cons, ht1]
    by_cases hc : sj l 1 = sj l 0 * tj (l.length - 1 - i) ∧ sj l 2 = sj l 0 * (tj (l.length - 1 - i) * tj (l.length - 1 - i)) ∧ sj l 3 = sj l 0 * (tj (l.length - 1 - i) * (tj (l.length - 1 - i) * tj (l.length - 1 - i)))
    · rw [if_pos hc, if_pos (decide_eq_true hc)]
      exact ⟨s1, w4.drew, rfl, u04.drew, (t3.upd0 u4).upd0 (Upd.refl none_ w4).drew, a5⟩
    · rw [if_neg hc, if_neg (fun h => hc (of_decide_eq_true h))]
      have hrec := ih (i + 1) f w4 (by omega) (by omega) (hs.upd0 u04) (hb.upd0 u04) (hp.upd0 u04)
      have q := u04.size
      dsimp only
      cases hs2 : (List.range' (i + 1) d).findSome? (Gf.try1 l) with
      | none =>
        rw [hs2] at hrec
        obtain ⟨w', x1, x2⟩ := hrec
        exact ⟨w', x1, u04.and0 x2⟩
      | some c =>
        rw [hs2] at hrec
        obtain ⟨s, w', x1, x2, x3, x4⟩ := hrec
        exact ⟨s, w', x1, u04.and0 x2, x3, fun k hk => by have := x4 k hk; omega⟩

/-! ### The table of inverses -/

def powIter : Nat → F → List F
  | 0, _ => []
  | n + 1, v => v :: powIter n (v * F.three)
theorem powIter_eq : ∀ (n : Nat) (v : F) (x : F), x ∈ powIter n v → ∃ j, j < n ∧ x = v * tj j
  | 0, _, _, h => by simp [powIter] at h
  | n + 1, v, x, h => by
    rcases List.mem_cons.1 h with h | h
    · exact ⟨0, by omega, by rw [h]; show v = v * F.pow F.three 0; rw [F.pow_zero, F.mul_one]⟩
    · obtain ⟨j, h1, h2⟩ := powIter_eq n _ x h
      refine ⟨j + 1, by omega, ?_⟩
      rw [h2, F.mul_assoc]
      show v * (F.three * F.pow F.three j) = v * F.pow F.three (j + 1)
      rw [F.pow_succ, F.mul_comm F.three]
def maskL : List F → Nat → Nat
  | [], m => m
  | x :: l, m => maskL l (m ||| 2 ^ x.n)
theorem maskL_bit : ∀ (l : List F) (m n : Nat), (maskL l m).testBit n = true → m.testBit n = true ∨ ∃ x ∈ l, x.n = n
  | [], m, n, h => .inl h
  | x :: l, m, n, h => by
    rcases maskL_bit l _ n h with h | ⟨y, h1, h2⟩
    · rw [Nat.testBit_or, Nat.testBit_two_pow] at h
      simp only [Bool.or_eq_true, decide_eq_true_eq] at h
      rcases h with h | h
      · exact .inl h
      · exact .inr ⟨x, by simp, h⟩
    · exact .inr ⟨y, by simp [h1], h2⟩
theorem mask_all : maskL (powIter 255 1) 0 = 2 ^ 256 - 2 := by decide +kernel
theorem tj_surj {x : F} (h : x ≠ 0) : ∃ j, j < 255 ∧ tj j = x := by
  have hb : (2 ^ 256 - 2 : Nat).testBit x.n = true := by
    have key : ∀ n, n < 256 → n ≠ 0 → (2 ^ 256 - 2 : Nat).testBit n = true := by decide +kernel
    exact key x.n x.lt fun e => h (F.ext' e)
  rw [← mask_all] at hb
  rcases maskL_bit _ _ _ hb with h1 | ⟨y, h1, h2⟩
  · simp at h1
  · obtain ⟨j, j1, j2⟩ := powIter_eq 255 1 y h1
    rw [F.one_mul] at j2
    exact ⟨j, j1, by rw [← j2]; exact F.ext' h2⟩

/-- the table after so many powers -/
def InvT (T : List F) (i : Nat) : Prop := T.length = 256 ∧ T.getD 0 0 = 0 ∧ ∀ j, j < i → T.getD (tj j).n 0 = (tj j).inv

theorem invT_all {T : List F} (h : InvT T 255) (x : F) : T.getD x.n 0 = x.inv := by
  by_cases hx : x = 0
  · rw [hx, F.inv_zero]; exact h.2.1
  · obtain ⟨j, j1, j2⟩ := tj_surj hx
    rw [← j2]; exact h.2.2 j j1

theorem near_l2 {K : Nat} (hK : 300 ≤ K) {b ps : Sl} {s5 : Addr} {n7 : Int} {g : Nat} {e : TypeId} (hgp : ∀ q, ps.a = some q → q.block ≠ g) :
    ∀ (d i f : Nat) (w : World) (T : List F), i + d = 255 → d < f → Bk e w g (fb T) → InvT T i → BSrc w ps (powL 255) →
      ∃ w' T', ref11_near_l2 K f b s5 n7 ps ⟨g, 0, none⟩ (i : Int) w = some ((), w') ∧ Bk e w' g (fb T') ∧ InvT T' 255 ∧ Upd (· = g) w w' := by
  intro d
  induction d with
  | zero =>
    intro i f w T hi hf hb hT hp
    obtain ⟨f, rfl⟩ : ∃ q, f = q + 1 := ⟨f - 1, by omega⟩
    refine ⟨w, T, ?_, hb, by rw [← show i = 255 by omega]; exact hT, Upd.refl _ _⟩
    show ref11_near_l2_b K (ref11_near_l2 K f) b s5 n7 ps ⟨g, 0, none⟩ (i : Int) w = _
    unfold ref11_near_l2_b
    rw [if_neg (by simp only [decide_eq_true_eq]; omega)]
  | succ d ih =>
    intro i f w T hi hf hb hT hp
    obtain ⟨f, rfl⟩ : ∃ q, f = q + 1 := ⟨f - 1, by omega⟩
    have hi255 : i < 255 := by omega
    have hpl : ps.len = 255 := by rw [hp.len, fb_length, powL_length]
    have e3 : IntKind.i64.wrap ((i : Int) + 1) = ((i + 1 : Nat) : Int) := by rw [w64 (by omega) (by omega)]; rfl
    have e1 : IntKind.i64.wrap (255 - (i : Int)) = ((255 - i : Nat) : Int) := by rw [w64 (by omega) (by omega)]; omega
    have e5 : Int.tmod ((255 - i : Nat) : Int) 255 = (((255 - i) % 255 : Nat) : Int) := rfl
    have hlt : (255 - i) % 255 < 255 := Nat.mod_lt _ (by decide)
    have ud := (Upd.refl none_ w).drew
    obtain ⟨p, p1, p2⟩ := src_cell (hp.upd0 ud) (i := i) (by rw [powL_length]; omega)
    obtain ⟨p', p1', p3⟩ := src_cell (hp.upd0 ud) (i := (255 - i) % 255) (by rw [powL_length]; exact hlt)
    obtain rfl : p' = p := Option.some.inj (p1'.symm.trans p1)
    rw [powL_get hi255] at p2
    rw [powL_get hlt] at p3
    have hinv : tj ((255 - i) % 255) = (tj i).inv := by
      have h0 : tj ((255 - i) % 255) = tj (255 - i) := pow3_mod _
      rw [h0]
      refine F.eq_inv ?_
      show F.pow F.three i * F.pow F.three (255 - i) = 1
      rw [← F.pow_add, show i + (255 - i) = 255 by omega, pow3_255]
    rw [hinv] at p3
    have hvl := (tj i).lt
    obtain ⟨w1, s1, s2, s3⟩ := hb.drew.stC (i := (tj i).n) (by rw [fb_length, hT.1]; exact hvl) (.int .u8 (bF (tj i).inv))
    rw [fb_set] at s2
    have hT' : InvT (T.set (tj i).n (tj i).inv) (i + 1) := by
      refine ⟨by rw [List.length_set]; exact hT.1, ?_, fun j hj => ?_⟩
      · rw [getD_set_l _ _ (by rw [hT.1]; exact hvl), if_neg (show ¬ 0 = (tj i).n from fun h => tj_nz i (F.ext' h.symm))]
        exact hT.2.1
      · rw [getD_set_l _ _ (by rw [hT.1]; exact hvl)]
        by_cases hji : j = i
        · rw [if_pos (by rw [hji]), hji]
        · rw [if_neg (show ¬ (tj j).n = (tj i).n from fun h => hji (pow3_inj (by omega) (by omega) (F.ext' h)))]
          exact hT.2.2 j (by omega)
    obtain ⟨w2, T2, k1, k2, k3, k4⟩ := ih (i + 1) f w1 _ (by omega) (by omega) s2 hT' (src_updF hp s3.predrew fun q hq _ => hgp q hq)
    have c1 : (0 : Int) ≤ (i : Int) ∧ (i : Int) < ((ps.len : Nat) : Int) := by omega
    have c2 : (0 : Int) ≤ (((255 - i) % 255 : Nat) : Int) ∧ (((255 - i) % 255 : Nat) : Int) < ((ps.len : Nat) : Int) := by rw [hpl]; exact ⟨Int.natCast_nonneg _, Int.ofNat_lt.2 hlt⟩
    have c3 : (0 : Int) ≤ bF (tj i) ∧ bF (tj i) < ((256 : Nat) : Int) := ⟨Int.natCast_nonneg _, Int.ofNat_lt.2 hvl⟩
    have c4 : Int.toNat (bF (tj i)) = (tj i).n := Int.toNat_natCast _
    refine ⟨w2, T2, ?_, k2, k3, s3.predrew.trans' k4 fun _ _ e => e⟩
    show ref11_near_l2_b K (ref11_near_l2 K f) b s5 n7 ps ⟨g, 0, none⟩ (i : Int) w = _
    unfold ref11_near_l2_b
    rw [if_pos (decide_eq_true (show (i : Int) < 255 by omega)), p1, Option.bind_some, if_pos c1, Option.bind_some, e1, e5, if_pos c2, Int.toNat_natCast, Nat.mul_one, p2, Option.bind_some, Int.toNat_natCast, Nat.mul_one, p3, Option.bind_some, if_pos c3, c4, Nat.mul_one, add_lit, Nat.zero_add, s1, Option.bind_some, e3, k1]

end Go.Sh

/- A row put right: the document's way, whole. -/
set_option linter.unusedVariables false
set_option maxRecDepth 100000
namespace Go.Sh
open Go.Fw Go.Gf Go.RowKit Go.Proofs.Try

theorem near_s5 {K : Nat} (hK : 300 ≤ K) {w : World} {g : Nat} {e : TypeId} {c0 c1 c2 c3 : F} (b : Bk e w g (fb [c0, c1, c2, c3])) (x y ww v : F) :
    ref11_near_s5 K ⟨g, 0, none⟩ (bF x) (bF y) (bF ww) (bF v) w = some ((decide (c2 ≠ v * (x * x) + ww * (y * y) ∨ c3 ≠ v * (x * (x * x)) + ww * (y * (y * y)) ∨ v = 0 ∨ ww = 0), ()), w.drew) := by
  obtain ⟨d0, d1, d2, d3⟩ := cells4 hK b.drew
  have bq : ∀ a c : F, (bF a != bF c) = decide (a ≠ c) := fun a c => by rw [Bool.eq_iff_iff, bne_iff_ne, ne_eq, bF_eq, decide_eq_true_eq]
  have bz : ∀ a : F, (bF a == 0) = decide (a = 0) := fun a => by rw [Bool.eq_iff_iff, bF_beq, decide_eq_true_eq]
  unfold ref11_near_s5
  simp only [Nat.mul_one, add_lit, Nat.zero_add, d2, d3, Option.bind_some, rtimes hK, addF, bq, bz, decide_eq_true_eq]
  by_cases h1 : c2 ≠ v * (x * x) + ww * (y * y)
  · rw [if_pos h1, decide_eq_true (Or.inl h1)]
  · rw [if_neg h1]
    by_cases h2 : c3 ≠ v * (x * (x * x)) + ww * (y * (y * y))
    · rw [if_pos h2, decide_eq_true (Or.inr (Or.inl h2))]
    · rw [if_neg h2]
      by_cases h3 : v = 0
      · rw [if_pos h3, decide_eq_true (Or.inr (Or.inr (Or.inl h3)))]
      · rw [if_neg h3]
        have : decide (ww = 0) = decide (c2 ≠ v * (x * x) + ww * (y * y) ∨ c3 ≠ v * (x * (x * x)) + ww * (y * (y * y)) ∨ v = 0 ∨ ww = 0) := by
          rw [decide_eq_decide]
          constructor
          · intro h; exact .inr (.inr (.inr h))
          · rintro (h | h | h | h)
            · exact absurd h h1
            · exact absurd h h2
            · exact absurd h h3
            · exact h
        rw [this]

theorem near_l4 {K : Nat} (hK : 18446744073709551616 ≤ K) {b ps : Sl} {l : List F} {g gi : Nat} {e e' : TypeId} {T : List F} (hT : InvT T 255) (hl : l.length ≤ 255) {i : Nat} (hi : i < l.length) :
    ∀ (d k f : Nat) (w : World), k + d = l.length → d < f → i < k → BSrc w b l → Bk e w g (fb [sj l 0, sj l 1, sj l 2, sj l 3]) → Bk e' w gi (fb T) → BSrc w ps (powL 255) →
      match (List.range' k d).findSome? (Gf.try2 l i) with
      | none => ∃ w', ref11_near_l4 K f b ⟨g, 0, none⟩ ((l.length : Nat) : Int) ps ⟨gi, 0, none⟩ (i : Int) (bF (tj (l.length - 1 - i))) (k : Int) w = some (.norm (), w') ∧ Upd none_ w w'
      | some c => ∃ s w', ref11_near_l4 K f b ⟨g, 0, none⟩ ((l.length : Nat) : Int) ps ⟨gi, 0, none⟩ (i : Int) (bF (tj (l.length - 1 - i))) (k : Int) w = some (.ret (s, 2, true, ()), w') ∧ Upd none_ w w' ∧ OwnS 5 w' s (fb c) ∧ Fresh w.heap.size s := by
  intro d
  induction d with
  | zero =>
    intro k f w hk hf hik hs hb hg hp
    obtain ⟨f, rfl⟩ : ∃ q, f = q + 1 := ⟨f - 1, by omega⟩
    refine ⟨w, ?_, Upd.refl _ _⟩
    show ref11_near_l4_b K (ref11_near_l4 K f) b ⟨g, 0, none⟩ ((l.length : Nat) : Int) ps ⟨gi, 0, none⟩ (i : Int) (bF (tj (l.length - 1 - i))) (k : Int) w = _
    unfold ref11_near_l4_b
    rw [if_neg (by simp only [decide_eq_true_eq]; omega)]
  | succ d ih =>
    intro k f w hk hf hik hs hb hg hp
    obtain ⟨f, rfl⟩ : ∃ q, f = q + 1 := ⟨f - 1, by omega⟩
    have hkl : k < l.length := by omega
    have hpl : ps.len = 255 := by rw [hp.len, fb_length, powL_length]
    have e3 : IntKind.i64.wrap ((k : Int) + 1) = ((k + 1 : Nat) : Int) := by rw [w64 (by omega) (by omega)]; rfl
    have e1 : IntKind.i64.wrap (((l.length : Nat) : Int) - 1) = ((l.length - 1 : Nat) : Int) := by rw [w64 (by omega) (by omega)]; omega
    have e2 : IntKind.i64.wrap (((l.length - 1 : Nat) : Int) - (k : Int)) = ((l.length - 1 - k : Nat) : Int) := by rw [w64 (by omega) (by omega)]; omega
    obtain ⟨X, hX⟩ : ∃ X, X = tj (l.length - 1 - i) := ⟨_, rfl⟩
    obtain ⟨Y, hY⟩ : ∃ Y, Y = tj (l.length - 1 - k) := ⟨_, rfl⟩
    obtain ⟨q, q1, q2⟩ := src_cell hp (i := l.length - 1 - k) (by rw [powL_length]; omega)
    rw [powL_get (by omega), ← hY] at q2
    have hxy := (X + Y).lt
    have c3 : (0 : Int) ≤ bF (X + Y) ∧ bF (X + Y) < ((256 : Nat) : Int) := ⟨Int.natCast_nonneg _, Int.ofNat_lt.2 hxy⟩
    have c4 : Int.toNat (bF (X + Y)) = (X + Y).n := Int.toNat_natCast _
    obtain ⟨d0, d1, d2, d3⟩ := cells4 (show 300 ≤ K by omega) hb.drew
    have hti : ldI .u8 (⟨gi, (X + Y).n, none⟩ : Addr) w.drew = some (bF (X + Y).inv) := by
      have := bk_cellF hg.drew (j := (X + Y).n) (by rw [hT.1]; exact hxy)
      rw [this]
      have h2 := invT_all hT (X + Y)
      rw [List.getD_eq_getElem?_getD, List.getElem?_eq_getElem (by rw [hT.1]; exact hxy)] at h2
      have h2 : T[(X + Y).n]'(by rw [hT.1]; exact hxy) = (X + Y).inv := h2
      rw [h2]
    obtain ⟨W, hW⟩ : ∃ W, W = Gf.wOf (sj l 0) (sj l 1) X Y := ⟨_, rfl⟩
    have hW' : (sj l 1 + sj l 0 * X) * (X + Y).inv = W := hW.symm
    have h5 := near_s5 (K := K) (by omega) hb.drew X Y W (sj l 0 + W)
    have c2 : (0 : Int) ≤ ((l.length - 1 - k : Nat) : Int) ∧ ((l.length - 1 - k : Nat) : Int) < ((ps.len : Nat) : Int) := by omega
    have hun : ref11_near_l4 K (f + 1) b ⟨g, 0, none⟩ ((l.length : Nat) : Int) ps ⟨gi, 0, none⟩ (i : Int) (bF (tj (l.length - 1 - i))) (k : Int) w = ref11_near_l4_b K (ref11_near_l4 K f) b ⟨g, 0, none⟩ ((l.length : Nat) : Int) ps ⟨gi, 0, none⟩ (i : Int) (bF X) (k : Int) w := by rw [hX]; rfl
    have ht2 : Gf.try2 l i k = if sj l 2 ≠ (sj l 0 + W) * (X * X) + W * (Y * Y) ∨ sj l 3 ≠ (sj l 0 + W) * (X * (X * X)) + W * (Y * (Y * Y)) ∨ sj l 0 + W = 0 ∨ W = 0 then none else some (putX (putX l i (sj l 0 + W)) k W) := by
      rw [hW, hX, hY]; rfl
    rw [hun, List.range'_succ, List.findSome?_cons, ht2]
    unfold ref11_near_l4_b
    rw [if_pos (decide_eq_true (show (k : Int) < ((l.length : Nat) : Int) by omega)), q1, Option.bind_some, e1, e2, if_pos c2, Int.toNat_natCast, Nat.mul_one, q2, Option.bind_some, addF, if_pos c3, Nat.mul_one, Nat.zero_mul, add_lit, add_lit, Nat.zero_add, Nat.zero_add, d1, Option.bind_some, d0, Option.bind_some, rtimes (by omega), Option.bind_some, c4, Nat.mul_one, add_lit, Nat.zero_add, hti, Option.bind_some]
    dsimp only
    rw [addF, rtimes (by omega), hW', Option.bind_some, Option.bind_some]
    dsimp only
    rw [addF, h5, bnd_ok, e3]
    have u0 : Upd none_ w w.drew.drew := ((Upd.refl none_ w).drew).drew
    by_cases hc : sj l 2 ≠ (sj l 0 + W) * (X * X) + W * (Y * Y) ∨ sj l 3 ≠ (sj l 0 + W) * (X * (X * X)) + W * (Y * (Y * Y)) ∨ sj l 0 + W = 0 ∨ W = 0
    · rw [if_pos hc, if_pos (decide_eq_true hc), hX]
      have hrec := ih (k + 1) f w.drew.drew (by omega) (by omega) (by omega) (hs.upd0 u0) (hb.upd0 u0) (hg.upd0 u0) (hp.upd0 u0)
      dsimp only
      cases hs2 : (List.range' (k + 1) d).findSome? (Gf.try2 l i) with
      | none =>
        rw [hs2] at hrec
        obtain ⟨w', x1, x2⟩ := hrec
        exact ⟨w', x1, u0.and0 x2⟩
      | some c =>
        rw [hs2] at hrec
        obtain ⟨s, w', x1, x2, x3, x4⟩ := hrec
        exact ⟨s, w', x1, u0.and0 x2, x3, x4⟩
    · rw [if_neg hc, if_neg (fun h => hc (of_decide_eq_true h))]
      dsimp only
      obtain ⟨w1, s1, w2, a1, a2, a3, a4, a5⟩ := copy_fb (hs.upd0 u0) (by omega)
      have hsl : s1.len = l.length := by rw [a3.len, fb_length]
      obtain ⟨p, p1, p2⟩ := own_cell a3 hi
      obtain ⟨p', w3, t1, t2, t3, t4⟩ := own_set a3 (i := i) hi (l.getD i 0 + (sj l 0 + W))
      obtain rfl : p' = p := Option.some.inj (t1.symm.trans p1)
      rw [← putX_set] at t3
      obtain ⟨r, r1, r2⟩ := own_cell t3 (i := k) (by rw [putX_length]; exact hkl)
      obtain rfl : r = p' := Option.some.inj (r1.symm.trans p1)
      obtain ⟨r', w4, v1, v2, v3, v4⟩ := own_set t3 (i := k) (by rw [putX_length]; exact hkl) ((putX l i (sj l 0 + W)).getD k 0 + W)
      obtain rfl : r' = r := Option.some.inj (v1.symm.trans r1)
      rw [← putX_set] at v3
      have ci : (0 : Int) ≤ (i : Int) ∧ (i : Int) < ((s1.len : Nat) : Int) := by omega
      have ck : (0 : Int) ≤ (k : Int) ∧ (k : Int) < ((s1.len : Nat) : Int) := by omega
      have u4 : Upd none_ w w4 := ((u0.and0 a4).trans' t4 fun j hj e => by have := a5 j e; have : w.heap.size ≤ j := this; omega).trans' v4 fun j hj e => by have := a5 j e; have : w.heap.size ≤ j := this; omega
      have a1 : bldS prog 25 0 #[] w.drew.drew = some (⟨some ⟨w.drew.drew.heap.size, 0, none⟩, 0, 0⟩, w1) := a1
      refine ⟨s1, w4, ?_, u4, v3, a5⟩
      rw [a1, bnd_ok]
      dsimp only
      rw [a2, bnd_ok, p1, Option.bind_some, if_pos ci, Int.toNat_natCast, Nat.mul_one, p2, Option.bind_some, Option.bind_some, if_pos ci, addF, t2, Option.bind_some, Option.bind_some, if_pos ck, Int.toNat_natCast, Nat.mul_one, r2, Option.bind_some, Option.bind_some, if_pos ck, addF, v2, Option.bind_some]

theorem near_l3 {K : Nat} (hK : 18446744073709551616 ≤ K) {b ps : Sl} {l : List F} {g gi : Nat} {e e' : TypeId} {T : List F} (hT : InvT T 255) (hl : l.length ≤ 255) :
    ∀ (d i f : Nat) (w : World), i + d = l.length → d < f → BSrc w b l → Bk e w g (fb [sj l 0, sj l 1, sj l 2, sj l 3]) → Bk e' w gi (fb T) → BSrc w ps (powL 255) →
      match Gf.first2 l i d with
      | none => ∃ w', ref11_near_l3 K f b ⟨g, 0, none⟩ ((l.length : Nat) : Int) ps ⟨gi, 0, none⟩ (i : Int) w = some (.norm (), w') ∧ Upd none_ w w'
      | some c => ∃ s w', ref11_near_l3 K f b ⟨g, 0, none⟩ ((l.length : Nat) : Int) ps ⟨gi, 0, none⟩ (i : Int) w = some (.ret (s, 2, true, ()), w') ∧ Upd none_ w w' ∧ OwnS 5 w' s (fb c) ∧ Fresh w.heap.size s := by
  intro d
  induction d with
  | zero =>
    intro i f w hi hf hs hb hg hp
    obtain ⟨f, rfl⟩ : ∃ q, f = q + 1 := ⟨f - 1, by omega⟩
    refine ⟨w, ?_, Upd.refl _ _⟩
    show ref11_near_l3_b K (ref11_near_l3 K f) b ⟨g, 0, none⟩ ((l.length : Nat) : Int) ps ⟨gi, 0, none⟩ (i : Int) w = _
    unfold ref11_near_l3_b
    rw [if_neg (by simp only [decide_eq_true_eq]; omega)]
  | succ d ih =>
    intro i f w hi hf hs hb hg hp
    obtain ⟨f, rfl⟩ : ∃ q, f = q + 1 := ⟨f - 1, by omega⟩
    have hil : i < l.length := by omega
    have hpl : ps.len = 255 := by rw [hp.len, fb_length, powL_length]
    have e3 : IntKind.i64.wrap ((i : Int) + 1) = ((i + 1 : Nat) : Int) := by rw [w64 (by omega) (by omega)]; rfl
    have e1 : IntKind.i64.wrap (((l.length : Nat) : Int) - 1) = ((l.length - 1 : Nat) : Int) := by rw [w64 (by omega) (by omega)]; omega
    have e2 : IntKind.i64.wrap (((l.length - 1 : Nat) : Int) - (i : Int)) = ((l.length - 1 - i : Nat) : Int) := by rw [w64 (by omega) (by omega)]; omega
    obtain ⟨q, q1, q2⟩ := src_cell hp (i := l.length - 1 - i) (by rw [powL_length]; omega)
    rw [powL_get (by omega)] at q2
    have c2 : (0 : Int) ≤ ((l.length - 1 - i : Nat) : Int) ∧ ((l.length - 1 - i : Nat) : Int) < ((ps.len : Nat) : Int) := by omega
    have h4 := near_l4 hK hT hl hil (l.length - (i + 1)) (i + 1) K w (by omega) (by omega) (by omega) hs hb hg hp
    have hun : ref11_near_l3 K (f + 1) b ⟨g, 0, none⟩ ((l.length : Nat) : Int) ps ⟨gi, 0, none⟩ (i : Int) w = ref11_near_l3_b K (ref11_near_l3 K f) b ⟨g, 0, none⟩ ((l.length : Nat) : Int) ps ⟨gi, 0, none⟩ (i : Int) w := rfl
    have hfs : Gf.first2 l i (d + 1) = (match Gf.first2in l i (i + 1) (l.length - (i + 1)) with | some c => some c | none => Gf.first2 l (i + 1) d) := by
      unfold Gf.first2
      rw [List.range'_succ, List.findSome?_cons]
      cases Gf.first2in l i (i + 1) (l.length - (i + 1)) <;> rfl
    rw [hun, hfs]
    unfold ref11_near_l3_b Gf.first2in
    rw [if_pos (decide_eq_true (show (i : Int) < ((l.length : Nat) : Int) by omega)), q1, Option.bind_some, e1, e2, if_pos c2, Int.toNat_natCast, Nat.mul_one, q2, Option.bind_some, e3]
    cases hs4 : (List.range' (i + 1) (l.length - (i + 1))).findSome? (Gf.try2 l i) with
    | some c =>
      rw [hs4] at h4
      obtain ⟨s, w', x1, x2, x3, x4⟩ := h4
      exact ⟨s, w', by rw [x1, bnd_ok], x2, x3, x4⟩
    | none =>
      rw [hs4] at h4
      obtain ⟨w1, x1, x2⟩ := h4
      rw [x1, bnd_ok]
      dsimp only
      have hrec := ih (i + 1) f w1 (by omega) (by omega) (hs.upd0 x2) (hb.upd0 x2) (hg.upd0 x2) (hp.upd0 x2)
      have q := x2.size
      cases hs2 : Gf.first2 l (i + 1) d with
      | none =>
        rw [hs2] at hrec
        obtain ⟨w', y1, y2⟩ := hrec
        exact ⟨w', y1, x2.and0 y2⟩
      | some c =>
        rw [hs2] at hrec
        obtain ⟨s, w', y1, y2, y3, y4⟩ := hrec
        exact ⟨s, w', y1, x2.and0 y2, y3, fun k hk => by have := y4 k hk; omega⟩

theorem und153 : prog.underlying 60 = some (.array 4 5) := by kernel_rfl
theorem built153 : prog.built 60 [] = some (fb [0, 0, 0, 0]).toArray := by kernel_rfl
theorem eq153 {l m : List F} (hl : l.length = 4) (hm : m.length = 4) : eqA prog 60 (fb l).toArray (fb m).toArray = some (decide (l = m)) := by
  unfold eqA
  rw [und153]
  dsimp only
  rw [und5']
  dsimp only
  rw [if_pos ⟨by rw [List.size_toArray, fb_length, hl], by rw [List.size_toArray, fb_length, hm], allI_fb l, allI_fb m⟩, numI_fb, numI_fb]
  rw [decide_eq_decide.2 map_bF_eq]
theorem z188_eq : z64 = (fb (List.replicate 256 0)).toArray := by kernel_rfl

theorem near_ok {K : Nat} (hK : 18446744073709551616 ≤ K) {w : World} {b : Sl} {l : List F} (hs : BSrc w b l) (hl : l.length ≤ 255) :
    ∃ s n v w', ref11_near K b w = some ((s, n, v, ()), w') ∧ Upd none_ w w' ∧ (match Gf.nearP l with | some r => v = true ∧ n = ((r.2 : Nat) : Int) ∧ BSrc w' s r.1 ∧ (s = b ∨ Fresh w.heap.size s) | none => v = false) := by
  have hK3 : 300 ≤ K := by omega
  have hbl : b.len = l.length := by rw [hs.len, fb_length]
  obtain ⟨w1, a1, u1⟩ := rSums_ok hK hs (by omega)
  obtain ⟨w2, b1, b2, b3, b4⟩ := newB_ok z60 60 w1
  have b2 : Bk 60 w2 w1.heap.size (fb [0, 0, 0, 0]) := b2
  obtain ⟨w3, c1, c2, c3⟩ := b2.stA (o := 0) (vs := (fb (sumsL l)).toArray) (by simp [fb, ints, sumsL]) (fun v hv => fb_one _ v hv)
  have c2 : Bk 60 w3 w1.heap.size (fb [sj l 0, sj l 1, sj l 2, sj l 3]) := c2
  have q1 := u1.size
  have q2 := b3.size
  have q3 := c3.size
  have u3 : Upd none_ w w3 := (u1.and0 b3).trans' c3 fun k hk e => by omega
  obtain ⟨w4, d1, d2, d3, d4⟩ := newB_ok z60 60 w3
  have d2 : Bk 60 w4 w3.heap.size (fb [0, 0, 0, 0]) := d2
  obtain ⟨w5, e1, e2, e3⟩ := d2.stA (o := 0) (vs := (fb [0, 0, 0, 0]).toArray) (by simp [fb, ints]) (fun v hv => fb_one _ v hv)
  have e2 : Bk 60 w5 w3.heap.size (fb [0, 0, 0, 0]) := e2
  have hlt3 := c2.lt
  have c5 := (c2.upd0 d3).upd e3 (by omega)
  have u5 : Upd none_ w w5 := (u3.and0 d3).trans' e3 fun k hk e => by omega
  have g1 := c5.ldA (i := 0) (n := 4) (by rw [fb_length]; simp)
  have g1 : ldA 4 ⟨w1.heap.size, 0, none⟩ w5 = some (fb (sumsL l)).toArray := g1
  have g2 := e2.ldA (i := 0) (n := 4) (by rw [fb_length]; simp)
  have g2 : ldA 4 ⟨w3.heap.size, 0, none⟩ w5 = some (fb [0, 0, 0, 0]).toArray := g2
  unfold ref11_near
  rw [a1, bnd_ok, b1, bnd_ok, if_pos (by simp [fb, ints, sumsL]), c1, Option.bind_some, built153, Option.bind_some, d1, bnd_ok, if_pos (by simp [fb, ints]), e1, Option.bind_some, g1, Option.bind_some, g2, Option.bind_some, eq153 rfl rfl, Option.bind_some]
  unfold Gf.nearP
  by_cases hr : Right l
  · rw [if_pos (decide_eq_true ((right_sums l).2 hr)), if_pos hr]
    exact ⟨b, 0, true, w5, rfl, u5, rfl, rfl, hs.upd0 u5, .inl rfl⟩
  · rw [if_neg (fun h => hr ((right_sums l).1 (of_decide_eq_true h))), if_neg hr]
    obtain ⟨sp, w6, f1, f2, f3, f4⟩ := rPowers_ok hK w5 (n := 255) (by omega)
    have f1 : ref11_Powers K 255 w5 = some ((sp, ()), w6) := f1
    have u6 := u5.and0 f3
    have h0 := near_l0 hK (b := b) (ps := sp) (g := w1.heap.size) (e := 60) hl l.length 0 K w6 (by omega) (by omega) (hs.upd0 u6) (c5.upd0 f3) (f2.src (fb_one _))
    have e0 : ref11_near_l0 K K b ⟨w1.heap.size, 0, none⟩ ((b.len : Nat) : Int) sp 0 w6 = ref11_near_l0 K K b ⟨w1.heap.size, 0, none⟩ ((l.length : Nat) : Int) sp ((0 : Nat) : Int) w6 := by rw [hbl]; rfl
    rw [f1, bnd_ok]
    dsimp only
    rw [e0]
    have q6 := u6.size
    unfold Gf.first1
    cases hf1 : (List.range' 0 l.length).findSome? (Gf.try1 l) with
    | some c =>
      rw [hf1] at h0
      obtain ⟨s, w7, x1, x2, x3, x4⟩ := h0
      rw [x1, bnd_ok]
      refine ⟨s, 1, (bF (sj l 0) != 0), w7, rfl, u6.and0 x2, ?_, rfl, x3.src (fb_one _), .inr fun k hk => by have := x4 k hk; omega⟩
      obtain ⟨i, hi, ht⟩ := List.exists_of_findSome?_eq_some hf1
      rw [bF_bne]
      intro hz
      unfold Gf.try1 at ht
      simp only at ht
      split at ht
      · rename_i hc
        refine hr ((right_sums l).1 ?_)
        obtain ⟨y1, y2, y3⟩ := hc
        rw [hz, F.zero_mul] at y1 y2 y3
        simp [sumsL, hz, y1, y2, y3]
      · cases ht
    | none =>
      rw [hf1] at h0
      obtain ⟨w7, x1, x2⟩ := h0
      rw [x1, bnd_ok]
      dsimp only
      have u7 := u6.and0 x2
      obtain ⟨w8, i1, i2, i3, i4⟩ := newB_ok z64 64 w7
      have i2 : Bk 64 w8 w7.heap.size (fb (List.replicate 256 0)) := by
        rw [z188_eq] at i2; exact i2
      have u8 := u7.and0 i3
      have q7 := x2.size
      have f8 := (f2.upd0 x2).upd0 i3
      have hsp : ∀ q, sp.a = some q → q.block ≠ w7.heap.size := fun q hq => by have := own_lt f2 q hq; omega
      obtain ⟨w9, T, j1, j2, j3, j4⟩ := near_l2 (K := K) hK3 (b := b) (s5 := ⟨w1.heap.size, 0, none⟩) (n7 := ((b.len : Nat) : Int)) hsp 255 0 K w8 _ (by omega) (by omega) i2 ⟨by rw [List.length_replicate], by rfl, fun j hj => by omega⟩ (f8.src (fb_one _))
      have j1 : ref11_near_l2 K K b ⟨w1.heap.size, 0, none⟩ ((b.len : Nat) : Int) sp ⟨w7.heap.size, 0, none⟩ 0 w8 = some ((), w9) := j1
      have u9 : Upd none_ w w9 := u8.trans' j4 fun k hk e => by omega
      have c9 := (((c5.upd0 f3).upd0 x2).upd0 i3).upd j4 (by have := c5.lt; have := f3.size; omega)
      have h3 := near_l3 hK (b := b) (ps := sp) (g := w1.heap.size) (gi := w7.heap.size) (e := 60) (e' := 64) j3 hl l.length 0 K w9 (by omega) (by omega) (hs.upd0 u9) c9 j2 (src_updF (f8.src (fb_one _)) j4 fun q hq _ => hsp q hq)
      have e3' : ref11_near_l3 K K b ⟨w1.heap.size, 0, none⟩ ((b.len : Nat) : Int) sp ⟨w7.heap.size, 0, none⟩ 0 w9 = ref11_near_l3 K K b ⟨w1.heap.size, 0, none⟩ ((l.length : Nat) : Int) sp ⟨w7.heap.size, 0, none⟩ ((0 : Nat) : Int) w9 := by rw [hbl]; rfl
      have q9 := u9.size
      rw [i1, bnd_ok, j1, bnd_ok, e3']
      cases hf2 : Gf.first2 l 0 l.length with
      | some c =>
        rw [hf2] at h3
        obtain ⟨s, w10, y1, y2, y3, y4⟩ := h3
        rw [y1, bnd_ok]
        exact ⟨s, 2, true, w10, rfl, u9.and0 y2, rfl, rfl, y3.src (fb_one _), .inr fun k hk => by have := y4 k hk; omega⟩
      | none =>
        rw [hf2] at h3
        obtain ⟨w10, y1, y2⟩ := h3
        rw [y1, bnd_ok]
        exact ⟨_, _, _, w10, rfl, u9.and0 y2, rfl⟩

end Go.Sh

/- Words: what the program and the document write. -/
set_option linter.unusedVariables false
namespace Go.Sh
open Go.Fw Go.Gf Go.RowKit Go.Proofs.Try

def letC (k : Nat) : Int := (((str1[k]?).getD 0).toNat : Int)
def letV (k : Nat) : Int := (((str2[k]?).getD 0).toNat : Int)

theorem letC_at {k : Nat} (h : k < 16) : ∃ b : UInt8, str1[k]? = some b ∧ ((b.toNat : Nat) : Int) = letC k := by
  have : k < str1.size := h
  exact ⟨str1[k], getElem?_pos str1 k this, by rw [letC, getElem?_pos str1 k this]; rfl⟩
theorem letV_at {k : Nat} (h : k < 4) : ∃ b : UInt8, str2[k]? = some b ∧ ((b.toNat : Nat) : Int) = letV k := by
  have : k < str2.size := h
  exact ⟨str2[k], getElem?_pos str2 k this, by rw [letV, getElem?_pos str2 k this]; rfl⟩

/-- the letters of a number of sixteen bits -/
def five (v : Nat) : List Int := [letC (v / 4096), letV (v / 1024 % 4), letC (v / 64 % 16), letV (v / 16 % 4), letC (v % 16)]

def wordsL (bs : List Nat) : Nat → Nat → List Int → List Int
  | 0, _, acc => acc
  | d + 1, i, acc => if i + 1 < bs.length then wordsL bs d (i + 2) (acc ++ (if 0 < i then [32] else []) ++ five (bs.getD i 0 * 256 + bs.getD (i + 1) 0)) else acc

theorem b2sQ_of {w : World} {s : Sl} {xs : List Int} (h : RdS .u8 w s xs) : b2sQ prog s.a s.len s.cap w = some (bytesOf xs) := by
  have h1 : b2s prog s.a s.len s.cap w = some (bytesOf xs, w) := b2s_ok h
  unfold b2s at h1
  split at h1
  · rename_i s2 w2 hr
    obtain ⟨rfl, rfl⟩ := Prod.mk.inj (Option.some.inj h1)
    unfold b2sQ
    rw [hr]
    dsimp only
    rw [if_pos rfl]
  · cases h1

theorem five_len (v : Nat) : (five v).length = 5 := rfl

theorem word_v {a b : Nat} (ha : a < 256) (hb : b < 256) : bits .or .i64 (IntKind.i64.wrap ((IntKind.i64.wrap (a : Int)) * 2 ^ 8)) (IntKind.i64.wrap (b : Int)) = ((a * 256 + b : Nat) : Int) := by
  rw [wn64 (by omega), wn64 (by omega)]
  have e : ((a : Nat) : Int) * 2 ^ 8 = ((a * 2 ^ 8 : Nat) : Int) := by simp
  rw [e, wn64 (by omega), or_i64 (by omega) 8 (by decide) (by omega)]

theorem word_w {a b : Nat} (ha : a < 256) (hb : b < 256) : IntKind.i64.wrap ((IntKind.i64.wrap ((IntKind.i64.wrap (a : Int)) * 256)) + (IntKind.i64.wrap (b : Int))) = ((a * 256 + b : Nat) : Int) := by
  rw [wn64 (by omega), wn64 (by omega)]
  have e : ((a : Nat) : Int) * 256 = ((a * 256 : Nat) : Int) := by simp
  rw [e, wn64 (by omega)]
  have e : ((a * 256 : Nat) : Int) + (b : Int) = ((a * 256 + b : Nat) : Int) := by simp
  rw [e, wn64 (by omega)]

theorem Words_space (K B : Nat) {s : Sl} {acc : List Int} {w : World} (i : Nat) (ho : OwnS 5 w s (ints .u8 acc)) (ha : acc.length ≤ 4398046511104) (hB : B ≤ w.heap.size) (hf : Fresh B s) :
    ∃ s' w', escrow_Words_s1 K s (decide ((i : Int) > 0)) w = some ((s', ()), w') ∧ OwnS 5 w' s' (ints .u8 (acc ++ if 0 < i then [32] else [])) ∧ Below B w w' ∧ Fresh B s' := by
  have hl : s.len = acc.length := by rw [ho.len]; simp
  by_cases hi : 0 < i
  · obtain ⟨w1, h1, o1, u1, z1⟩ := bldS_ok sliceB (ints .u8 [32]) (by simp [ints, Value.cells]) (by simp) (by simp) w
    obtain ⟨s2, w2, h2, l2, o2, u2, b2⟩ := apd_ok sliceB (ho.upd0 u1) (o1.src ints_one) (by show (s.len + 1) * 1 ≤ _; omega)
    rw [← ints_append] at o2
    have bl1 : Below B w w1 := u1.below hB fun _ _ => id
    refine ⟨s2, w2, ?_, by simpa [hi] using o2, below_upd bl1 u2 (by omega) fun k hk e => (by have := hf k e; omega), ?_⟩
    · have hd : decide ((i : Int) > 0) = true := by simp; omega
      have h1' : bldS prog 25 1 #[(0, (.int .u8 32))] w = _ := h1
      have h2' : apd prog 25 25 (.slice s.a s.len s.cap) (.slice (some ⟨w.heap.size, 0, none⟩) 1 1) w1 = _ := h2
      unfold escrow_Words_s1
      rw [hd, if_pos rfl, h1', bnd_ok]
      show bnd (apd prog 25 25 (.slice s.a s.len s.cap) (.slice (some ⟨w.heap.size, 0, none⟩) 1 1) w1) _ = _
      rw [h2', bnd_ok]
    · intro k hk
      rcases b2 with e | e
      · exact hf k (e ▸ hk)
      · rw [e] at hk; have := Option.some.inj hk; omega
  · refine ⟨s, w, ?_, by simpa [hi] using ho, Below.refl B w, hf⟩
    have hd : decide ((i : Int) > 0) = false := by simp; omega
    unfold escrow_Words_s1
    rw [hd, if_neg (by decide)]

theorem Words_loop (K B : Nat) {b : Sl} {bs : List Nat} (hb : ∀ x ∈ bs, x < 256) (hs : bs.length ≤ 1099511627776) :
    ∀ (d i n : Nat) (w : World) (s : Sl) (acc : List Int), bs.length ≤ i + d → i ≤ bs.length + 1 → d + 1 < n → RdS .u8 w b (bs.map Int.ofNat) → (∀ p, b.a = some p → p.block < B) → OwnS 5 w s (ints .u8 acc) → acc.length ≤ 3 * i → B ≤ w.heap.size → Fresh B s →
      ∃ s' w', escrow_Words_l0 K n b s (i : Int) w = some ((s', ()), w') ∧ OwnS 5 w' s' (ints .u8 (wordsL bs (d + 1) i acc)) ∧ Below B w w' := by
  intro d
  induction d using Nat.strongRecOn with
  | _ d ih =>
  intro i n w s acc hd hib hn hr hp ho ha hB hf
  obtain ⟨n, rfl⟩ : ∃ m, n = m + 1 := ⟨n - 1, by omega⟩
  have hlen : (bs.map Int.ofNat).length = bs.length := List.length_map ..
  have hw1 : IntKind.i64.wrap ((i : Int) + 1) = ((i + 1 : Nat) : Int) := by rw [w64 (by omega) (by omega)]; rfl
  have hw2 : IntKind.i64.wrap ((i : Int) + 2) = ((i + 2 : Nat) : Int) := by rw [w64 (by omega) (by omega)]; rfl
  by_cases hc : i + 1 < bs.length
  · have i1 : i < bs.length := by omega
    obtain ⟨s1, w1, h1, o1, bl1, hf1⟩ := Words_space K B i ho (by omega) hB hf
    have hr1 := (hr.belowB bl1 hp).drew
    obtain ⟨p, hpa, hpl⟩ := hr1.ld
    have hne : bs.map Int.ofNat ≠ [] := by intro e; have := congrArg List.length e; simp at this; subst this; simp at i1
    have hA : bs[i] < 256 := hb _ (List.getElem_mem i1)
    have hC : bs[i + 1] < 256 := hb _ (List.getElem_mem hc)
    have l1 : ldI .u8 (p.add i) w1.drew = some ((bs[i] : Nat) : Int) := by have := hpl i (by omega); simpa using this
    have l2 : ldI .u8 (p.add (i + 1)) w1.drew = some ((bs[i + 1] : Nat) : Int) := by have := hpl (i + 1) (by omega); simpa using this
    have hv : bs.getD i 0 * 256 + bs.getD (i + 1) 0 = bs[i] * 256 + bs[i + 1] := by
      rw [List.getD_eq_getElem?_getD, List.getD_eq_getElem?_getD, List.getElem?_eq_getElem i1, List.getElem?_eq_getElem hc]; rfl
    obtain ⟨v, hvv⟩ : ∃ v, bs[i] * 256 + bs[i + 1] = v := ⟨_, rfl⟩
    rw [hvv] at hv
    have hv16 : v < 65536 := by omega
    obtain ⟨c1, e1, d1⟩ := letC_at (k := v / 2 ^ 12) (by omega)
    obtain ⟨c2, e2, d2⟩ := letV_at (k := v / 2 ^ 10 % 4) (by omega)
    obtain ⟨c3, e3, d3⟩ := letC_at (k := v / 2 ^ 6 % 16) (by omega)
    obtain ⟨c4, e4, d4⟩ := letV_at (k := v / 2 ^ 4 % 4) (by omega)
    obtain ⟨c5, e5, d5⟩ := letC_at (k := v % 16) (by omega)
    obtain ⟨w2, h2, o2, u2, z2⟩ := bldS_ok sliceB (ints .u8 (five v)) (by simp [ints, five, Value.cells]) (by simp [five]) (by simp [five]) w1.drew.drew
    have hl1 : s1.len ≤ acc.length + 1 := by rw [o1.len]; simp; split <;> simp
    obtain ⟨s3, w3, h3, l3, o3, u3, b3⟩ := apd_ok sliceB (o1.drew.drew.upd0 u2) (o2.src ints_one) (by show (s1.len + 5) * 1 ≤ _; omega)
    rw [← ints_append] at o3
    have bl2 : Below B w w2 := bl1.trans ((Below.refl B w1).drew.drew.trans (u2.below (by have := bl1.size; exact Nat.le_trans hB this) fun _ _ => id))
    have bl3 : Below B w w3 := below_upd bl2 u3 (by have := bl2.size; omega) fun k hk e => (by have := hf1 k e; omega)
    have hf3 : Fresh B s3 := by
      intro k hk
      rcases b3 with e | e
      · exact hf1 k (e ▸ hk)
      · rw [e] at hk; have := Option.some.inj hk; have := bl2.size; omega
    obtain ⟨d', rfl⟩ : ∃ m, d = m + 1 := ⟨d - 1, by omega⟩
    obtain ⟨s4, w4, h4, o4, bl4⟩ := ih d' (by omega) (i + 2) n w3 s3 (acc ++ (if 0 < i then [32] else []) ++ five v) (by omega) (by omega) (by omega) (hr.belowB bl3 hp) hp o3
      (by simp [five_len]; split <;> simp <;> omega) (by have := bl3.size; omega) hf3
    refine ⟨s4, w4, ?_, ?_, bl3.trans bl4⟩
    · show escrow_Words_l0_b K (escrow_Words_l0 K n) b s (i : Int) w = _
      unfold escrow_Words_l0_b
      have k1 : decide (((i + 1 : Nat) : Int) < ((bs.length : Nat) : Int)) = true := by simp; omega
      have k2 : (0 : Int) ≤ (i : Int) ∧ (i : Int) < ((bs.length : Nat) : Int) := by omega
      have k3 : (0 : Int) ≤ ((i + 1 : Nat) : Int) ∧ ((i + 1 : Nat) : Int) < ((bs.length : Nat) : Int) := by omega
      have h2' : bldS prog 25 5 #[(0, (.int .u8 (letC (v / 2 ^ 12)))), (1, (.int .u8 (letV (v / 2 ^ 10 % 4)))), (2, (.int .u8 (letC (v / 2 ^ 6 % 16)))), (3, (.int .u8 (letV (v / 2 ^ 4 % 4)))), (4, (.int .u8 (letC (v % 16))))] w1.drew.drew = _ := h2
      have h3' : apd prog 25 25 (.slice s1.a s1.len s1.cap) (.slice (some ⟨w1.drew.drew.heap.size, 0, none⟩) 5 5) w2 = _ := h3
      rw [hw1, hr.len, hlen, k1, if_pos rfl, h1, bnd_ok, hpa hne, Option.bind_some, if_pos k2, Option.bind_some, if_pos k3]
      simp only [Int.toNat_natCast, Nat.mul_one, l1, l2, Option.bind_some, word_v hA hC, hvv, fdiv_pow]
      rw [and3_i64 (by omega), and15_i64 (by omega), and3_i64 (by omega), and15_i64 (by omega)]
      simp only [Int.toNat_natCast, e1, e2, e3, e4, e5, Option.bind_some, d1, d2, d3, d4, d5, Int.natCast_nonneg, if_true]
      rw [h2', bnd_ok]
      show bnd (apd prog 25 25 (.slice s1.a s1.len s1.cap) (.slice (some ⟨w1.drew.drew.heap.size, 0, none⟩) 5 5) w2) _ = _
      rw [h3', bnd_ok, hw2, h4]
    · rw [wordsL, if_pos hc, hv]; exact o4
  · refine ⟨s, w, ?_, ?_, Below.refl B w⟩
    · show escrow_Words_l0_b K (escrow_Words_l0 K n) b s (i : Int) w = _
      unfold escrow_Words_l0_b
      rw [hw1, hr.len, hlen, if_neg (by simp; omega)]
    · simp only [wordsL, hc, if_false]; exact ho

theorem ref_space (K : Nat) {acc : List Int} {w : World} (i : Nat) (ha : acc.length ≤ 4398046511104) :
    ref11_Words_s1 K (bytesOf acc) (decide ((i : Int) > 0)) w = some ((bytesOf (acc ++ if 0 < i then [32] else []), ()), w) := by
  by_cases hi : 0 < i
  · have hd : decide ((i : Int) > 0) = true := by simp; omega
    have h3 : str3 = bytesOf [32] := rfl
    unfold ref11_Words_s1
    rw [hd, if_pos rfl, h3, if_pos (by rw [bytesOf_size, bytesOf_size]; simp; omega), ← bytesOf_append]
    simp [hi]
  · have hd : decide ((i : Int) > 0) = false := by simp; omega
    unfold ref11_Words_s1
    rw [hd, if_neg (by decide)]
    simp [hi]

theorem ref_loop (K : Nat) {b : Sl} {bs : List Nat} (hb : ∀ x ∈ bs, x < 256) (hs : bs.length ≤ 1099511627776) :
    ∀ (d i n : Nat) (w : World) (acc : List Int), bs.length ≤ i + d → i ≤ bs.length + 1 → d + 1 < n → RdS .u8 w b (bs.map Int.ofNat) → acc.length ≤ 3 * i →
      ∃ w', ref11_Words_l0 K n b (bytesOf acc) (i : Int) w = some ((bytesOf (wordsL bs (d + 1) i acc), ()), w') ∧ Upd none_ w w' := by
  intro d
  induction d using Nat.strongRecOn with
  | _ d ih =>
  intro i n w acc hd hib hn hr ha
  obtain ⟨n, rfl⟩ : ∃ m, n = m + 1 := ⟨n - 1, by omega⟩
  have hlen : (bs.map Int.ofNat).length = bs.length := List.length_map ..
  have hw1 : IntKind.i64.wrap ((i : Int) + 1) = ((i + 1 : Nat) : Int) := by rw [w64 (by omega) (by omega)]; rfl
  have hw2 : IntKind.i64.wrap ((i : Int) + 2) = ((i + 2 : Nat) : Int) := by rw [w64 (by omega) (by omega)]; rfl
  by_cases hc : i + 1 < bs.length
  · have i1 : i < bs.length := by omega
    have hr1 := hr.drew
    obtain ⟨p, hpa, hpl⟩ := hr1.ld
    have hne : bs.map Int.ofNat ≠ [] := by intro e; have := congrArg List.length e; simp at this; subst this; simp at i1
    have hA : bs[i] < 256 := hb _ (List.getElem_mem i1)
    have hC : bs[i + 1] < 256 := hb _ (List.getElem_mem hc)
    have l1 : ldI .u8 (p.add i) w.drew = some ((bs[i] : Nat) : Int) := by have := hpl i (by omega); simpa using this
    have l2 : ldI .u8 (p.add (i + 1)) w.drew = some ((bs[i + 1] : Nat) : Int) := by have := hpl (i + 1) (by omega); simpa using this
    have hv : bs.getD i 0 * 256 + bs.getD (i + 1) 0 = bs[i] * 256 + bs[i + 1] := by
      rw [List.getD_eq_getElem?_getD, List.getD_eq_getElem?_getD, List.getElem?_eq_getElem i1, List.getElem?_eq_getElem hc]; rfl
    obtain ⟨v, hvv⟩ : ∃ v, bs[i] * 256 + bs[i + 1] = v := ⟨_, rfl⟩
    rw [hvv] at hv
    have hv16 : v < 65536 := by omega
    obtain ⟨c1, e1, d1⟩ := letC_at (k := v / 4096) (by omega)
    obtain ⟨c2, e2, d2⟩ := letV_at (k := v / 1024 % 4) (by omega)
    obtain ⟨c3, e3, d3⟩ := letC_at (k := v / 64 % 16) (by omega)
    obtain ⟨c4, e4, d4⟩ := letV_at (k := v / 16 % 4) (by omega)
    obtain ⟨c5, e5, d5⟩ := letC_at (k := v % 16) (by omega)
    obtain ⟨w2, h2, o2, u2, z2⟩ := bldS_ok sliceB (ints .u8 (five v)) (by simp [ints, five, Value.cells]) (by simp [five]) (by simp [five]) w.drew.drew
    have hal : (acc ++ if 0 < i then [32] else [] : List Int).length ≤ acc.length + 1 := by split <;> simp
    obtain ⟨d', rfl⟩ : ∃ m, d = m + 1 := ⟨d - 1, by omega⟩
    obtain ⟨w4, h4, u4⟩ := ih d' (by omega) (i + 2) n w2 (acc ++ (if 0 < i then [32] else []) ++ five v) (by omega) (by omega) (by omega) (hr.drew.drew.upd0 u2)
      (by simp [five_len]; split <;> simp <;> omega)
    refine ⟨w4, ?_, u2.predrew.predrew.and0 u4⟩
    · show ref11_Words_l0_b K (ref11_Words_l0 K n) b (bytesOf acc) (i : Int) w = _
      unfold ref11_Words_l0_b
      have k1 : decide (((i + 1 : Nat) : Int) < ((bs.length : Nat) : Int)) = true := by simp; omega
      have k2 : (0 : Int) ≤ (i : Int) ∧ (i : Int) < ((bs.length : Nat) : Int) := by omega
      have k3 : (0 : Int) ≤ ((i + 1 : Nat) : Int) ∧ ((i + 1 : Nat) : Int) < ((bs.length : Nat) : Int) := by omega
      have h2' : bldS prog 25 5 #[(0, (.int .u8 (letC (v / 4096)))), (1, (.int .u8 (letV (v / 1024 % 4)))), (2, (.int .u8 (letC (v / 64 % 16)))), (3, (.int .u8 (letV (v / 16 % 4)))), (4, (.int .u8 (letC (v % 16))))] w.drew.drew = _ := h2
      have t1 : Int.tdiv (v : Int) 4096 = ((v / 4096 : Nat) : Int) := tdiv_nat v 4096
      have t2 : Int.tdiv (v : Int) 1024 = ((v / 1024 : Nat) : Int) := tdiv_nat v 1024
      have t3 : Int.tdiv (v : Int) 64 = ((v / 64 : Nat) : Int) := tdiv_nat v 64
      have t4 : Int.tdiv (v : Int) 16 = ((v / 16 : Nat) : Int) := tdiv_nat v 16
      have m2 : Int.tmod ((v / 1024 : Nat) : Int) 4 = ((v / 1024 % 4 : Nat) : Int) := tmod_nat (v / 1024) 4
      have m3 : Int.tmod ((v / 64 : Nat) : Int) 16 = ((v / 64 % 16 : Nat) : Int) := tmod_nat (v / 64) 16
      have m4 : Int.tmod ((v / 16 : Nat) : Int) 4 = ((v / 16 % 4 : Nat) : Int) := tmod_nat (v / 16) 4
      have m5 : Int.tmod (v : Int) 16 = ((v % 16 : Nat) : Int) := tmod_nat v 16
      have n1 : IntKind.i64.wrap ((v / 4096 : Nat) : Int) = ((v / 4096 : Nat) : Int) := wn64 (by omega)
      have n2 : IntKind.i64.wrap ((v / 1024 : Nat) : Int) = ((v / 1024 : Nat) : Int) := wn64 (by omega)
      have n3 : IntKind.i64.wrap ((v / 64 : Nat) : Int) = ((v / 64 : Nat) : Int) := wn64 (by omega)
      have n4 : IntKind.i64.wrap ((v / 16 : Nat) : Int) = ((v / 16 : Nat) : Int) := wn64 (by omega)
      rw [hw1, hr.len, hlen, k1, if_pos rfl, hpa hne, Option.bind_some, if_pos k2, Option.bind_some, if_pos k3]
      simp only [Int.toNat_natCast, Nat.mul_one, l1, l2, Option.bind_some, word_w hA hC, hvv]
      simp only [t1, t2, t3, t4, n1, n2, n3, n4, m2, m3, m4, m5, Int.toNat_natCast, e1, e2, e3, e4, e5, Option.bind_some, d1, d2, d3, d4, d5, Int.natCast_nonneg, if_true]
      rw [h2', bnd_ok, ref_space K i (by omega), bnd_ok]
      dsimp only
      have hb5 := b2sQ_of o2.rd
      dsimp only at hb5
      rw [hb5, Option.bind_some, if_pos (by rw [bytesOf_size, bytesOf_size, five_len]; omega)]
      have hW : wordsL bs (d' + 1 + 1) i acc = wordsL bs (d' + 1) (i + 2) (acc ++ (if 0 < i then [32] else []) ++ five v) := by rw [wordsL, if_pos hc, hv]
      rw [← bytesOf_append, hw2, h4, hW]
  · refine ⟨w, ?_, Upd.refl _ w⟩
    show ref11_Words_l0_b K (ref11_Words_l0 K n) b (bytesOf acc) (i : Int) w = _
    unfold ref11_Words_l0_b
    rw [hw1, hr.len, hlen, if_neg (by simp; omega)]
    simp only [wordsL, hc, if_false]


/-- the words of bytes -/
def textOf (l : List F) : ByteArray := bytesOf (wordsL (l.map F.n) (l.length + 1) 0 [])

theorem map_bF_nat (l : List F) : l.map bF = (l.map F.n).map Int.ofNat := by rw [List.map_map]; rfl

theorem Words_ok {K : Nat} (hK : 18446744073709551616 ≤ K) {w : World} {b : Sl} {l : List F} (hs : BSrc w b l) (hl : l.length ≤ 1099511627776) (hlt : ∀ q, b.a = some q → q.block < w.heap.size) :
    ∃ w', escrow_Words K b w = some ((textOf l, ()), w') ∧ Upd none_ w w' := by
  have hr : RdS .u8 w b ((l.map F.n).map Int.ofNat) := by rw [← map_bF_nat]; exact hs.rds
  obtain ⟨s2, w2, h2, o2, bl2⟩ := Words_loop K w.heap.size (bs := l.map F.n) (fun x hx => by obtain ⟨a, _, rfl⟩ := List.mem_map.1 hx; exact a.lt) (by rw [List.length_map]; exact hl) l.length 0 K w ⟨none, 0, 0⟩ [] (by rw [List.length_map]; omega) (by omega) (by omega) hr hlt (OwnS.nil _ _) (by simp) (Nat.le_refl _) (fun k hk => by cases hk)
  have h2 : escrow_Words_l0 K K b ⟨none, 0, 0⟩ 0 w = some ((s2, ()), w2) := h2
  refine ⟨w2, ?_, Upd.of_below bl2⟩
  unfold escrow_Words
  rw [h2, bnd_ok]
  dsimp only
  rw [b2sQ_of o2.rd, Option.bind_some]
  rfl

theorem rWords_ok {K : Nat} (hK : 18446744073709551616 ≤ K) {w : World} {b : Sl} {l : List F} (hs : BSrc w b l) (hl : l.length ≤ 1099511627776) :
    ∃ w', ref11_Words K b w = some ((textOf l, ()), w') ∧ Upd none_ w w' := by
  have hr : RdS .u8 w b ((l.map F.n).map Int.ofNat) := by rw [← map_bF_nat]; exact hs.rds
  obtain ⟨w2, h2, u2⟩ := ref_loop K (bs := l.map F.n) (fun x hx => by obtain ⟨a, _, rfl⟩ := List.mem_map.1 hx; exact a.lt) (by rw [List.length_map]; exact hl) l.length 0 K w [] (by rw [List.length_map]; omega) (by omega) (by omega) hr (by simp)
  have h2 : ref11_Words_l0 K K b str0 0 w = some ((textOf l, ()), w2) := h2
  refine ⟨w2, ?_, u2⟩
  unfold ref11_Words
  rw [h2, bnd_ok]

end Go.Sh

/- Letters: what a word is worth. -/
set_option linter.unusedVariables false
set_option maxRecDepth 100000
namespace Go.Sh
open Go.Fw Go.Gf Go.RowKit Go.Proofs.Try

def setC : List Nat := [98, 100, 102, 103, 104, 106, 107, 108, 109, 110, 112, 114, 115, 116, 118, 122]
def setV : List Nat := [97, 105, 111, 117]

/-- the letters of a text -/
def IsText (t : ByteArray) (T : List Nat) : Prop := t.size = T.length ∧ ∀ k, k < T.length → ∃ b : UInt8, t[k]? = some b ∧ b.toNat = T.getD k 0
theorem text_of (t : ByteArray) : IsText t (t.data.toList.map UInt8.toNat) := by
  have hs : t.size = (t.data.toList.map UInt8.toNat).length := by
    rw [List.length_map, Array.length_toList]; rfl
  refine ⟨hs, fun k hk => ?_⟩
  have hk' : k < t.size := by omega
  refine ⟨t[k], getElem?_pos t k hk', ?_⟩
  rw [List.getD_eq_getElem?_getD, List.getElem?_eq_getElem hk]
  simp [ByteArray.getElem_eq_getElem_data]
theorem isC : IsText str1 setC := ⟨rfl, fun k hk => by
  have key : ∀ k, k < 16 → (str1[k]?).map UInt8.toNat = some (setC.getD k 0) := by decide +kernel
  obtain ⟨b, h1, h2⟩ := Option.map_eq_some_iff.1 (key k hk)
  exact ⟨b, h1, h2⟩⟩
theorem isV : IsText str2 setV := ⟨rfl, fun k hk => by
  have key : ∀ k, k < 4 → (str2[k]?).map UInt8.toNat = some (setV.getD k 0) := by decide +kernel
  obtain ⟨b, h1, h2⟩ := Option.map_eq_some_iff.1 (key k hk)
  exact ⟨b, h1, h2⟩⟩

/-- the place of a letter -/
def plG : List Nat → Nat → Nat → Option Nat
  | [], _, _ => none
  | x :: xs, c, k => if x = c then some k else plG xs c (k + 1)
theorem plG_lt : ∀ (S : List Nat) (c k j : Nat), plG S c k = some j → j < k + S.length
  | [], _, _, _, h => by cases h
  | x :: xs, c, k, j, h => by
    unfold plG at h
    split at h
    · obtain rfl := Option.some.inj h; simp
    · have := plG_lt xs c (k + 1) j h
      simp; omega

def setOf (i : Nat) : List Nat := if i % 2 = 1 then setV else setC
def mulOf (i : Nat) : Nat := if i % 2 = 1 then 4 else 16
def wvG : List Nat → Nat → Nat → Option Nat
  | [], _, v => some v
  | c :: cs, i, v => (plG (setOf i) c 0).bind fun k => wvG cs (i + 1) (v * mulOf i + k)
def worthN (wd : List Nat) : Nat := (wvG wd 0 0).getD 0
def bdW : Nat → Nat
  | 0 => 1
  | 1 => 16
  | 2 => 64
  | 3 => 1024
  | 4 => 4096
  | _ => 65536
theorem bd_step {i v k : Nat} (hi : i < 5) (hv : v < bdW i) (hk : k < mulOf i) : v * mulOf i + k < bdW (i + 1) := by
  match i, hi with
  | 0, _ => simp only [bdW, mulOf] at *; simp at *; omega
  | 1, _ => simp only [bdW, mulOf] at *; simp at *; omega
  | 2, _ => simp only [bdW, mulOf] at *; simp at *; omega
  | 3, _ => simp only [bdW, mulOf] at *; simp at *; omega
  | 4, _ => simp only [bdW, mulOf] at *; simp at *; omega
theorem bd_le (i : Nat) : bdW i ≤ 65536 := by
  unfold bdW
  split <;> omega
theorem set_mul (i : Nat) : (setOf i).length = mulOf i := by unfold setOf mulOf; split <;> rfl
theorem pl_mul {i c k : Nat} (h : plG (setOf i) c 0 = some k) : k < mulOf i := by
  have := plG_lt _ _ _ _ h
  rw [set_mul] at this; omega

theorem worth_l2 {K : Nat} {v c bits : Nat} {a9 : Sl} {a10 a11 : Int} {str : ByteArray} {S : List Nat} (hS : IsText str S) (hb : bits ≤ 10) (hSl : S.length ≤ 2 ^ bits) (hv : v < 65536) (hSn : S.length ≤ 256) :
    ∀ (d k f : Nat) (w : World), k + d = S.length → d < f →
      escrow_worth_l2 K f (v : Int) (c : Int) str (bits : Int) a9 a10 a11 ((str.size : Nat) : Int) (k : Int) w = some (match plG (S.drop k) c k with | some j => (.ret (((v * 2 ^ bits + j : Nat) : Int), ()), w) | none => (.norm (), w)) := by
  intro d
  have hsz := hS.1
  induction d with
  | zero =>
    intro k f w hk hf
    obtain ⟨f, rfl⟩ : ∃ q, f = q + 1 := ⟨f - 1, by omega⟩
    show escrow_worth_l2_b K (escrow_worth_l2 K f) (v : Int) (c : Int) str (bits : Int) a9 a10 a11 ((str.size : Nat) : Int) (k : Int) w = _
    unfold escrow_worth_l2_b
    rw [if_neg (by simp only [decide_eq_true_eq]; omega), List.drop_eq_nil_of_le (by omega)]
    rfl
  | succ d ih =>
    intro k f w hk hf
    obtain ⟨f, rfl⟩ : ∃ q, f = q + 1 := ⟨f - 1, by omega⟩
    have hkS : k < S.length := by omega
    obtain ⟨b, b1, b2⟩ := hS.2 k hkS
    have e3 : IntKind.i64.wrap ((k : Int) + 1) = ((k + 1 : Nat) : Int) := by rw [w64 (by omega) (by omega)]; rfl
    have hg : S.getD k 0 = S[k] := by rw [List.getD_eq_getElem?_getD, List.getElem?_eq_getElem hkS]; rfl
    rw [hg] at b2
    show escrow_worth_l2_b K (escrow_worth_l2 K f) (v : Int) (c : Int) str (bits : Int) a9 a10 a11 ((str.size : Nat) : Int) (k : Int) w = _
    unfold escrow_worth_l2_b
    rw [if_pos (decide_eq_true (show (k : Int) < ((str.size : Nat) : Int) by omega)), if_pos (Int.natCast_nonneg _), Int.toNat_natCast, b1, Option.bind_some, List.drop_eq_getElem_cons hkS]
    by_cases hc : S[k] = c
    · have hq : (((b.toNat : Nat) : Int) == (c : Int)) = true := by rw [b2, hc]; simp
      have hm : min (Int.toNat (bits : Int)) IntKind.i64.bits = bits := by rw [Int.toNat_natCast]; show min bits 64 = bits; omega
      have hp : 2 ^ bits ≤ 2 ^ 10 := Nat.pow_le_pow_right (by decide) hb
      have hvp : v * 2 ^ bits ≤ 65536 * 2 ^ 10 := Nat.mul_le_mul (by omega) hp
      have e5 : ((v : Nat) : Int) * 2 ^ bits = ((v * 2 ^ bits : Nat) : Int) := by simp
      have e6 : IntKind.i64.wrap ((v : Int) * 2 ^ bits) = ((v * 2 ^ bits : Nat) : Int) := by rw [e5, w64 (by omega) (by omega)]
      rw [if_pos hq, if_pos (Int.natCast_nonneg _), hm, e6, or_i64 (by omega) bits hb (by omega)]
      unfold plG
      rw [if_pos hc]
    · have hq : ¬ (((b.toNat : Nat) : Int) == (c : Int)) = true := by rw [b2, beq_iff_eq]; omega
      rw [if_neg hq, e3, ih (k + 1) f w (by omega) (by omega)]
      unfold plG
      rw [if_neg hc]
      cases S.drop (k + 1) <;> rfl

theorem worth_l0 {K : Nat} (hK : 18446744073709551616 ≤ K) {a9 : Sl} {wd : List Nat} (hw5 : wd.length = 5) (hwb : ∀ c ∈ wd, c < 256) :
    ∀ (d i f v : Nat) (w : World), i + d = 5 → d < f → v < bdW i → RdS .u8 w a9 (wd.map Int.ofNat) →
      escrow_worth_l0 K f (v : Int) a9 ((wd.length : Nat) : Int) (i : Int) w = some (match wvG (wd.drop i) i v with | some j => (.norm (((j : Nat) : Int), ()), w) | none => (.ret (0, ()), w)) := by
  intro d
  induction d with
  | zero =>
    intro i f v w hi hf hv hr
    obtain ⟨f, rfl⟩ : ∃ q, f = q + 1 := ⟨f - 1, by omega⟩
    show escrow_worth_l0_b K (escrow_worth_l0 K f) (v : Int) a9 ((wd.length : Nat) : Int) (i : Int) w = _
    unfold escrow_worth_l0_b
    rw [if_neg (by simp only [decide_eq_true_eq]; omega), List.drop_eq_nil_of_le (by omega)]
    rfl
  | succ d ih =>
    intro i f v w hi hf hv hr
    obtain ⟨f, rfl⟩ : ∃ q, f = q + 1 := ⟨f - 1, by omega⟩
    have hiw : i < wd.length := by omega
    have hlen : a9.len = wd.length := by rw [hr.len, List.length_map]
    have e3 : IntKind.i64.wrap ((i : Int) + 1) = ((i + 1 : Nat) : Int) := by rw [w64 (by omega) (by omega)]; rfl
    obtain ⟨p, p1, p2⟩ := hr.ld
    have hne : wd.map Int.ofNat ≠ [] := fun e => by have := congrArg List.length e; simp at this; rw [this] at hiw; simp at hiw
    have p1 := p1 hne
    have l1 := p2 i (by rw [List.length_map]; exact hiw)
    have hge : (wd.map Int.ofNat)[i]'(by rw [List.length_map]; exact hiw) = ((wd[i] : Nat) : Int) := by simp
    rw [hge] at l1
    have c1 : (0 : Int) ≤ (i : Int) ∧ (i : Int) < ((a9.len : Nat) : Int) := by omega
    have hvb := bd_le i
    have hl2 := fun {str S bits} (hS : IsText str S) (hb : bits ≤ 10) (hSl : S.length ≤ 2 ^ bits) (hSn : S.length ≤ 256) => worth_l2 (K := K) (v := v) (c := wd[i]) (a9 := a9) (a10 := ((wd.length : Nat) : Int)) (a11 := (i : Int)) hS hb hSl (by omega) hSn S.length 0 K w (by omega) (by omega)
    have hwv : wvG (wd.drop i) i v = (plG (setOf i) wd[i] 0).bind fun k => wvG (wd.drop (i + 1)) (i + 1) (v * mulOf i + k) := by
      rw [List.drop_eq_getElem_cons hiw]; rfl
    have hs1 : ∃ (str : ByteArray) (bits : Nat), escrow_worth_s1 K str1 4 ((Int.tmod (i : Int) 2) == 1) w = some ((str, (bits : Int), ()), w) ∧ IsText str (setOf i) ∧ mulOf i = 2 ^ bits ∧ bits ≤ 10 := by
      have hm : Int.tmod (i : Int) 2 = ((i % 2 : Nat) : Int) := rfl
      unfold escrow_worth_s1 setOf mulOf
      rw [hm]
      by_cases h1 : i % 2 = 1
      · exact ⟨str2, 2, by rw [if_pos (by rw [h1]; rfl)]; rfl, by rw [if_pos h1]; exact isV, by rw [if_pos h1], by omega⟩
      · exact ⟨str1, 4, by rw [if_neg (by rw [beq_iff_eq]; omega)]; rfl, by rw [if_neg h1]; exact isC, by rw [if_neg h1], by omega⟩
    obtain ⟨str, bits, s1, s2, s3, s4⟩ := hs1
    have hsl := set_mul i
    have hmn : mulOf i ≤ 16 := by unfold mulOf; split <;> omega
    have h2 := hl2 s2 s4 (by rw [hsl, s3]; exact Nat.le_refl _) (by omega)
    have h2 : escrow_worth_l2 K K (v : Int) ((wd[i] : Nat) : Int) str (bits : Int) a9 ((wd.length : Nat) : Int) (i : Int) ((str.size : Nat) : Int) 0 w = _ := h2
    show escrow_worth_l0_b K (escrow_worth_l0 K f) (v : Int) a9 ((wd.length : Nat) : Int) (i : Int) w = _
    unfold escrow_worth_l0_b
    rw [if_pos (decide_eq_true (show (i : Int) < ((wd.length : Nat) : Int) by omega)), p1, Option.bind_some, if_pos c1, Int.toNat_natCast, Nat.mul_one, l1, Option.bind_some, s1, bnd_ok]
    dsimp only
    rw [h2, List.drop_zero, hwv]
    cases hp : plG (setOf i) wd[i] 0 with
    | none => rw [bnd_ok]; rfl
    | some k =>
      rw [bnd_ok, Option.bind_some]
      dsimp only
      rw [← s3, e3]
      exact ih (i + 1) f _ w (by omega) (by omega) (bd_step (by omega) hv (pl_mul hp)) hr

theorem worth_lt : ∀ (wd : List Nat) (i v j : Nat), i + wd.length ≤ 5 → v < bdW i → wvG wd i v = some j → j < bdW (i + wd.length)
  | [], i, v, j, _, hv, h => by obtain rfl := Option.some.inj h; simpa using hv
  | c :: cs, i, v, j, hi, hv, h => by
    simp only [List.length_cons] at hi
    have h : ((plG (setOf i) c 0).bind fun k => wvG cs (i + 1) (v * mulOf i + k)) = some j := h
    cases hp : plG (setOf i) c 0 with
    | none => rw [hp] at h; cases h
    | some k =>
      rw [hp, Option.bind_some] at h
      have := worth_lt cs (i + 1) _ j (by omega) (bd_step (by omega) hv (pl_mul hp)) h
      simpa [Nat.add_assoc, Nat.add_comm 1] using this
theorem worthN_lt {wd : List Nat} (h : wd.length = 5) : worthN wd < 65536 := by
  unfold worthN
  cases hw : wvG wd 0 0 with
  | none => decide
  | some j => have := worth_lt wd 0 0 j (by omega) (by decide) hw; rw [h] at this; exact this

theorem worth_ok {K : Nat} (hK : 18446744073709551616 ≤ K) {w : World} {a9 : Sl} {wd : List Nat} (hw5 : wd.length = 5) (hwb : ∀ c ∈ wd, c < 256) (hr : RdS .u8 w a9 (wd.map Int.ofNat)) :
    escrow_worth K a9 w = some ((((worthN wd : Nat) : Int), ()), w) := by
  have hlen : a9.len = wd.length := by rw [hr.len, List.length_map]
  have h0 := worth_l0 hK hw5 hwb 5 0 K 0 w (by omega) (by omega) (by decide) hr
  have h0 : escrow_worth_l0 K K 0 a9 ((wd.length : Nat) : Int) 0 w = _ := h0
  unfold escrow_worth worthN
  rw [hlen, h0, List.drop_zero]
  cases wvG wd 0 0 with
  | none => rw [bnd_ok]; rfl
  | some j => rw [bnd_ok]; rfl

/-- the two bytes of a word -/
def worthB (wd : List Nat) : List F := [⟨worthN wd / 256 % 256, Nat.mod_lt _ (by decide)⟩, ⟨worthN wd % 256, Nat.mod_lt _ (by decide)⟩]

/-! ### Letters of the document -/

theorem place_l0 {K : Nat} {c : Nat} {str : ByteArray} {S : List Nat} (hS : IsText str S) (hSn : S.length ≤ 256) :
    ∀ (d k f : Nat), k + d = S.length → d < f →
      ref11_place_l0 K f str (c : Int) (k : Int) = some (match plG (S.drop k) c k with | some j => .ret (((j : Nat) : Int), ()) | none => .norm ()) := by
  intro d
  have hsz := hS.1
  induction d with
  | zero =>
    intro k f hk hf
    obtain ⟨f, rfl⟩ : ∃ q, f = q + 1 := ⟨f - 1, by omega⟩
    show ref11_place_l0_b K (ref11_place_l0 K f) str (c : Int) (k : Int) = _
    unfold ref11_place_l0_b
    rw [if_neg (by simp only [decide_eq_true_eq]; omega), List.drop_eq_nil_of_le (by omega)]
    rfl
  | succ d ih =>
    intro k f hk hf
    obtain ⟨f, rfl⟩ : ∃ q, f = q + 1 := ⟨f - 1, by omega⟩
    have hkS : k < S.length := by omega
    obtain ⟨b, b1, b2⟩ := hS.2 k hkS
    have e3 : IntKind.i64.wrap ((k : Int) + 1) = ((k + 1 : Nat) : Int) := by rw [w64 (by omega) (by omega)]; rfl
    have hg : S.getD k 0 = S[k] := by rw [List.getD_eq_getElem?_getD, List.getElem?_eq_getElem hkS]; rfl
    rw [hg] at b2
    show ref11_place_l0_b K (ref11_place_l0 K f) str (c : Int) (k : Int) = _
    unfold ref11_place_l0_b
    rw [if_pos (decide_eq_true (show (k : Int) < ((str.size : Nat) : Int) by omega)), if_pos (Int.natCast_nonneg _), Int.toNat_natCast, b1, Option.bind_some, List.drop_eq_getElem_cons hkS]
    by_cases hc : S[k] = c
    · have hq : (((b.toNat : Nat) : Int) == (c : Int)) = true := by rw [b2, hc]; simp
      rw [if_pos hq]
      unfold plG
      rw [if_pos hc]
    · have hq : ¬ (((b.toNat : Nat) : Int) == (c : Int)) = true := by rw [b2, beq_iff_eq]; omega
      rw [if_neg hq, e3, ih (k + 1) f (by omega) (by omega)]
      unfold plG
      rw [if_neg hc]
      cases S.drop (k + 1) <;> rfl

theorem place_ok {K : Nat} (hK : 300 ≤ K) (c : Nat) {str : ByteArray} {S : List Nat} (hS : IsText str S) (hSn : S.length ≤ 256) : ref11_place K str (c : Int) = some (atI (plG S c 0), ()) := by
  have h := place_l0 (K := K) (c := c) hS hSn S.length 0 K (by omega) (by omega)
  have h : ref11_place_l0 K K str (c : Int) 0 = _ := h
  unfold ref11_place
  rw [h, List.drop_zero]
  cases plG S c 0 <;> rfl

end Go.Sh

/- A text read: the program. -/
set_option linter.unusedVariables false
set_option maxRecDepth 100000
namespace Go.Sh
open Go.Fw Go.Gf Go.RowKit Go.Proofs.Try

def gapB (c : Nat) : Bool := c == 32 || c == 9 || c == 10 || c == 13 || c == 45
def lowN (c : Nat) : Nat := if 65 ≤ c ∧ c ≤ 90 then c + 32 else c
def endW (wd : List Nat) (O : List F) : Option (List F) := if wd = [] then some O else if wd.length ≠ 5 then none else some (O ++ worthB wd)
/-- what is read of letters -/
def rdP : List Nat → List Nat → List F → Option (List F)
  | [], wd, O => endW wd O
  | c :: cs, wd, O => if gapB c = true then (endW wd O).bind fun O' => rdP cs [] O' else rdP cs (wd ++ [lowN c]) O

structure UW (w : World) (go gw gk B : Nat) (so sw : Sl) (O : List F) (wd : List Nat) : Prop where
  bo : Bk 25 w go [slF so]
  bw : Bk 25 w gw [slF sw]
  bk : Bk 4 w gk [.bool true]
  oo : OwnS 5 w so (fb O)
  ow : OwnS 5 w sw (ints .u8 (wd.map Int.ofNat))
  wb : ∀ c ∈ wd, c < 256
  sep : ∀ k, so.blk = some k → sw.blk ≠ some k
  d : go ≠ gw ∧ go ≠ gk ∧ gw ≠ gk
  so1 : ∀ k, so.blk = some k → B ≤ k ∧ k ≠ go ∧ k ≠ gw ∧ k ≠ gk
  sw1 : ∀ k, sw.blk = some k → B ≤ k ∧ k ≠ go ∧ k ≠ gw ∧ k ≠ gk
  low : B ≤ go ∧ B ≤ gw ∧ B ≤ gk
  lenO : O.length ≤ 1000000
  lenW : wd.length ≤ 1000000

theorem ldS_of {e : TypeId} {w : World} {g : Nat} {s : Sl} (b : Bk e w g [slF s]) : ldS ⟨g, 0, none⟩ w = some s := b.ldS rfl

/-- 'end' -/
theorem endW_ok {K : Nat} (hK : 18446744073709551616 ≤ K) {w : World} {go gw gk B : Nat} {so sw : Sl} {O : List F} {wd : List Nat} (U : UW w go gw gk B so sw O wd) (hO : O.length + 2 ≤ 1000000) :
    match endW wd O with
    | some O' => ∃ so' sw' w', escrow_unworded_1 K (some ⟨gw, 0, none⟩) (some ⟨gk, 0, none⟩) (some ⟨go, 0, none⟩) w = some ((), w') ∧ UW w' go gw gk B so' sw' O' [] ∧ Upd (fun k => B ≤ k) w w' ∧ O'.length ≤ O.length + 2
    | none => ∃ w', escrow_unworded_1 K (some ⟨gw, 0, none⟩) (some ⟨gk, 0, none⟩) (some ⟨go, 0, none⟩) w = some ((), w') ∧ Bk 4 w' gk [.bool false] ∧ Bk 25 w' go [slF so] ∧ Upd (fun k => B ≤ k) w w' := by
  have hl : sw.len = wd.length := by rw [U.ow.len, ints_length, List.length_map]
  obtain ⟨d1, d2, d3⟩ := U.d
  unfold endW escrow_unworded_1
  rw [Option.bind_some, ldS_of U.bw, Option.bind_some, hl]
  by_cases h0 : wd = []
  · rw [if_pos h0, if_pos (by rw [h0]; rfl)]
    subst h0
    exact ⟨so, sw, w, rfl, U, Upd.refl _ _, by omega⟩
  · have hpos : 0 < wd.length := List.length_pos_iff.2 h0
    rw [if_neg h0, if_neg (show ¬ (((wd.length : Nat) : Int) == 0) = true by rw [beq_iff_eq]; omega), Option.bind_some, ldS_of U.bw, Option.bind_some, hl]
    by_cases h5 : wd.length = 5
    · rw [if_neg (show ¬ wd.length ≠ 5 by omega), if_neg (show ¬ (((wd.length : Nat) : Int) != 5) = true by rw [h5]; decide), Option.bind_some, ldS_of U.bw, Option.bind_some, worth_ok hK h5 U.wb U.ow.rd, bnd_ok, Option.bind_some, ldS_of U.bo, Option.bind_some]
      have hv := worthN_lt h5
      obtain ⟨w1, a1, a2, a3, a4⟩ := bldS_ok sliceB (fb (worthB wd)) (fun v hv => by obtain ⟨x, _, rfl⟩ := List.mem_map.1 hv; rfl) (by rw [fb_length]; simp [worthB]) (by rw [fb_length]; simp [worthB]) w
      have e1 : IntKind.u8.wrap (Int.fdiv ((worthN wd : Nat) : Int) (2 ^ 8)) = (((worthN wd / 256 % 256 : Nat)) : Int) := by
        have : Int.fdiv ((worthN wd : Nat) : Int) (2 ^ 8) = ((worthN wd / 256 : Nat) : Int) := fdiv_pow _ 8
        rw [this, IntKind.wrap_u8]; rfl
      have e2 : IntKind.u8.wrap ((worthN wd : Nat) : Int) = ((worthN wd % 256 : Nat) : Int) := by rw [IntKind.wrap_u8]; rfl
      have a1 : bldS prog 25 2 #[(0, (.int .u8 ((worthN wd / 256 % 256 : Nat) : Int))), (1, (.int .u8 ((worthN wd % 256 : Nat) : Int)))] w = some (⟨some ⟨w.heap.size, 0, none⟩, 2, 2⟩, w1) := a1
      have a2 : OwnS 5 w1 ⟨some ⟨w.heap.size, 0, none⟩, 2, 2⟩ (fb (worthB wd)) := a2
      have hol := U.oo.len
      rw [fb_length] at hol
      obtain ⟨s2, w2, b1, b2, b3, b4, b5⟩ := apd_ok sliceB (U.oo.upd0 a3) (a2.src ints_one) (by show (so.len + 2) * 1 ≤ _; omega)
      rw [← fb_append] at b3
      have q1 := a3.size
      have q2 := b4.size
      have u2 : Upd (fun k => so.blk = some k) w w2 := (a3.mono (T := fun k => so.blk = some k) fun _ _ e => e.elim).trans' b4 fun _ _ e => e
      have hgo := U.bo.lt
      have hgw := U.bw.lt
      have hgk := U.bk.lt
      have hBw : B ≤ w.heap.size := by have := U.low.1; omega
      have hs2 : ∀ k, s2.blk = some k → (so.blk = some k ∨ w.heap.size ≤ k) ∧ k < w2.heap.size := fun k hk => by
        refine ⟨?_, b3.lt hk⟩
        rcases b5 with e | e
        · rw [e] at hk; exact .inl hk
        · rw [e] at hk; have e2 : w1.heap.size = k := Option.some.inj hk; exact .inr (by omega)
      have hs2' : ∀ k, s2.blk = some k → B ≤ k ∧ k ≠ go ∧ k ≠ gw ∧ k ≠ gk := fun k hk => by
        rcases (hs2 k hk).1 with e | e
        · exact U.so1 k e
        · omega
      have bo2 := U.bo.upd u2 fun e => (U.so1 _ e).2.1 rfl
      have bw2 := U.bw.upd u2 fun e => (U.so1 _ e).2.2.1 rfl
      have bk2 := U.bk.upd u2 fun e => (U.so1 _ e).2.2.2 rfl
      obtain ⟨w3, c1, c2, c3⟩ := bo2.stC (i := 0) (by simp) (slF s2)
      obtain ⟨w4, f1, f2, f3⟩ := (bw2.upd c3 (fun e => d1 e.symm)).stC (i := 0) (by simp) (slF nilF)
      have u4 : Upd (fun k => B ≤ k) w w4 := ((u2.mono (T := fun k => B ≤ k) fun k _ e => (U.so1 k e).1).trans' c3 fun k _ e => by rw [e]; exact U.low.1).trans' f3 fun k _ e => by rw [e]; exact U.low.2.1
      have own4 := (b3.upd c3 fun k hk e => (hs2' k hk).2.1 e).upd f3 fun k hk e => (hs2' k hk).2.2.1 e
      refine ⟨s2, nilF, w4, ?_, ⟨?_, ?_, ?_, own4, OwnS.nil _ _, fun c hc => (by simp at hc), fun k hk e => (by cases e), U.d, hs2', fun k hk => (by cases hk), U.low, by rw [List.length_append]; show O.length + 2 ≤ _; omega, by simp⟩, u4, by rw [List.length_append]; exact Nat.le_refl _⟩
      · dsimp only
        rw [e1, e2, a1, bnd_ok]
        dsimp only
        rw [b1, bnd_ok, Option.bind_some, c1, Option.bind_some, Option.bind_some]
        have f1 : stC ⟨gw, 0, none⟩ (.slice none 0 0) w3 = some w4 := f1
        rw [f1, Option.bind_some]
      · exact c2.upd f3 (fun e => d1 e)
      · exact f2
      · exact (bk2.upd c3 (fun e => d2 e.symm)).upd f3 (fun e => d3 e.symm)
    · rw [if_pos (show wd.length ≠ 5 from h5), if_pos (show (((wd.length : Nat) : Int) != 5) = true by rw [bne_iff_ne]; omega), Option.bind_some]
      obtain ⟨w1, a1, a2, a3⟩ := U.bk.stC (i := 0) (by simp) (.bool false)
      exact ⟨w1, by rw [a1, Option.bind_some], a2, U.bo.upd a3 (fun e => d2 e), a3.mono fun k _ e => by rw [e]; exact U.low.2.2⟩

/-- the closure -/
abbrev endV (go gw gk : Nat) : Value := .func (.func 38) #[] #[.pointer (some ⟨gw, 0, none⟩), .pointer (some ⟨gk, 0, none⟩), .pointer (some ⟨go, 0, none⟩)]
theorem dyn_end {β : Type} (K : Nat) (go gw gk : Nat) (w : World) (k : Value → World → Option β) :
    dyn (tab (escrow_unworded_E K)) (endV go gw gk) [] w k = bnd (escrow_unworded_1 K (some ⟨gw, 0, none⟩) (some ⟨gk, 0, none⟩) (some ⟨go, 0, none⟩) w) fun _ w' => k (.tuple #[]) w' := rfl

theorem gap_s2 (K : Nat) (c : Nat) (w : World) : escrow_unworded_s2 K (c : Int) ((c : Int) == 32) w = some ((gapB c, ()), w) := by
  have e32 : ((c : Int) == 32) = (c == 32) := by rw [Bool.eq_iff_iff, beq_iff_eq, beq_iff_eq]; omega
  have e9 : ((c : Int) == 9) = (c == 9) := by rw [Bool.eq_iff_iff, beq_iff_eq, beq_iff_eq]; omega
  have e10 : ((c : Int) == 10) = (c == 10) := by rw [Bool.eq_iff_iff, beq_iff_eq, beq_iff_eq]; omega
  have e13 : ((c : Int) == 13) = (c == 13) := by rw [Bool.eq_iff_iff, beq_iff_eq, beq_iff_eq]; omega
  have e45 : ((c : Int) == 45) = (c == 45) := by rw [Bool.eq_iff_iff, beq_iff_eq, beq_iff_eq]; omega
  unfold escrow_unworded_s2 gapB
  rw [e32, e9, e10, e13, e45]
  cases h1 : c == 32 <;> cases h2 : c == 9 <;> cases h3 : c == 10 <;> cases h4 : c == 13 <;> cases h5 : c == 45 <;> rfl

theorem low_s3 (K : Nat) (c : Nat) (w : World) : escrow_unworded_s3 K (c : Int) w = some ((decide (65 ≤ c ∧ c ≤ 90), ()), w) := by
  unfold escrow_unworded_s3
  by_cases h1 : 65 ≤ c
  · rw [if_pos (decide_eq_true (show (c : Int) ≥ 65 by omega))]
    have : decide ((c : Int) ≤ 90) = decide (65 ≤ c ∧ c ≤ 90) := by rw [decide_eq_decide]; omega
    rw [this]
  · rw [if_neg (by simp only [decide_eq_true_eq]; omega), decide_eq_false (show ¬ (65 ≤ c ∧ c ≤ 90) by omega)]

/-- a letter is pushed -/
theorem push_letter {w : World} {go gw gk B : Nat} {so sw : Sl} {O : List F} {wd : List Nat} (U : UW w go gw gk B so sw O wd) (hW : wd.length + 1 ≤ 1000000) {c : Nat} (hc : c < 256) :
    ∃ w1 s2 w2 w3, bldS prog 25 1 #[(0, (.int .u8 (c : Int)))] w = some (⟨some ⟨w.heap.size, 0, none⟩, 1, 1⟩, w1) ∧ apd prog 25 25 (.slice sw.a sw.len sw.cap) (.slice (some ⟨w.heap.size, 0, none⟩) 1 1) w1 = some (s2, w2) ∧ stC ⟨gw, 0, none⟩ (.slice s2.a s2.len s2.cap) w2 = some w3 ∧ UW w3 go gw gk B so s2 O (wd ++ [c]) ∧ Upd (fun k => B ≤ k) w w3 := by
  obtain ⟨d1, d2, d3⟩ := U.d
  obtain ⟨w1, a1, a2, a3, a4⟩ := bldS1_ok sliceB (.int .u8 (c : Int)) rfl w
  have a2 : OwnS 5 w1 ⟨some ⟨w.heap.size, 0, none⟩, 1, 1⟩ (ints .u8 [(c : Int)]) := a2
  have hwl := U.ow.len
  rw [ints_length, List.length_map] at hwl
  obtain ⟨s2, w2, b1, b2, b3, b4, b5⟩ := apd_ok sliceB (U.ow.upd0 a3) (a2.src ints_one) (by show (sw.len + 1) * 1 ≤ _; omega)
  rw [← ints_append] at b3
  have em : wd.map Int.ofNat ++ [(c : Int)] = (wd ++ [c]).map Int.ofNat := by rw [List.map_append]; rfl
  rw [em] at b3
  have q1 := a3.size
  have q2 := b4.size
  have u2 : Upd (fun k => sw.blk = some k) w w2 := (a3.mono (T := fun k => sw.blk = some k) fun _ _ e => e.elim).trans' b4 fun _ _ e => e
  have hgo := U.bo.lt
  have hgw := U.bw.lt
  have hgk := U.bk.lt
  have hs2 : ∀ k, s2.blk = some k → sw.blk = some k ∨ w.heap.size ≤ k := fun k hk => by
    rcases b5 with e | e
    · rw [e] at hk; exact .inl hk
    · rw [e] at hk; have e2 : w1.heap.size = k := Option.some.inj hk; exact .inr (by omega)
  have hBw : B ≤ w.heap.size := by have := U.low.1; omega
  have hs2' : ∀ k, s2.blk = some k → B ≤ k ∧ k ≠ go ∧ k ≠ gw ∧ k ≠ gk := fun k hk => by
    rcases hs2 k hk with e | e
    · exact U.sw1 k e
    · omega
  have bo2 := U.bo.upd u2 fun e => (U.sw1 _ e).2.1 rfl
  have bw2 := U.bw.upd u2 fun e => (U.sw1 _ e).2.2.1 rfl
  have bk2 := U.bk.upd u2 fun e => (U.sw1 _ e).2.2.2 rfl
  have oo2 := U.oo.upd u2 fun k hk e => U.sep k hk e
  obtain ⟨w3, c1, c2, c3⟩ := bw2.stC (i := 0) (by simp) (slF s2)
  refine ⟨w1, s2, w2, w3, a1, b1, c1, ⟨bo2.upd c3 (fun e => d1 e), c2, bk2.upd c3 (fun e => d3 e.symm), oo2.upd c3 fun k hk e => (U.so1 k hk).2.2.1 e, b3.upd c3 fun k hk e => (hs2' k hk).2.2.1 e, fun x hx => ?_, fun k hk e => ?_, U.d, U.so1, hs2', U.low, U.lenO, by rw [List.length_append]; exact hW⟩, (u2.mono (T := fun k => B ≤ k) fun k _ e => (U.sw1 k e).1).trans' c3 fun k _ e => by rw [e]; exact U.low.2.1⟩
  · rcases List.mem_append.1 hx with h | h
    · exact U.wb x h
    · simp only [List.mem_singleton] at h; omega
  · rcases hs2 k e with e2 | e2
    · exact U.sep k hk e2
    · have := U.oo.lt hk; omega

theorem low_lt {c : Nat} (h : c < 256) : lowN c < 256 := by unfold lowN; split <;> omega

theorem unworded_l0 {K : Nat} (hK : 18446744073709551616 ≤ K) {t : ByteArray} {T : List Nat} (hT : IsText t T) (hTb : ∀ c ∈ T, c < 256) (hTl : T.length ≤ 1024) {go gw gk B : Nat} :
    ∀ (d i f : Nat) (w : World) (so sw : Sl) (O : List F) (wd : List Nat), i + d = T.length → d < f → UW w go gw gk B so sw O wd → O.length ≤ 2 * i → wd.length ≤ i →
      (∃ w', escrow_unworded_l0 K f t ⟨go, 0, none⟩ ⟨gw, 0, none⟩ ⟨gk, 0, none⟩ (endV go gw gk) ((t.size : Nat) : Int) (i : Int) w = some (.ret (nilF, false, ()), w') ∧ Upd (fun k => B ≤ k) w w' ∧ rdP (T.drop i) wd O = none) ∨
      (∃ so' sw' O' wd' w', escrow_unworded_l0 K f t ⟨go, 0, none⟩ ⟨gw, 0, none⟩ ⟨gk, 0, none⟩ (endV go gw gk) ((t.size : Nat) : Int) (i : Int) w = some (.norm (), w') ∧ UW w' go gw gk B so' sw' O' wd' ∧ Upd (fun k => B ≤ k) w w' ∧ rdP (T.drop i) wd O = endW wd' O' ∧ O'.length ≤ 2 * T.length) := by
  have hsz := hT.1
  intro d
  induction d with
  | zero =>
    intro i f w so sw O wd hi hf U hO hW
    obtain ⟨f, rfl⟩ : ∃ q, f = q + 1 := ⟨f - 1, by omega⟩
    right
    refine ⟨so, sw, O, wd, w, ?_, U, Upd.refl _ _, by rw [List.drop_eq_nil_of_le (by omega)]; rfl, by omega⟩
    show escrow_unworded_l0_b K (escrow_unworded_l0 K f) t ⟨go, 0, none⟩ ⟨gw, 0, none⟩ ⟨gk, 0, none⟩ (endV go gw gk) ((t.size : Nat) : Int) (i : Int) w = _
    unfold escrow_unworded_l0_b
    rw [if_neg (by simp only [decide_eq_true_eq]; omega)]
  | succ d ih =>
    intro i f w so sw O wd hi hf U hO hW
    obtain ⟨f, rfl⟩ : ∃ q, f = q + 1 := ⟨f - 1, by omega⟩
    have hiT : i < T.length := by omega
    obtain ⟨b, b1, b2⟩ := hT.2 i hiT
    have hg : T.getD i 0 = T[i] := by rw [List.getD_eq_getElem?_getD, List.getElem?_eq_getElem hiT]; rfl
    rw [hg] at b2
    have hc256 := hTb _ (List.getElem_mem hiT)
    have e3 : IntKind.i64.wrap ((i : Int) + 1) = ((i + 1 : Nat) : Int) := by rw [w64 (by omega) (by omega)]; rfl
    have hun : escrow_unworded_l0 K (f + 1) t ⟨go, 0, none⟩ ⟨gw, 0, none⟩ ⟨gk, 0, none⟩ (endV go gw gk) ((t.size : Nat) : Int) (i : Int) w = escrow_unworded_l0_b K (escrow_unworded_l0 K f) t ⟨go, 0, none⟩ ⟨gw, 0, none⟩ ⟨gk, 0, none⟩ (endV go gw gk) ((t.size : Nat) : Int) (i : Int) w := rfl
    have hrd : rdP (T.drop i) wd O = if gapB T[i] = true then (endW wd O).bind fun O' => rdP (T.drop (i + 1)) [] O' else rdP (T.drop (i + 1)) (wd ++ [lowN T[i]]) O := by
      rw [List.drop_eq_getElem_cons hiT]; rfl
    rw [hun, hrd]
    unfold escrow_unworded_l0_b escrow_unworded_s1
    rw [if_pos (decide_eq_true (show (i : Int) < ((t.size : Nat) : Int) by omega)), if_pos (Int.natCast_nonneg _), Int.toNat_natCast, b1, Option.bind_some, b2, gap_s2, bnd_ok]
    dsimp only
    by_cases hgp : gapB T[i] = true
    · rw [if_pos hgp, if_pos hgp, dyn_end]
      have he := endW_ok hK U (by omega)
      cases hE : endW wd O with
      | none =>
        rw [hE] at he
        obtain ⟨w1, x1, x2, x3, x4⟩ := he
        left
        refine ⟨w1, ?_, x4, rfl⟩
        rw [x1, bnd_ok, bnd_ok, x2.ldB (i := 0) rfl, Option.bind_some, if_pos (by decide)]
      | some O' =>
        rw [hE] at he
        obtain ⟨so', sw', w1, x1, x2, x3, x4⟩ := he
        rw [x1, bnd_ok, bnd_ok, x2.bk.ldB (i := 0) rfl, Option.bind_some, if_neg (by decide), Option.bind_some, e3]
        rcases ih (i + 1) f w1 so' sw' O' [] (by omega) (by omega) x2 (by omega) (by simp) with ⟨w', y1, y2, y3⟩ | ⟨a, b', c, dd, w', y1, y2, y3, y4, y5⟩
        · exact .inl ⟨w', y1, x3.trans' y2 fun _ _ e => e, y3⟩
        · exact .inr ⟨a, b', c, dd, w', y1, y2, x3.trans' y3 fun _ _ e => e, y4, y5⟩
    · rw [if_neg hgp, if_neg hgp, low_s3, bnd_ok]
      dsimp only
      obtain ⟨w1, s2, w2, w3, p1, p2, p3, p4, p5⟩ := push_letter U (by omega) (low_lt hc256)
      have hld := ldS_of U.bw
      have run : (if decide (65 ≤ T[i] ∧ T[i] ≤ 90) = true then ((ldS ⟨gw, 0, none⟩ w).bind fun v_15 =>
          bnd (bldS prog 25 1 #[(0, (.int .u8 (IntKind.u8.wrap (((T[i] : Nat) : Int) + 32))))] w) fun s_16 w_17 =>
          bnd (apd prog 25 25 (.slice v_15.a v_15.len v_15.cap) (.slice s_16.a s_16.len s_16.cap) w_17) fun s_18 w_19 =>
          (stC ⟨gw, 0, none⟩ (.slice s_18.a s_18.len s_18.cap) w_19).bind fun w_20 =>
          some (((), w_20) : Unit × World)) else ((ldS ⟨gw, 0, none⟩ w).bind fun v_21 =>
          bnd (bldS prog 25 1 #[(0, (.int .u8 ((T[i] : Nat) : Int)))] w) fun s_22 w_23 =>
          bnd (apd prog 25 25 (.slice v_21.a v_21.len v_21.cap) (.slice s_22.a s_22.len s_22.cap) w_23) fun s_24 w_25 =>
          (stC ⟨gw, 0, none⟩ (.slice s_24.a s_24.len s_24.cap) w_25).bind fun w_26 =>
          some (((), w_26) : Unit × World))) = some ((), w3) := by
        unfold lowN at p1
        by_cases hu : 65 ≤ T[i] ∧ T[i] ≤ 90
        · rw [if_pos hu] at p1
          have e32 : IntKind.u8.wrap (((T[i] : Nat) : Int) + 32) = ((T[i] + 32 : Nat) : Int) := by rw [IntKind.wrap_u8]; omega
          rw [if_pos (decide_eq_true hu), hld, Option.bind_some, e32, p1, bnd_ok]
          dsimp only
          rw [p2, bnd_ok, p3, Option.bind_some]
        · rw [if_neg hu] at p1
          rw [if_neg (fun h => hu (of_decide_eq_true h)), hld, Option.bind_some, p1, bnd_ok]
          dsimp only
          rw [p2, bnd_ok, p3, Option.bind_some]
      rw [run, bnd_ok, p4.bk.ldB (i := 0) rfl, Option.bind_some, if_neg (by decide), e3]
      rcases ih (i + 1) f w3 so s2 O _ (by omega) (by omega) p4 (by omega) (by rw [List.length_append]; show wd.length + 1 ≤ _; omega) with ⟨w', y1, y2, y3⟩ | ⟨a, b', c, dd, w', y1, y2, y3, y4, y5⟩
      · exact .inl ⟨w', y1, p5.trans' y2 fun _ _ e => e, y3⟩
      · exact .inr ⟨a, b', c, dd, w', y1, y2, p5.trans' y3 fun _ _ e => e, y4, y5⟩

theorem zB_eq : z25 = #[.slice none 0 0] := rfl
theorem zbool_eq : z4 = #[.bool false] := rfl

theorem unworded_ok {K : Nat} (hK : 18446744073709551616 ≤ K) (w : World) {t : ByteArray} {T : List Nat} (hT : IsText t T) (hTb : ∀ c ∈ T, c < 256) (hTl : T.length ≤ 1024) :
    ∃ s v w', escrow_unworded K t w = some ((s, v, ()), w') ∧ Upd none_ w w' ∧ (match rdP T [] [] with | some l => v = true ∧ OwnS 5 w' s (fb l) ∧ Fresh w.heap.size s ∧ l.length ≤ 2 * T.length + 2 | none => v = false) := by
  obtain ⟨w1, a1, a2, a3, a4⟩ := newB_ok z25 25 w
  obtain ⟨w2, b1, b2, b3, b4⟩ := newB_ok z25 25 w1
  obtain ⟨w3, c1, c2, c3, c4⟩ := newB_ok z4 4 w2
  have a2 : Bk 25 w1 w.heap.size [slF nilF] := a2
  have b2 : Bk 25 w2 w1.heap.size [slF nilF] := b2
  have c2 : Bk 4 w3 w2.heap.size [.bool false] := c2
  obtain ⟨w4, d1, d2, d3⟩ := c2.stC (i := 0) (by simp) (.bool true)
  have d2 : Bk 4 w4 w2.heap.size [.bool true] := d2
  have u4 : Upd none_ w w4 := ((a3.and0 b3).and0 c3).trans' d3 fun k hk e => by omega
  have hgo := ((a2.upd0 b3).upd0 c3).upd d3 (by omega)
  have hgw := (b2.upd0 c3).upd d3 (by omega)
  have U : UW w4 w.heap.size w1.heap.size w2.heap.size w.heap.size nilF nilF [] [] := ⟨hgo, hgw, d2, OwnS.nil _ _, OwnS.nil _ _, fun c hc => (by simp at hc), fun k hk => (by cases hk), ⟨by omega, by omega, by omega⟩, fun k hk => (by cases hk), fun k hk => (by cases hk), ⟨Nat.le_refl _, by omega, by omega⟩, by simp, by simp⟩
  have hrun := unworded_l0 hK hT hTb hTl T.length 0 K w4 nilF nilF [] [] (by omega) (by omega) U (by simp) (by simp)
  rw [List.drop_zero] at hrun
  unfold escrow_unworded
  rw [a1, bnd_ok, b1, bnd_ok, c1, bnd_ok, d1, Option.bind_some]
  rcases hrun with ⟨w5, y1, y2, y3⟩ | ⟨so, sw, O, wd, w5, y1, y2, y3, y4, y5⟩
  · have y1 : escrow_unworded_l0 K K t ⟨w.heap.size, 0, none⟩ ⟨w1.heap.size, 0, none⟩ ⟨w2.heap.size, 0, none⟩ (.func (.func 38) #[] #[.pointer (some ⟨w1.heap.size, 0, none⟩), .pointer (some ⟨w2.heap.size, 0, none⟩), .pointer (some ⟨w.heap.size, 0, none⟩)]) ((t.size : Nat) : Int) 0 w4 = _ := y1
    rw [y1, bnd_ok, y3]
    exact ⟨nilF, false, w5, rfl, u4.trans' y2 fun k hk e => by omega, rfl⟩
  · have y1 : escrow_unworded_l0 K K t ⟨w.heap.size, 0, none⟩ ⟨w1.heap.size, 0, none⟩ ⟨w2.heap.size, 0, none⟩ (.func (.func 38) #[] #[.pointer (some ⟨w1.heap.size, 0, none⟩), .pointer (some ⟨w2.heap.size, 0, none⟩), .pointer (some ⟨w.heap.size, 0, none⟩)]) ((t.size : Nat) : Int) 0 w4 = _ := y1
    have u5 : Upd none_ w w5 := u4.trans' y3 fun k hk e => by omega
    have hd := dyn_end (β := (Sl × Bool × Unit) × World) K w.heap.size w1.heap.size w2.heap.size w5
    have he := endW_ok hK y2 (by omega)
    rw [y1, bnd_ok, y4]
    dsimp only
    rw [hd]
    cases hE : endW wd O with
    | none =>
      rw [hE] at he
      obtain ⟨w6, x1, x2, x3, x4⟩ := he
      rw [x1, bnd_ok]
      refine ⟨so, false, w6.drew, ?_, (u5.trans' x4 fun k hk e => by omega).drew, rfl⟩
      rw [ldS_of x3.drew, Option.bind_some, x2.drew.ldB (i := 0) rfl, Option.bind_some]
    | some O' =>
      rw [hE] at he
      obtain ⟨so', sw', w6, x1, x2, x3, x4⟩ := he
      rw [x1, bnd_ok]
      refine ⟨so', true, w6.drew, ?_, (u5.trans' x3 fun k hk e => by omega).drew, rfl, x2.oo.upd0 (Upd.refl none_ w6).drew, fun k hk => (x2.so1 k hk).1, by omega⟩
      rw [ldS_of x2.bo.drew, Option.bind_some, x2.bk.drew.ldB (i := 0) rfl, Option.bind_some]

end Go.Sh

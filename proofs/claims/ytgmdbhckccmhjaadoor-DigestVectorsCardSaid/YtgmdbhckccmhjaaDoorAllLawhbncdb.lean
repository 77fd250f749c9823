/- Texts of this claim, put together: Vectors -/
import Derived.Test.YtgmdbhckccmhjaaDoorAllLawlfeiba
import Derived.Test.YtgmdbhckccmhjaaDoorAllShmcaeef
/- 'cofferlaw01.DigestVectors' returns true. -/
set_option linter.unusedVariables false
namespace Go.Sh
open Go.Fw Go.Sha Go.RowKit Go.Proofs.Tryd

theorem vup {w w' : World} {p : Sl × List Int} (hp : PartOk w p) (u : Upd none_ w w') : PartOk w' p := ⟨hp.1.upd0 u, hp.2.1, hp.2.2.1, fun q hq => by have := hp.2.2.2 q hq; have := u.size; omega⟩
theorem vnilParts (w : World) (Q : Nat → Prop) : Parts w ⟨none, 0, 0⟩ [] Q := ⟨rfl, Nat.le_refl _, by simp, by simp, by simp, .inl rfl⟩
theorem under25b : prog.underlying 5 = some (.int .u8) := by kernel_rfl
/-- a constant text as bytes -/
theorem constB (xs : List Int) (hp : 0 < xs.length) (hs : xs.length ≤ 1024) (hin : ∀ x ∈ xs, InK .u8 x) (w : World) :
    ∃ w1 w2, bldS prog 25 xs.length ((ints .u8 xs).zipIdx.map fun p => (p.2, p.1)).toArray w = some (⟨some ⟨w.heap.size, 0, none⟩, xs.length, xs.length⟩, w1) ∧
      cnv prog 25 25 (.slice (some ⟨w.heap.size, 0, none⟩) xs.length xs.length) w1 = some (.slice (some ⟨w.heap.size, 0, none⟩) xs.length xs.length, w2) ∧
      PartOk w2 (⟨some ⟨w.heap.size, 0, none⟩, xs.length, xs.length⟩, xs) ∧ Upd none_ w w2 := by
  obtain ⟨w1, w2, h1, h2, h3, h4, h5⟩ := bytesC sliceB under25b xs hp (by omega) w
  exact ⟨w1, w2, h1, h2, ⟨h3, hin, by show xs.length ≤ _; omega, fun q hq => by obtain rfl := Option.some.inj hq; exact h5⟩, h4⟩

theorem hexed_ok {K : Nat} (hK : 18446744073709551616 ≤ K) {h : Int} (hk : known h = true) {C S : List Int} {w : World} (T : Tabs w C S) {s : Sl} {xss : List (List Int)} {Q : Nat → Prop} (hp : Parts w s xss Q) (hQ : ∀ k, Q k → k < w.heap.size) (hl : xss.flatten.length ≤ 1024) :
    ∃ w', law01_hexed K h s w = some ((bytesOf (hexOf (digestOf h C (firstH S h) xss.flatten)), ()), w') ∧ Upd none_ w w' := by
  obtain ⟨r, w1, h1, a1, u1⟩ := Sum_ok hK hk T hp hQ (by omega)
  have hlen := digestOf_len h C (firstH S h) xss.flatten
  obtain ⟨w2, h2, u2⟩ := Hex_ok hK a1.src (digestOf_in h C _ _) (by omega)
  refine ⟨w2, ?_, u1.and0 u2⟩
  unfold law01_hexed law01_num
  rw [h1, bnd_ok, Option.bind_some]
  dsimp only
  rw [if_neg (by decide), h2, bnd_ok]

/-- of one part -/
theorem hexed1 {K : Nat} (hK : 18446744073709551616 ≤ K) {h : Int} (hk : known h = true) {C S : List Int} {w : World} (T : Tabs w C S) {b : Sl} {xs : List Int} (hp : PartOk w (b, xs)) (hl : xs.length ≤ 1024) :
    ∃ s w1 w2, bldS prog 24 1 #[(0, (.slice b.a b.len b.cap))] w = some (s, w1) ∧ law01_hexed K h s w1 = some ((bytesOf (hexOf (digestOf h C (firstH S h) xs)), ()), w2) ∧ Upd none_ w w2 := by
  obtain ⟨w1, j1, P1, u1⟩ := one_part hp.1 hp.2.1 hp.2.2.1 hp.2.2.2
  have ef : ([xs] : List (List Int)).flatten = xs := by simp
  obtain ⟨w2, j2, u2⟩ := hexed_ok hK hk (T.upd0 u1) P1 (fun k hk => hk) (by rw [ef]; exact hl)
  rw [ef] at j2
  exact ⟨_, w1, w2, j1, j2, u1.and0 u2⟩

theorem vin (xs : List Int) (h : ∀ x ∈ xs, 0 ≤ x ∧ x < 256) : ∀ x ∈ xs, InK .u8 x := h
theorem known224v : known 224 = true := rfl
theorem known256v : known 256 = true := rfl
theorem known384v : known 384 = true := rfl
theorem known512v : known 512 = true := rfl
theorem asS_slice (a : Option Addr) (l c : Nat) : asS (.slice a l c) = some ⟨a, l, c⟩ := rfl

theorem vecs0 {K : Nat} (hK : 18446744073709551616 ≤ K) {w : World} (T : Tabs w cubesC squaresS) {a : Sl} (pa : PartOk w (a, vAbc)) : ∃ w', law01_DigestVectors_s0 K a w = some ((false, ()), w') ∧ Upd none_ w w' := by
  obtain ⟨s3, a3, w3, e1, e2, u3⟩ := hexed1 hK known224v T pa (by decide)
  obtain ⟨s4, a4, w4, f1, f2, u4⟩ := hexed1 hK known256v (T.upd0 u3) (vup pa u3) (by decide)
  refine ⟨w4, ?_, u3.and0 u4⟩
  unfold law01_DigestVectors_s0
  rw [e1, bnd_ok, e2, bnd_ok]
  dsimp only
  rw [show bytesOf (hexOf (digestOf 224 cubesC (firstH squaresS 224) vAbc)) = str5 from vec5, if_neg (by simp), f1, bnd_ok, f2, bnd_ok]
  dsimp only
  rw [show bytesOf (hexOf (digestOf 256 cubesC (firstH squaresS 256) vAbc)) = str6 from vec6, beq_self_eq_true]
  rfl
theorem vecs1 {K : Nat} (hK : 18446744073709551616 ≤ K) {w : World} (T : Tabs w cubesC squaresS) {a : Sl} (pa : PartOk w (a, vLong)) : ∃ w', law01_DigestVectors_s1 K a w = some ((false, ()), w') ∧ Upd none_ w w' := by
  obtain ⟨s3, a3, w3, e1, e2, u3⟩ := hexed1 hK known256v T pa (by decide)
  obtain ⟨w4, f2, u4⟩ := hexed_ok hK known256v (T.upd0 u3) (vnilParts w3 (fun _ => False)) (fun k hk => hk.elim) (by simp)
  refine ⟨w4, ?_, u3.and0 u4⟩
  unfold law01_DigestVectors_s1
  rw [e1, bnd_ok, e2, bnd_ok]
  dsimp only
  rw [show bytesOf (hexOf (digestOf 256 cubesC (firstH squaresS 256) vLong)) = str7 from vec7, if_neg (by simp), f2, bnd_ok]
  dsimp only
  rw [show bytesOf (hexOf (digestOf 256 cubesC (firstH squaresS 256) ([] : List (List Int)).flatten)) = str8 from vec8, beq_self_eq_true]
  rfl

theorem DigestVectors_ok {K : Nat} (hK : 18446744073709551616 ≤ K) {w : World} (T : Tabs w cubesC squaresS) : ∃ w', law01_DigestVectors K w = some ((true, ()), w') ∧ Upd none_ w w' := by
  obtain ⟨a1, w1, c1, c2, pa, u1⟩ := constB vAbc (by decide) (by decide) (vin _ (by decide)) w
  have c1 : bldS prog 25 3 #[(0, (.int .u8 97)), (1, (.int .u8 98)), (2, (.int .u8 99))] w = some (⟨some ⟨w.heap.size, 0, none⟩, 3, 3⟩, a1) := c1
  have c2 : cnv prog 25 25 (.slice (some ⟨w.heap.size, 0, none⟩) 3 3) a1 = some (.slice (some ⟨w.heap.size, 0, none⟩) 3 3, w1) := c2
  have pa : PartOk w1 (⟨some ⟨w.heap.size, 0, none⟩, 3, 3⟩, vAbc) := pa
  obtain ⟨a2, w2, d1, d2, pl, u2⟩ := constB vLong (by decide) (by decide) (vin _ (by decide)) w1
  have d1 : bldS prog 25 56 #[(0, (.int .u8 97)), (1, (.int .u8 98)), (2, (.int .u8 99)), (3, (.int .u8 100)), (4, (.int .u8 98)), (5, (.int .u8 99)), (6, (.int .u8 100)), (7, (.int .u8 101)), (8, (.int .u8 99)), (9, (.int .u8 100)), (10, (.int .u8 101)), (11, (.int .u8 102)), (12, (.int .u8 100)), (13, (.int .u8 101)), (14, (.int .u8 102)), (15, (.int .u8 103)), (16, (.int .u8 101)), (17, (.int .u8 102)), (18, (.int .u8 103)), (19, (.int .u8 104)), (20, (.int .u8 102)), (21, (.int .u8 103)), (22, (.int .u8 104)), (23, (.int .u8 105)), (24, (.int .u8 103)), (25, (.int .u8 104)), (26, (.int .u8 105)), (27, (.int .u8 106)), (28, (.int .u8 104)), (29, (.int .u8 105)), (30, (.int .u8 106)), (31, (.int .u8 107)), (32, (.int .u8 105)), (33, (.int .u8 106)), (34, (.int .u8 107)), (35, (.int .u8 108)), (36, (.int .u8 106)), (37, (.int .u8 107)), (38, (.int .u8 108)), (39, (.int .u8 109)), (40, (.int .u8 107)), (41, (.int .u8 108)), (42, (.int .u8 109)), (43, (.int .u8 110)), (44, (.int .u8 108)), (45, (.int .u8 109)), (46, (.int .u8 110)), (47, (.int .u8 111)), (48, (.int .u8 109)), (49, (.int .u8 110)), (50, (.int .u8 111)), (51, (.int .u8 112)), (52, (.int .u8 110)), (53, (.int .u8 111)), (54, (.int .u8 112)), (55, (.int .u8 113))] w1 = some (⟨some ⟨w1.heap.size, 0, none⟩, 56, 56⟩, a2) := d1
  have d2 : cnv prog 25 25 (.slice (some ⟨w1.heap.size, 0, none⟩) 56 56) a2 = some (.slice (some ⟨w1.heap.size, 0, none⟩) 56 56, w2) := d2
  have pl : PartOk w2 (⟨some ⟨w1.heap.size, 0, none⟩, 56, 56⟩, vLong) := pl
  have q2 := u1.and0 u2
  obtain ⟨w4, s0, u4⟩ := vecs0 hK (T.upd0 q2) (vup pa u2)
  have q4 := q2.and0 u4
  obtain ⟨w6, s1, u6⟩ := vecs1 hK (T.upd0 q4) (vup pl u4)
  have q6 := q4.and0 u6
  obtain ⟨t7, b7, w7, e1, e2, u7⟩ := hexed1 hK known384v (T.upd0 q6) (vup (vup (vup pa u2) u4) u6) (by decide)
  have q7 := q6.and0 u7
  obtain ⟨t8, b8, w8, f1, f2, u8⟩ := hexed1 hK known512v (T.upd0 q7) (vup (vup (vup (vup pa u2) u4) u6) u7) (by decide)
  have q8 := q7.and0 u8
  obtain ⟨a9, w9, g1, g2, pj, u9⟩ := constB vJefe (by decide) (by decide) (vin _ (by decide)) w8
  have g1 : bldS prog 25 4 #[(0, (.int .u8 74)), (1, (.int .u8 101)), (2, (.int .u8 102)), (3, (.int .u8 101))] w8 = some (⟨some ⟨w8.heap.size, 0, none⟩, 4, 4⟩, a9) := g1
  have g2 : cnv prog 25 25 (.slice (some ⟨w8.heap.size, 0, none⟩) 4 4) a9 = some (.slice (some ⟨w8.heap.size, 0, none⟩) 4 4, w9) := g2
  have pj : PartOk w9 (⟨some ⟨w8.heap.size, 0, none⟩, 4, 4⟩, vJefe) := pj
  obtain ⟨a10, w10, i1, i2, pw, u10⟩ := constB vWhat (by decide) (by decide) (vin _ (by decide)) w9
  have i1 : bldS prog 25 16 #[(0, (.int .u8 119)), (1, (.int .u8 104)), (2, (.int .u8 97)), (3, (.int .u8 116)), (4, (.int .u8 32)), (5, (.int .u8 100)), (6, (.int .u8 111)), (7, (.int .u8 32)), (8, (.int .u8 121)), (9, (.int .u8 97)), (10, (.int .u8 32)), (11, (.int .u8 119)), (12, (.int .u8 97)), (13, (.int .u8 110)), (14, (.int .u8 116)), (15, (.int .u8 32))] w9 = some (⟨some ⟨w9.heap.size, 0, none⟩, 16, 16⟩, a10) := i1
  have i2 : cnv prog 25 25 (.slice (some ⟨w9.heap.size, 0, none⟩) 16 16) a10 = some (.slice (some ⟨w9.heap.size, 0, none⟩) 16 16, w10) := i2
  have pw : PartOk w10 (⟨some ⟨w9.heap.size, 0, none⟩, 16, 16⟩, vWhat) := pw
  obtain ⟨a11, w11, j1, j2, pf, u11⟩ := constB vFor (by decide) (by decide) (vin _ (by decide)) w10
  have j1 : bldS prog 25 12 #[(0, (.int .u8 102)), (1, (.int .u8 111)), (2, (.int .u8 114)), (3, (.int .u8 32)), (4, (.int .u8 110)), (5, (.int .u8 111)), (6, (.int .u8 116)), (7, (.int .u8 104)), (8, (.int .u8 105)), (9, (.int .u8 110)), (10, (.int .u8 103)), (11, (.int .u8 63))] w10 = some (⟨some ⟨w10.heap.size, 0, none⟩, 12, 12⟩, a11) := j1
  have j2 : cnv prog 25 25 (.slice (some ⟨w10.heap.size, 0, none⟩) 12 12) a11 = some (.slice (some ⟨w10.heap.size, 0, none⟩) 12 12, w11) := j2
  have pf : PartOk w11 (⟨some ⟨w10.heap.size, 0, none⟩, 12, 12⟩, vFor) := pf
  have q11 := ((q8.and0 u9).and0 u10).and0 u11
  have pj11 := vup (vup pj u10) u11
  have pw11 := vup pw u11
  obtain ⟨w12, k1, P12, u12⟩ := some_parts (w := w11) [(⟨some ⟨w9.heap.size, 0, none⟩, 16, 16⟩, vWhat), (⟨some ⟨w10.heap.size, 0, none⟩, 12, 12⟩, vFor)] (fun p hp => by
    simp only [List.mem_cons, List.not_mem_nil, or_false] at hp
    rcases hp with rfl | rfl
    · exact pw11
    · exact pf) (by simp) (by simp)
  have k1 : bldS prog 24 2 #[(0, (.slice (some ⟨w9.heap.size, 0, none⟩) 16 16)), (1, (.slice (some ⟨w10.heap.size, 0, none⟩) 12 12))] w11 = _ := k1
  have q12 := q11.and0 u12
  have pj12 := vup pj11 u12
  obtain ⟨r13, w13, m1, m2, m3, u13⟩ := Code_any hK 256 (T.upd0 q12) pj12.1 pj12.2.1 (by show 4 ≤ 33554432; decide) pj12.2.2.2 P12 (fun k hk => hk) (by show (vWhat ++ (vFor ++ [])).length ≤ 33554432; decide)
  have q13 := q12.and0 u13
  have ef : (List.map (fun x : Sl × List Int => x.2) [((⟨some ⟨w9.heap.size, 0, none⟩, 16, 16⟩ : Sl), vWhat), ((⟨some ⟨w10.heap.size, 0, none⟩, 12, 12⟩ : Sl), vFor)]).flatten = vWhat ++ vFor := by simp
  rw [ef] at m2
  unfold codeOf at m2
  rw [if_pos known256v] at m2
  have m1 : digest_Code K 256 ⟨some ⟨w8.heap.size, 0, none⟩, 4, 4⟩ ⟨some ⟨w11.heap.size, 0, none⟩, 2, 2⟩ w12 = some ((r13, 0, ()), w13) := m1
  obtain ⟨w14, n1, u14⟩ := Hex_ok hK (m2.src ints_one) (macOf_in cubesC squaresS 256 vJefe (vWhat ++ vFor)) (by have := macOf_len cubesC squaresS 256 vJefe (vWhat ++ vFor); exact Nat.le_trans this (by decide))
  have q14 := q13.and0 u14
  have s2 : law01_DigestVectors_s2 K r13 0 w13 = some ((false, ()), w14) := by
    unfold law01_DigestVectors_s2 law01_num
    rw [Option.bind_some]
    dsimp only
    rw [if_neg (by decide), n1, bnd_ok]
    dsimp only
    rw [vec11, beq_self_eq_true]
    rfl
  obtain ⟨a15, w15, o1, o2, pp, u15⟩ := constB vPass (by decide) (by decide) (vin _ (by decide)) w14
  have o1 : bldS prog 25 8 #[(0, (.int .u8 112)), (1, (.int .u8 97)), (2, (.int .u8 115)), (3, (.int .u8 115)), (4, (.int .u8 119)), (5, (.int .u8 111)), (6, (.int .u8 114)), (7, (.int .u8 100))] w14 = some (⟨some ⟨w14.heap.size, 0, none⟩, 8, 8⟩, a15) := o1
  have o2 : cnv prog 25 25 (.slice (some ⟨w14.heap.size, 0, none⟩) 8 8) a15 = some (.slice (some ⟨w14.heap.size, 0, none⟩) 8 8, w15) := o2
  have pp : PartOk w15 (⟨some ⟨w14.heap.size, 0, none⟩, 8, 8⟩, vPass) := pp
  obtain ⟨a16, w16, p1, p2, ps, u16⟩ := constB vSalt (by decide) (by decide) (vin _ (by decide)) w15
  have p1 : bldS prog 25 4 #[(0, (.int .u8 115)), (1, (.int .u8 97)), (2, (.int .u8 108)), (3, (.int .u8 116))] w15 = some (⟨some ⟨w15.heap.size, 0, none⟩, 4, 4⟩, a16) := p1
  have p2 : cnv prog 25 25 (.slice (some ⟨w15.heap.size, 0, none⟩) 4 4) a16 = some (.slice (some ⟨w15.heap.size, 0, none⟩) 4 4, w16) := p2
  have ps : PartOk w16 (⟨some ⟨w15.heap.size, 0, none⟩, 4, 4⟩, vSalt) := ps
  have q16 := (q14.and0 u15).and0 u16
  obtain ⟨r17, w17, x1, x2, x3, u17⟩ := Stretch_any hK 256 (T.upd0 q16) (vup pp u16) ps 2 32
  have q17 := q16.and0 u17
  have he : strErr 256 vPass.length vSalt.length 2 32 = 0 := by decide +kernel
  have hs : strOf cubesC squaresS 256 vPass vSalt 2 32 = (strO cubesC squaresS 256 vPass vSalt 1 1).take 32 := by
    unfold strOf
    rw [if_pos he]
    rfl
  rw [he] at x1
  rw [hs] at x2
  obtain ⟨w18, y1, u18⟩ := Hex_ok hK (x2.src ints_one) (vin _ (by decide +kernel)) (by rw [List.length_take]; omega)
  have q18 := q17.and0 u18
  have s3 : law01_DigestVectors_s3 K 0 r17 w17 = some ((false, ()), w18) := by
    unfold law01_DigestVectors_s3 law01_num
    rw [Option.bind_some]
    dsimp only
    rw [if_neg (by decide), y1, bnd_ok]
    dsimp only
    rw [vec12, beq_self_eq_true]
    rfl
  obtain ⟨a19, w19, v1, v2, pb, u19⟩ := constB vBar (by decide) (by decide) (vin _ (by decide)) w18
  have v1 : bldS prog 25 6 #[(0, (.int .u8 102)), (1, (.int .u8 111)), (2, (.int .u8 111)), (3, (.int .u8 98)), (4, (.int .u8 97)), (5, (.int .u8 114))] w18 = some (⟨some ⟨w18.heap.size, 0, none⟩, 6, 6⟩, a19) := v1
  have v2 : cnv prog 25 25 (.slice (some ⟨w18.heap.size, 0, none⟩) 6 6) a19 = some (.slice (some ⟨w18.heap.size, 0, none⟩) 6 6, w19) := v2
  have pb : PartOk w19 (⟨some ⟨w18.heap.size, 0, none⟩, 6, 6⟩, vBar) := pb
  obtain ⟨w20, z1, u20⟩ := Base64_ok hK pb.1 pb.2.1 (by show 6 ≤ 12582912; decide)
  have q20 := (q18.and0 u19).and0 u20
  obtain ⟨a21, w21, vv1, vv2, pb5, u21⟩ := constB (vBar.take 5) (by decide) (by decide) (vin _ (by decide)) w20
  have vv1 : bldS prog 25 5 #[(0, (.int .u8 102)), (1, (.int .u8 111)), (2, (.int .u8 111)), (3, (.int .u8 98)), (4, (.int .u8 97))] w20 = some (⟨some ⟨w20.heap.size, 0, none⟩, 5, 5⟩, a21) := vv1
  have vv2 : cnv prog 25 25 (.slice (some ⟨w20.heap.size, 0, none⟩) 5 5) a21 = some (.slice (some ⟨w20.heap.size, 0, none⟩) 5 5, w21) := vv2
  have pb5 : PartOk w21 (⟨some ⟨w20.heap.size, 0, none⟩, 5, 5⟩, (vBar.take 5)) := pb5
  obtain ⟨w22, z2, u22⟩ := Base64_ok hK pb5.1 pb5.2.1 (by show 5 ≤ 12582912; decide)
  have q22 := (q20.and0 u21).and0 u22
  obtain ⟨a23, w23, vvv1, vvv2, pb4, u23⟩ := constB (vBar.take 4) (by decide) (by decide) (vin _ (by decide)) w22
  have vvv1 : bldS prog 25 4 #[(0, (.int .u8 102)), (1, (.int .u8 111)), (2, (.int .u8 111)), (3, (.int .u8 98))] w22 = some (⟨some ⟨w22.heap.size, 0, none⟩, 4, 4⟩, a23) := vvv1
  have vvv2 : cnv prog 25 25 (.slice (some ⟨w22.heap.size, 0, none⟩) 4 4) a23 = some (.slice (some ⟨w22.heap.size, 0, none⟩) 4 4, w23) := vvv2
  have pb4 : PartOk w23 (⟨some ⟨w22.heap.size, 0, none⟩, 4, 4⟩, (vBar.take 4)) := pb4
  obtain ⟨w24, z3, u24⟩ := Base64_ok hK pb4.1 pb4.2.1 (by show 4 ≤ 12582912; decide)
  have q24 := (q22.and0 u23).and0 u24
  refine ⟨w24, ?_, q24⟩
  unfold law01_DigestVectors
  rw [c1, bnd_ok]
  dsimp only
  rw [c2, bnd_ok, asS_slice, Option.bind_some, d1, bnd_ok]
  dsimp only
  rw [d2, bnd_ok, asS_slice, Option.bind_some, s0, bnd_ok]
  dsimp only
  rw [if_neg (by simp), s1, bnd_ok]
  dsimp only
  rw [if_neg (by simp), e1, bnd_ok, e2, bnd_ok]
  dsimp only
  rw [show bytesOf (hexOf (digestOf 384 cubesC (firstH squaresS 384) vAbc)) = str9 from vec9, if_neg (by simp), f1, bnd_ok, f2, bnd_ok]
  dsimp only
  rw [show bytesOf (hexOf (digestOf 512 cubesC (firstH squaresS 512) vAbc)) = str10 from vec10, if_neg (by simp), g1, bnd_ok]
  dsimp only
  rw [g2, bnd_ok, asS_slice, Option.bind_some, i1, bnd_ok]
  dsimp only
  rw [i2, bnd_ok, asS_slice, Option.bind_some, j1, bnd_ok]
  dsimp only
  rw [j2, bnd_ok, asS_slice, Option.bind_some]
  dsimp only
  rw [k1, bnd_ok]
  dsimp only [List.length_cons, List.length_nil]
  rw [m1, bnd_ok]
  dsimp only
  rw [s2, bnd_ok]
  dsimp only
  rw [if_neg (by simp), o1, bnd_ok]
  dsimp only
  rw [o2, bnd_ok, asS_slice, Option.bind_some, p1, bnd_ok]
  dsimp only
  rw [p2, bnd_ok, asS_slice, Option.bind_some, x1, bnd_ok]
  dsimp only
  rw [s3, bnd_ok]
  dsimp only
  rw [if_neg (by simp), v1, bnd_ok]
  dsimp only
  rw [v2, bnd_ok, asS_slice, Option.bind_some, z1, bnd_ok]
  dsimp only
  rw [vec13, if_pos (by simp), vv1, bnd_ok]
  dsimp only
  rw [vv2, bnd_ok, asS_slice, Option.bind_some, z2, bnd_ok]
  dsimp only
  rw [vec14, if_pos (by simp), vvv1, bnd_ok]
  dsimp only
  rw [vvv2, bnd_ok, asS_slice, Option.bind_some, z3, bnd_ok]
  dsimp only
  rw [vec15, beq_self_eq_true]

end Go.Sh

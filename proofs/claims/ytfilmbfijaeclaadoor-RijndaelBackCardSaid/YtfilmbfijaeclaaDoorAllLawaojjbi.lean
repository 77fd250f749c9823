/- Texts of this claim, put together: VecS, BookC, BookD, Back, OpenB, OpenR -/
import Derived.Test.YtfilmbfijaeclaaDoorAllLawcclpnj
import Derived.Test.YtfilmbfijaeclaaDoorAllFwhohjab
import Derived.Test.YtfilmbfijaeclaaDoorAllLawbamcfk
import Derived.Test.YtfilmbfijaeclaaDoorRows
import Derived.Lib.LaidTab
import Derived.Deep.Matrix
import Derived.SizedLaws
import Derived.Handed
import Derived.OpenShut
import Derived.Deep.Slices
/- RijndaelVectors: the whole of it. -/
set_option linter.unusedVariables false
set_option maxRecDepth 100000
namespace Go.Sh
open Go.Fw Go.Gf Go.RowKit Go.Proofs.Tryd

theorem sched_f {w : World} {g t gw gb kl : Nat} {S : List W4} (k : KeyAt w g t gw gb kl S) : rijndael_Key_schedule (some ⟨g, 0, none⟩) false w = some ((⟨some ⟨gw, 0, none⟩, S.length, S.length⟩, 0, ()), w) := sched_ok k false

theorem own_b {w : World} {s : Sl} {xs : List Value} (o : Own 5 w s xs) : ∀ p, s.a = some p → p.block < w.heap.size := fun p hp => o.lt (by simp [Sl.blk, hp])
theorem fresh_b {w : World} {s : Sl} (f : Fresh w.heap.size s) : ∀ p, s.a = some p → w.heap.size ≤ p.block := fun p hp => f _ (by simp [Sl.blk, hp])

theorem ks16 : (cntL 16 1).length = 16 ∨ (cntL 16 1).length = 24 ∨ (cntL 16 1).length = 32 := .inl (cntL_len _ _)
theorem ks24 : (cntL 24 1).length = 16 ∨ (cntL 24 1).length = 24 ∨ (cntL 24 1).length = 32 := .inr (.inl (cntL_len _ _))
theorem ks32 : (cntL 32 1).length = 16 ∨ (cntL 32 1).length = 24 ∨ (cntL 32 1).length = 32 := .inr (.inr (cntL_len _ _))
theorem A16 : B16 (cntL 16 17) := ⟨cntL_len _ _, cntL_in _ _⟩
def allIn (L : List Int) : Bool := L.all fun z => decide (0 ≤ z ∧ z ≤ 255)
theorem allIn_ok {L : List Int} (h : allIn L = true) : ∀ z ∈ L, InK .u8 z := fun z hz => by
  have := of_decide_eq_true (List.all_eq_true.1 h z hz)
  exact ⟨this.1, by show z < 256; omega⟩
theorem C1 : B16 vC1 := ⟨rfl, allIn_ok (by decide)⟩
theorem C2 : B16 vC2 := ⟨rfl, allIn_ok (by decide)⟩
theorem C3 : B16 vC3 := ⟨rfl, allIn_ok (by decide)⟩

/-- a key of counted bytes, and a list of literal bytes -/
theorem litB (L : List Int) (hp : 0 < L.length) (hs : L.length ≤ 1000) (w : World) :
    ∃ s w', bldS prog 22 L.length ((ints .u8 L).zipIdx.map fun p => (p.2, p.1)).toArray w = some (s, w') ∧ Own 5 w' s (ints .u8 L) ∧ Fresh w.heap.size s ∧ Upd none_ w w' := by
  have hl : (ints .u8 L).length = L.length := ints_length L
  obtain ⟨w', h1, h2, h3, h4⟩ := bldS_ok sliceB (ints .u8 L) (fun v hv => by obtain ⟨x, _, rfl⟩ := List.mem_map.1 hv; rfl) (by omega) (by omega) w
  rw [hl] at h1 h2
  exact ⟨_, w', h1, h2, fun k hk => by have : w.heap.size = k := Option.some.inj hk; omega, h3⟩

theorem keyC_ok {K : Nat} (hK : 18446744073709551616 ≤ K) {n : Nat} (hn : n ≤ 1000) (hl : (cntL n 1).length = 16 ∨ (cntL n 1).length = 24 ∨ (cntL n 1).length = 32) {w : World} (rc : Rc w) :
    ∃ s w1 g t gw gb w', law02_counted K (n : Int) 1 w = some ((s, ()), w1) ∧ rijndael_New K s w1 = some ((some ⟨g, 0, none⟩, 0, ()), w') ∧ KeyAt w' g t gw gb (cntL n 1).length (schedS (cntL n 1)) ∧ w.heap.size ≤ g ∧ w.heap.size ≤ t ∧ w.heap.size ≤ gw ∧ w.heap.size ≤ gb ∧ Upd none_ w w' := by
  obtain ⟨s, w1, a1, o1, f1, u1⟩ := counted_ok (K := K) (by omega) hn (step := 1) (by decide) w
  obtain ⟨g, t, gw, gb, w2, a2, k2, h1, h2, h3, h4, u2⟩ := New_ok (K := K) (by omega) (Rd.upd rc u1 fun _ => id) (cntL_in n 1) o1.rd (own_b o1) hl
  have := u1.size
  exact ⟨s, w1, g, t, gw, gb, w2, a1, a2, k2, by omega, by omega, by omega, by omega, u1.and0 u2⟩

theorem wrapC_s1 {K : Nat} (hK : 18446744073709551616 ≤ K) {s : Sl} {w : World} (o : Own 5 w s (ints .u8 vU1)) : ∃ w', law02_wraps_s1 K 0 s w = some ((false, ()), w') ∧ Upd none_ w w' := by
  obtain ⟨s2, w1, a1, o1, f1, u1⟩ := litB vU1 (by decide) (by decide) w
  obtain ⟨w2, a2, u2⟩ := SameBytes_ok hK (o.upd0 u1).rd o1.rd (by decide)
  rw [decide_eq_true rfl] at a2
  refine ⟨w2, ?_, u1.and0 u2⟩
  have a1 : bldS prog 22 24 #[(0, (.int .u8 31)), (1, (.int .u8 166)), (2, (.int .u8 139)), (3, (.int .u8 10)), (4, (.int .u8 129)), (5, (.int .u8 18)), (6, (.int .u8 180)), (7, (.int .u8 71)), (8, (.int .u8 174)), (9, (.int .u8 243)), (10, (.int .u8 75)), (11, (.int .u8 216)), (12, (.int .u8 251)), (13, (.int .u8 90)), (14, (.int .u8 123)), (15, (.int .u8 130)), (16, (.int .u8 157)), (17, (.int .u8 62)), (18, (.int .u8 134)), (19, (.int .u8 35)), (20, (.int .u8 113)), (21, (.int .u8 210)), (22, (.int .u8 207)), (23, (.int .u8 229))] w = some (s2, w1) := a1
  unfold law02_wraps_s1
  rw [num_re, Option.bind_some, if_neg (show ¬ ((0 : Int) != 0) = true by decide), a1, bnd_ok, a2, bnd_ok]
  rfl

theorem wraps_ok {K : Nat} (hK : 18446744073709551616 ≤ K) {w : World} (rc : Rc w) : ∃ w', law02_wraps K w = some ((true, ()), w') ∧ Upd none_ w w' := by
  obtain ⟨s1, w1, g, t, gw, gb, w2, a1, a2, k, x1, x2, x3, x4, u2⟩ := keyC_ok hK (n := 16) (by decide) ks16 rc
  obtain ⟨s3, w3, h, t', hw, hb, w4, a3, a4, m, y1, y2, y3, y4, u4⟩ := keyC_ok hK (n := 32) (by decide) ks32 (Rd.upd rc u2 fun _ => id)
  obtain ⟨s5, w5, a5, o5, f5, u5⟩ := counted_ok (K := K) (by omega) (n := 16) (step := 17) (by decide) (by decide) w4
  obtain ⟨s6, w6, a6, o6, f6, u6⟩ := Wrap_ok hK ((k.upd0 u4).upd0 u5) (cntL_in 16 17) o5.rd (n := 2) (cntL_len _ _) (by decide) (by decide)
  rw [vU1_ok] at o6
  obtain ⟨w7, a7, u7⟩ := wrapC_s1 hK o6
  obtain ⟨s8, w8, a8, o8, f8, u8⟩ := counted_ok (K := K) (by omega) (n := 16) (step := 17) (by decide) (by decide) w7
  obtain ⟨s9, w9, a9, o9, f9, u9⟩ := counted_ok (K := K) (by omega) (n := 16) (step := 1) (by decide) (by decide) w8
  have hl8 := o8.len
  have hl9 := o9.len
  rw [ints_length, cntL_len] at hl8 hl9
  obtain ⟨s10, w10, a10, l10, o10, u10, f10⟩ := apd_ok sliceB (o8.upd0 u9) (o9.src ints_one) (by rw [hl8, hl9]; decide)
  rw [← ints_append] at o10
  have hz7 := u7.size
  have hz8 := u8.size
  have q8 : Upd none_ w4 w8 := (((u5.and0 u6).and0 u7).and0 u8)
  have q10 : Upd none_ w4 w10 := (q8.and0 u9).trans' u10 fun x hx e => by have := f8 x e; have := u5.size; have := u6.size; omega
  obtain ⟨s11, w11, a11, o11, f11, u11⟩ := Wrap_ok hK (m.upd0 q10) (D := cntL 16 17 ++ cntL 16 1) (fun z hz => by
    rcases List.mem_append.1 hz with e | e
    · exact cntL_in _ _ z e
    · exact cntL_in _ _ z e) o10.rd (n := 4) (by rw [List.length_append, cntL_len, cntL_len]) (by decide) (by decide)
  have e2 : wrapL (schedS (cntL 32 1)) (cntL 16 17 ++ cntL 16 1) = vU2 := vU2_ok
  rw [e2] at o11
  obtain ⟨s12, w12, a12, o12, f12, u12⟩ := litB vU2 (by decide) (by decide) w11
  obtain ⟨w13, a13, u13⟩ := SameBytes_ok hK (o11.upd0 u12).rd o12.rd (by decide)
  rw [decide_eq_true rfl] at a13
  refine ⟨w13, ?_, ((((u2.and0 u4).and0 q10).and0 u11).and0 u12).and0 u13⟩
  have a12 : bldS prog 22 40 #[(0, (.int .u8 40)), (1, (.int .u8 201)), (2, (.int .u8 244)), (3, (.int .u8 4)), (4, (.int .u8 196)), (5, (.int .u8 184)), (6, (.int .u8 16)), (7, (.int .u8 244)), (8, (.int .u8 203)), (9, (.int .u8 204)), (10, (.int .u8 179)), (11, (.int .u8 92)), (12, (.int .u8 251)), (13, (.int .u8 135)), (14, (.int .u8 248)), (15, (.int .u8 38)), (16, (.int .u8 63)), (17, (.int .u8 87)), (18, (.int .u8 134)), (19, (.int .u8 226)), (20, (.int .u8 216)), (21, (.int .u8 14)), (22, (.int .u8 211)), (23, (.int .u8 38)), (24, (.int .u8 203)), (25, (.int .u8 199)), (26, (.int .u8 240)), (27, (.int .u8 231)), (28, (.int .u8 26)), (29, (.int .u8 153)), (30, (.int .u8 244)), (31, (.int .u8 59)), (32, (.int .u8 251)), (33, (.int .u8 152)), (34, (.int .u8 139)), (35, (.int .u8 155)), (36, (.int .u8 122)), (37, (.int .u8 2)), (38, (.int .u8 221)), (39, (.int .u8 33))] w11 = some (s12, w12) := a12
  have a1 : law02_counted K 16 1 w = _ := a1
  have a3 : law02_counted K 32 1 w2 = _ := a3
  have a5 : law02_counted K 16 17 w4 = _ := a5
  have a8 : law02_counted K 16 17 w7 = _ := a8
  have a9 : law02_counted K 16 1 w8 = _ := a9
  have s0 : law02_wraps_s0 K (some ⟨g, 0, none⟩) 0 (some ⟨h, 0, none⟩) 0 w4 = some ((false, ()), w4) := rfl
  unfold law02_wraps
  rw [a1, bnd_ok, a2, bnd_ok, a3, bnd_ok, a4, bnd_ok, s0, bnd_ok, if_neg (show ¬ false = true by decide), a5, bnd_ok, a6, bnd_ok, a7, bnd_ok, if_neg (show ¬ false = true by decide), a8, bnd_ok, a9, bnd_ok, a10, bnd_ok, a11, bnd_ok, num_re, Option.bind_some, if_pos (show ((0 : Int) == 0) = true from rfl), a12, bnd_ok, a13, bnd_ok]

/-- the start of the example's stream -/
theorem start_loop (K : Nat) {k3 : Option Addr} {gs : Nat} : ∀ (d i f : Nat) (w : World), d + i = 16 → d < f → Bk 42 w gs (ints .u8 ((List.range i).map (fun i => ((240 + i : Nat) : Int)) ++ List.replicate (16 - i) 0)) →
    ∃ w', law02_RijndaelVectors_l2 K f k3 ⟨gs, 0, none⟩ (i : Int) w = some ((), w') ∧ Bk 42 w' gs (ints .u8 vS) ∧ Upd (· = gs) w w' := by
  intro d
  induction d with
  | zero =>
    intro i f w hd hf b
    obtain ⟨f, rfl⟩ : ∃ m, f = m + 1 := ⟨f - 1, by omega⟩
    obtain rfl : i = 16 := by omega
    rw [Nat.sub_self, List.replicate_zero, List.append_nil] at b
    refine ⟨w, ?_, b, Upd.refl _ w⟩
    have eu : law02_RijndaelVectors_l2 K (f + 1) = law02_RijndaelVectors_l2_b K (law02_RijndaelVectors_l2 K f) := rfl
    rw [eu]
    unfold law02_RijndaelVectors_l2_b
    rw [if_neg (by decide)]
  | succ d ih =>
    intro i f w hd hf b
    obtain ⟨f, rfl⟩ : ∃ m, f = m + 1 := ⟨f - 1, by omega⟩
    have hi : i < 16 := by omega
    obtain ⟨w1, c1, c2, c3⟩ := b.stC (i := i) (by rw [ints_length, List.length_append, List.length_map, List.length_range, List.length_replicate]; omega) (.int .u8 ((240 + i : Nat) : Int))
    rw [ints_set_, set_snoc (f := fun i => ((240 + i : Nat) : Int)) hi] at c2
    obtain ⟨w2, g1, g2, g3⟩ := ih (i + 1) f w1 (by omega) (by omega) c2
    refine ⟨w2, ?_, g2, c3.trans' g3 fun _ _ e => e⟩
    have e1 : IntKind.i64.wrap ((i : Int) + 1) = ((i + 1 : Nat) : Int) := by rw [w64 (by omega) (by omega)]; rfl
    have e2 : IntKind.u8.wrap (IntKind.i64.wrap (240 + (i : Int))) = ((240 + i : Nat) : Int) := by rw [w64 (by omega) (by omega), w8 (by omega) (by omega)]; omega
    have c1' : stC ((⟨gs, 0, none⟩ : Addr).add (i * 1)) (.int .u8 ((240 + i : Nat) : Int)) w = some w1 := by rw [add_lit, Nat.mul_one, Nat.zero_add]; exact c1
    have eu : law02_RijndaelVectors_l2 K (f + 1) = law02_RijndaelVectors_l2_b K (law02_RijndaelVectors_l2 K f) := rfl
    rw [eu]
    unfold law02_RijndaelVectors_l2_b
    rw [if_pos (decide_eq_true (by omega)), if_pos (nat_in hi), Int.toNat_natCast, e2, c1', Option.bind_some, e1, g1]

theorem words_s1 {K : Nat} {w : World} {g t gw gb : Nat} (k : KeyAt w g t gw gb 16 (schedS vK)) {s : Sl} (o : Own 50 w s (ints .u32 (wN (schedS vK)))) : law02_RijndaelVectors_s1 K (some ⟨g, 0, none⟩) s w = some ((false, ()), w) := by
  have hS : (schedS vK).length = 44 := schedS_len (.inl rfl)
  have hwl : (wN (schedS vK)).length = 44 := by unfold wN; rw [List.length_map, hS]
  have r := o.rd
  have hlen := r.len
  rw [hwl] at hlen
  obtain ⟨p, hp, hld⟩ := r.ld
  have hpa := hp (by intro e; rw [e] at hwl; cases hwl)
  have l4 := hld 4 (by omega)
  have l43 := hld 43 (by omega)
  have e4 : (wN (schedS vK))[4]'(by omega) = 2700803607 := by
    have := vW4
    rw [List.getD_eq_getElem?_getD, List.getElem?_eq_getElem (by omega)] at this
    exact this
  have e43 : (wN (schedS vK))[43]'(by omega) = 3059944614 := by
    have := vW43
    rw [List.getD_eq_getElem?_getD, List.getElem?_eq_getElem (by omega)] at this
    exact this
  rw [e4] at l4
  rw [e43] at l43
  unfold law02_RijndaelVectors_s1
  rw [hlen, if_neg (show ¬ (((44 : Nat) : Int) != 44) = true by decide), hpa, Option.bind_some, if_pos ⟨by decide, by decide⟩]
  show (((ldI .u32 (p.add 4) w).bind _) = _)
  rw [l4, Option.bind_some, if_neg (show ¬ ((2700803607 : Int) != 2700803607) = true by decide), Option.bind_some, if_pos ⟨by decide, by decide⟩]
  show (((ldI .u32 (p.add 43) w).bind _) = _)
  rw [l43, Option.bind_some, if_neg (show ¬ ((3059944614 : Int) != 3059944614) = true by decide), Rounds_ok2 k, bnd_ok, if_neg (show ¬ (((16 / 4 + 6 : Nat) : Int) != 10) = true by decide), Size_ok2 k, bnd_ok]
  rfl

theorem vS_16 : B16 vS := ⟨rfl, allIn_ok (by decide)⟩

theorem b42_1 : prog.built 42 [(0, (.int .u8 105)), (1, (.int .u8 196)), (2, (.int .u8 224)), (3, (.int .u8 216)), (4, (.int .u8 106)), (5, (.int .u8 123)), (6, (.int .u8 4)), (7, (.int .u8 48)), (8, (.int .u8 216)), (9, (.int .u8 205)), (10, (.int .u8 183)), (11, (.int .u8 128)), (12, (.int .u8 112)), (13, (.int .u8 180)), (14, (.int .u8 197)), (15, (.int .u8 90))] = some (ints .u8 vC1).toArray := by kernel_rfl
theorem b42_2 : prog.built 42 [(0, (.int .u8 221)), (1, (.int .u8 169)), (2, (.int .u8 124)), (3, (.int .u8 164)), (4, (.int .u8 134)), (5, (.int .u8 76)), (6, (.int .u8 223)), (7, (.int .u8 224)), (8, (.int .u8 110)), (9, (.int .u8 175)), (10, (.int .u8 112)), (11, (.int .u8 160)), (12, (.int .u8 236)), (13, (.int .u8 13)), (14, (.int .u8 113)), (15, (.int .u8 145))] = some (ints .u8 vC2).toArray := by kernel_rfl
theorem b42_3 : prog.built 42 [(0, (.int .u8 142)), (1, (.int .u8 162)), (2, (.int .u8 183)), (3, (.int .u8 202)), (4, (.int .u8 81)), (5, (.int .u8 103)), (6, (.int .u8 69)), (7, (.int .u8 191)), (8, (.int .u8 234)), (9, (.int .u8 252)), (10, (.int .u8 73)), (11, (.int .u8 144)), (12, (.int .u8 75)), (13, (.int .u8 73)), (14, (.int .u8 96)), (15, (.int .u8 137))] = some (ints .u8 vC3).toArray := by kernel_rfl

theorem Vectors_ok {K : Nat} (hK : 18446744073709551616 ≤ K) {w : World} (rc : Rc w) : ∃ w', law02_RijndaelVectors K w = some ((true, ()), w') ∧ Upd none_ w w' := by
  obtain ⟨s1, w1, a1, o1, f1, u1⟩ := counted_ok (K := K) (by omega) (n := 16) (step := 17) (by decide) (by decide) w
  obtain ⟨w2, a2, u2⟩ := blockOf_ok (K := K) (by omega) A16 o1.rd
  obtain ⟨w3, n3, b3, u3, z3⟩ := newB_ok z42 42 w2
  obtain ⟨w4, a4, b4, u4⟩ := stA16 b3 z42_len A16
  have q4 : Upd none_ w w4 := ((u1.and0 u2).and0 u3).trans' u4 fun x hx e => by have := u1.size; have := u2.size; omega
  have q4d : Upd none_ w w4.drew := q4.drew
  -- three keys
  obtain ⟨s5, w5, a5, o5, f5, u5⟩ := counted_ok (K := K) (by omega) (n := 16) (step := 1) (by decide) (by decide) w4.drew
  obtain ⟨w6, a6, u6⟩ := does_ok (K := K) (by omega) (Rd.upd rc (q4d.and0 u5) fun _ => id) (cntL_in 16 1) o5.rd (own_b o5) ks16 A16 C1 vE1 vD1
  have b6 := (b4.drew.upd0 u5).upd0 u6
  have q6d : Upd none_ w w6.drew := ((q4d.and0 u5).and0 u6).drew
  obtain ⟨s7, w7, a7, o7, f7, u7⟩ := counted_ok (K := K) (by omega) (n := 24) (step := 1) (by decide) (by decide) w6.drew
  obtain ⟨w8, a8, u8⟩ := does_ok (K := K) (by omega) (Rd.upd rc (q6d.and0 u7) fun _ => id) (cntL_in 24 1) o7.rd (own_b o7) ks24 A16 C2 vE2 vD2
  have b8 := (b6.drew.upd0 u7).upd0 u8
  have q8d : Upd none_ w w8.drew := ((q6d.and0 u7).and0 u8).drew
  obtain ⟨s9, w9, a9, o9, f9, u9⟩ := counted_ok (K := K) (by omega) (n := 32) (step := 1) (by decide) (by decide) w8.drew
  obtain ⟨w10, a10, u10⟩ := does_ok (K := K) (by omega) (Rd.upd rc (q8d.and0 u9) fun _ => id) (cntL_in 32 1) o9.rd (own_b o9) ks32 A16 C3 vE3 vD3
  have q10 : Upd none_ w w10 := (q8d.and0 u9).and0 u10
  -- the schedule
  obtain ⟨s11, w11, a11, o11, f11, u11⟩ := litB vK (by decide) (by decide) w10
  obtain ⟨g, t, gw, gb, w12, a12, k, x1, x2, x3, x4, u12⟩ := New_ok (K := K) (by omega) (Rd.upd rc (q10.and0 u11) fun _ => id) (ks := vK) (allIn_ok (by decide)) o11.rd (own_b o11) (.inl rfl)
  obtain ⟨s13, w13, a13, o13, u13, f13⟩ := Words_ok2 k
  have k13 : KeyAt w13 g t gw gb 16 (schedS vK) := k.upd0 u13
  have a14 := words_s1 (K := K) k13 o13
  -- the stream
  obtain ⟨w15, n15, b15, u15, z15⟩ := newB_ok z42 42 w13
  have b15 : Bk 42 w15 w13.heap.size (ints .u8 ((List.range 0).map (fun i => ((240 + i : Nat) : Int)) ++ List.replicate (16 - 0) 0)) := b15
  obtain ⟨w16, a16, b16, u16⟩ := start_loop K (k3 := some ⟨g, 0, none⟩) 16 0 K w15 rfl (by omega) b15
  have a16 : law02_RijndaelVectors_l2 K K (some ⟨g, 0, none⟩) ⟨w13.heap.size, 0, none⟩ 0 w15 = _ := a16
  have q16 : Upd none_ w13 w16 := u15.trans' u16 fun x hx e => by omega
  have k16 := k13.upd0 q16
  obtain ⟨st, w17, a17, b17, h17, u17⟩ := Stream_new (k0 := some ⟨g, 0, none⟩) (fun w' u => sched_f (k16.upd0 u)) vS_16
  obtain ⟨s18, w18, a18, o18, f18, u18⟩ := litB vI (by decide) (by decide) w17
  have hst := b17.lt
  obtain ⟨go, w19, a19, o19, b19, h19, u19⟩ := XOR_ok hK ((k16.upd0 u17).upd0 u18) vS_16 (b17.upd0 u18) (D := vI) (allIn_ok (by decide)) o18.rd (fun _ p hp => by have := fresh_b f18 p hp; omega) (by decide) (by decide)
  rw [vX] at o19
  have u19' : Upd none_ w16 w19 := (u17.and0 u18).trans' u19 fun x hx e => by omega
  obtain ⟨s20, w20, a20, o20, f20, u20⟩ := litB vO (by decide) (by decide) w19
  obtain ⟨w21, a21, u21⟩ := SameBytes_ok hK (o19.upd0 u20).rd o20.rd (by decide)
  rw [decide_eq_true rfl] at a21
  have q21 : Upd none_ w w21 := ((((((q10.and0 u11).and0 u12).and0 u13).and0 q16).and0 u19').and0 u20).and0 u21
  obtain ⟨w22, a22, u22⟩ := wraps_ok hK (Rd.upd rc q21 fun _ => id)
  refine ⟨w22, ?_, q21.and0 u22⟩
  have a1 : law02_counted K 16 17 w = _ := a1
  have a5 : law02_counted K 16 1 w4.drew = _ := a5
  have a7 : law02_counted K 24 1 w6.drew = _ := a7
  have a9 : law02_counted K 32 1 w8.drew = _ := a9
  have a11 : bldS prog 22 16 #[(0, (.int .u8 43)), (1, (.int .u8 126)), (2, (.int .u8 21)), (3, (.int .u8 22)), (4, (.int .u8 40)), (5, (.int .u8 174)), (6, (.int .u8 210)), (7, (.int .u8 166)), (8, (.int .u8 171)), (9, (.int .u8 247)), (10, (.int .u8 21)), (11, (.int .u8 136)), (12, (.int .u8 9)), (13, (.int .u8 207)), (14, (.int .u8 79)), (15, (.int .u8 60))] w10 = some (s11, w11) := a11
  have a18 : bldS prog 22 16 #[(0, (.int .u8 107)), (1, (.int .u8 193)), (2, (.int .u8 190)), (3, (.int .u8 226)), (4, (.int .u8 46)), (5, (.int .u8 64)), (6, (.int .u8 159)), (7, (.int .u8 150)), (8, (.int .u8 233)), (9, (.int .u8 61)), (10, (.int .u8 126)), (11, (.int .u8 17)), (12, (.int .u8 115)), (13, (.int .u8 147)), (14, (.int .u8 23)), (15, (.int .u8 42))] w17 = some (s18, w18) := a18
  have a20 : bldS prog 22 16 #[(0, (.int .u8 135)), (1, (.int .u8 77)), (2, (.int .u8 97)), (3, (.int .u8 145)), (4, (.int .u8 182)), (5, (.int .u8 32)), (6, (.int .u8 227)), (7, (.int .u8 38)), (8, (.int .u8 27)), (9, (.int .u8 239)), (10, (.int .u8 104)), (11, (.int .u8 100)), (12, (.int .u8 153)), (13, (.int .u8 13)), (14, (.int .u8 182)), (15, (.int .u8 206))] w19 = some (s20, w20) := a20
  have e0 : law02_RijndaelVectors_s0 K (some ⟨g, 0, none⟩) 0 w12 = some ((false, ()), w12) := rfl
  have e3 : law02_RijndaelVectors_s3 K 0 (some ⟨st, 0, none⟩) w17 = some ((false, ()), w17) := rfl
  have c4 := ldA16 b4.drew A16
  have c5 := ldA16 (b4.drew.upd0 u5) A16
  have c6 := ldA16 b6.drew A16
  have c7 := ldA16 (b6.drew.upd0 u7) A16
  have c8 := ldA16 b8.drew A16
  have c9 := ldA16 (b8.drew.upd0 u9) A16
  have hnf : ¬ (!true) = true := by decide
  unfold law02_RijndaelVectors
  rw [a1, bnd_ok, a2, bnd_ok, n3, bnd_ok, if_pos (size16 A16), a4, Option.bind_some, b42_1, Option.bind_some, c4, Option.bind_some, a5, bnd_ok, c5, Option.bind_some, sameK_self, a6, bnd_ok, if_neg hnf,
    b42_2, Option.bind_some, c6, Option.bind_some, a7, bnd_ok, c7, Option.bind_some, sameK_self, a8, bnd_ok, if_neg hnf,
    b42_3, Option.bind_some, c8, Option.bind_some, a9, bnd_ok, c9, Option.bind_some, sameK_self, a10, bnd_ok, if_neg hnf,
    a11, bnd_ok, a12, bnd_ok, e0, bnd_ok, if_neg (show ¬ false = true by decide), a13, bnd_ok, a14, bnd_ok, if_neg (show ¬ false = true by decide), n15, bnd_ok, a16, bnd_ok, ldA16 b16 vS_16, Option.bind_some, a17, bnd_ok, e3, bnd_ok, if_neg (show ¬ false = true by decide), a18, bnd_ok, a19, bnd_ok, num_re, Option.bind_some, if_neg (show ¬ ((0 : Int) != 0) = true by decide), a20, bnd_ok, a21, bnd_ok, if_neg hnf, a22, bnd_ok]

end Go.Sh

/- What the helpers of the package cofferbook do. YtfilmbfijaeclaaDoor, Tryd, 22, 5 are filled in for a seat (book.sh). -/
set_option linter.unusedVariables false
namespace Go.Sh
open Go.Fw Go.RowKit Go.Proofs.Tryd

/-! ### WholeBytes -/

/-- The front of what Bytes made. -/
theorem marked_front {w : World} {g cap : Nat} {bs : List Int} (h : Own 5 w ⟨some ⟨g, 0, none⟩, bs.length + 70, cap⟩ (ints .u8 (bs ++ marks))) :
    Own 5 w ⟨some ⟨g, 0, none⟩, bs.length, cap⟩ (ints .u8 bs) := by
  have := h.cut (n := bs.length) (Nat.le_add_right _ _)
  rw [ints_take, List.take_left] at this
  exact this

theorem WholeBytes_loop (K : Nat) {s : Sl} {bs : List Int} (hb : bs.length ≤ 140737488351232) :
    ∀ (d i n : Nat) (w : World), i + d = 70 → d < n → RdS .u8 w s (bs ++ marks) → book_WholeBytes_l0 K n ((bs.length : Nat) : Int) s (i : Int) w = some (.norm (), w) := by
  intro d
  induction d with
  | zero =>
    intro i n w hi hn hr
    obtain ⟨n, rfl⟩ : ∃ m, n = m + 1 := ⟨n - 1, by omega⟩
    have : i = 70 := by omega
    subst this
    show book_WholeBytes_l0_b K (book_WholeBytes_l0 K n) ((bs.length : Nat) : Int) s ((70 : Nat) : Int) w = _
    simp [book_WholeBytes_l0_b]
  | succ d ih =>
    intro i n w hi hn hr
    obtain ⟨n, rfl⟩ : ∃ m, n = m + 1 := ⟨n - 1, by omega⟩
    have hi70 : i < 70 := by omega
    show book_WholeBytes_l0_b K (book_WholeBytes_l0 K n) ((bs.length : Nat) : Int) s (i : Int) w = _
    have hll : s.len = bs.length + 70 := by rw [hr.len]; simp [marks_len]
    obtain ⟨p, hp, hpl⟩ := hr.ld
    have hne : bs ++ marks ≠ [] := by intro e; have := congrArg List.length e; simp [marks_len] at this
    have l1 := hpl (bs.length + i) (by simp [marks_len]; omega)
    have e1 : (bs ++ marks)[bs.length + i]'(by simp [marks_len]; omega) = marks[i]'(by rw [marks_len]; exact hi70) := by simp
    rw [e1] at l1
    have hw : IntKind.i64.wrap ((i : Int) + 1) = ((i + 1 : Nat) : Int) := by rw [w64 (by omega) (by omega)]; rfl
    have hw2 : IntKind.i64.wrap (((bs.length : Nat) : Int) + (i : Int)) = ((bs.length + i : Nat) : Int) := by rw [w64 (by omega) (by omega)]; rfl
    have hd : decide ((i : Int) < 70) = true := by simp; omega
    have hin : (0 : Int) ≤ ((bs.length + i : Nat) : Int) ∧ ((bs.length + i : Nat) : Int) < ((bs.length + 70 : Nat) : Int) := by omega
    simp only [book_WholeBytes_l0_b, hd, if_true, hp hne, Option.bind_some, hw2, hll, hin, and_self, Int.toNat_natCast, Nat.mul_one, l1, mark_at i hi70, bne_self_eq_false, Bool.false_eq_true, if_false, hw]
    exact ih (i + 1) n w (by omega) (by omega) hr

theorem WholeBytes_ok {K : Nat} (hK : 18446744073709551616 ≤ K) {g cap : Nat} {l : Sl} {bs xs : List Int} {w : World}
    (ho : Own 5 w ⟨some ⟨g, 0, none⟩, bs.length + 70, cap⟩ (ints .u8 (bs ++ marks))) (hl : RdS .u8 w l xs) (hb : bs.length ≤ 140737488351232) :
    ∃ w', book_WholeBytes K ⟨some ⟨g, 0, none⟩, bs.length, cap⟩ l w = some ((decide (bs = xs), ()), w') ∧ Upd none_ w w' := by
  obtain ⟨w1, h1, u1⟩ := SameBytes_ok hK (marked_front ho).rd hl (by omega)
  by_cases he : bs = xs
  · have hc := ho.cap.1
    have hc : bs.length + 70 ≤ cap := hc
    have ho1 := ho.upd0 u1
    have hlp := WholeBytes_loop K hb 70 0 K w1 (by omega) (by omega) ho1.rd
    have hlp : book_WholeBytes_l0 K K ((bs.length : Nat) : Int) ⟨some ⟨g, 0, none⟩, bs.length + 70, cap⟩ 0 w1 = _ := hlp
    have hw : IntKind.i64.wrap (((bs.length : Nat) : Int) + 70) = ((bs.length + 70 : Nat) : Int) := by rw [w64 (by omega) (by omega)]; rfl
    have hin : (0 : Int) ≤ ((bs.length + 70 : Nat) : Int) ∧ ((bs.length + 70 : Nat) : Int) ≤ ((cap : Nat) : Int) := by omega
    refine ⟨w1, ?_, u1⟩
    simp only [book_WholeBytes, h1, bnd_ok, decide_eq_true he, Bool.not_true, Bool.false_eq_true, if_false, hw, hin, and_self, if_true, sla_zero, Int.toNat_natCast, Nat.sub_zero, hlp]
  · refine ⟨w1, ?_, u1⟩
    simp only [book_WholeBytes, h1, bnd_ok, decide_eq_false he, Bool.not_false, if_true]

end Go.Sh

/- What the helpers of the package cofferbook do: SpoilBytes. YtfilmbfijaeclaaDoor, Tryd, 22, 5 are filled in for a seat. -/
set_option linter.unusedVariables false
namespace Go.Sh
open Go.Fw Go.RowKit Go.Proofs.Tryd

/-- all of its elements are bytes -/
theorem Spoil0 (K : Nat) {s : Sl} : ∀ (d i n : Nat) (w : World) (xs : List Int), i + d = xs.length → xs.length ≤ 140737488355328 → d < n → Vw 5 w s (ints .u8 xs) →
    ∃ w' ys, book_SpoilBytes_l0 K n s (i : Int) w = some ((), w') ∧ Vw 5 w' s (ints .u8 ys) ∧ ys.length = xs.length ∧ Upd (fun k => s.blk = some k) w w' := by
  intro d
  induction d with
  | zero =>
    intro i n w xs hi hl hn hv
    obtain ⟨n, rfl⟩ : ∃ m, n = m + 1 := ⟨n - 1, by omega⟩
    refine ⟨w, xs, ?_, hv, rfl, Upd.refl _ _⟩
    have hd : decide ((i : Int) < ((s.len : Nat) : Int)) = false := by rw [hv.len, ints_length]; simp; omega
    show book_SpoilBytes_l0_b K (book_SpoilBytes_l0 K n) s (i : Int) w = _
    unfold book_SpoilBytes_l0_b
    rw [hd, if_neg (by decide)]
  | succ d ih =>
    intro i n w xs hi hl hn hv
    obtain ⟨n, rfl⟩ : ∃ m, n = m + 1 := ⟨n - 1, by omega⟩
    have hsl : s.len = xs.length := by rw [hv.len, ints_length]
    obtain ⟨p, hp, hpl⟩ := hv.rd.ld
    have l1 := hpl i (by omega)
    have hp : s.a = some p := hp (fun e => by rw [e] at hi; simp at hi)
    obtain ⟨q, w1, hq, hs, hv1, u1⟩ := hv.st (i := i) (by omega) (.int .u8 (bits .xor .u8 (xs[i]'(by omega)) 165))
    obtain rfl : p = q := Option.some.inj (hp.symm.trans hq)
    rw [ints_set_] at hv1
    obtain ⟨w2, ys, h2, hv2, hl2, u2⟩ := ih (i + 1) n w1 _ (by rw [List.length_set]; omega) (by rw [List.length_set]; omega) (by omega) hv1
    refine ⟨w2, ys, ?_, hv2, by rw [hl2, List.length_set], u1.trans' u2 fun _ _ e => e⟩
    have hd : decide ((i : Int) < ((s.len : Nat) : Int)) = true := by rw [hsl]; simp; omega
    have c : (0 : Int) ≤ (i : Int) ∧ (i : Int) < ((s.len : Nat) : Int) := by omega
    have e1 : IntKind.i64.wrap ((i : Int) + 1) = ((i + 1 : Nat) : Int) := by rw [w64 (by omega) (by omega)]; rfl
    show book_SpoilBytes_l0_b K (book_SpoilBytes_l0 K n) s (i : Int) w = _
    unfold book_SpoilBytes_l0_b
    rw [hd, if_pos rfl, hp, Option.bind_some, if_pos c, Int.toNat_natCast, Nat.mul_one, l1, Option.bind_some, Option.bind_some, if_pos c, hs, Option.bind_some, e1, h2]

/-- one byte behind it -/
theorem pushV {w : World} {s : Sl} {xs : List Int} (x : Int) (ho : Vw 5 w s (ints .u8 xs)) (hs : s.len + 1 ≤ 140737488355328) :
    ∃ w1 s2 w2, bldS prog 22 1 #[(0, (.int .u8 x))] w = some (⟨some ⟨w.heap.size, 0, none⟩, 1, 1⟩, w1) ∧ apd prog 22 22 (.slice s.a s.len s.cap) (.slice (some ⟨w.heap.size, 0, none⟩) 1 1) w1 = some (s2, w2) ∧
      Vw 5 w2 s2 (ints .u8 (xs ++ [x])) ∧ s2.len = s.len + 1 ∧ Upd (fun k => s.blk = some k) w w2 ∧ (∀ k, s2.blk = some k → s.blk = some k ∨ w.heap.size ≤ k) := by
  obtain ⟨w1, h1, o1, u1, z1⟩ := bldS1_ok sliceB (.int .u8 x) rfl w
  obtain ⟨s2, w2, h2, l2, o2, u2, b2⟩ := apd_vw sliceB (ho.upd0 u1) (o1.src (by simp [Value.oneCell'])) (by show (s.len + 1) * 1 ≤ _; omega)
  refine ⟨w1, s2, w2, h1, h2, by simpa using o2, l2, (u1.mono fun _ _ e => e.elim).trans' u2 fun _ _ e => e, fun k hk => (b2 k hk).imp id fun e => by omega⟩

theorem Spoil1 (K : Nat) : ∀ (d i n : Nat) (w : World) (s : Sl) (xs : List Int), i + d = 70 → xs.length + d ≤ 140737488355328 → d < n → Vw 5 w s (ints .u8 xs) →
    ∃ s' w' ys, book_SpoilBytes_l1 K n s (i : Int) w = some ((s', ()), w') ∧ Vw 5 w' s' (ints .u8 ys) ∧ ys.length = xs.length + d ∧ Upd (fun k => s.blk = some k) w w' ∧ (∀ k, s'.blk = some k → s.blk = some k ∨ w.heap.size ≤ k) := by
  intro d
  induction d with
  | zero =>
    intro i n w s xs hi hl hn hv
    obtain ⟨n, rfl⟩ : ∃ m, n = m + 1 := ⟨n - 1, by omega⟩
    have : i = 70 := by omega
    subst this
    refine ⟨s, w, xs, ?_, hv, rfl, Upd.refl _ _, fun _ => .inl⟩
    show book_SpoilBytes_l1_b K (book_SpoilBytes_l1 K n) s ((70 : Nat) : Int) w = _
    unfold book_SpoilBytes_l1_b
    rw [if_neg (by decide)]
  | succ d ih =>
    intro i n w s xs hi hl hn hv
    obtain ⟨n, rfl⟩ : ∃ m, n = m + 1 := ⟨n - 1, by omega⟩
    have hsl : s.len = xs.length := by rw [hv.len, ints_length]
    obtain ⟨w1, s2, w2, h1, h2, o2, l2, u2, b2⟩ := pushV (IntKind.u8.wrap (IntKind.i64.wrap ((IntKind.i64.wrap (7 * (i : Int))) + 3))) hv (by omega)
    obtain ⟨s3, w3, ys, h3, o3, l3, u3, b3⟩ := ih (i + 1) n w2 s2 _ (by omega) (by rw [List.length_append, List.length_singleton]; omega) (by omega) o2
    refine ⟨s3, w3, ys, ?_, o3, by rw [l3, List.length_append, List.length_singleton]; omega, u2.trans' u3 fun k hk e => (b2 k e).elim id fun e => by omega, fun k hk => ?_⟩
    · have hd : decide ((i : Int) < 70) = true := by simp; omega
      have e1 : IntKind.i64.wrap ((i : Int) + 1) = ((i + 1 : Nat) : Int) := by rw [w64 (by omega) (by omega)]; rfl
      show book_SpoilBytes_l1_b K (book_SpoilBytes_l1 K n) s (i : Int) w = _
      unfold book_SpoilBytes_l1_b
      rw [hd, if_pos rfl, h1, bnd_ok, h2, bnd_ok, e1, h3]
    · rcases b3 k hk with e | e
      · exact b2 k e
      · exact .inr (by have := u2.size; omega)

theorem SpoilBytes_ok {K : Nat} (hK : 18446744073709551616 ≤ K) {s : Sl} {xs : List Int} {w : World} (hv : Vw 5 w s (ints .u8 xs)) (hl : xs.length ≤ 140737488351232) :
    ∃ w', book_SpoilBytes K s w = some ((), w') ∧ Upd (fun k => s.blk = some k) w w' := by
  obtain ⟨w1, ys, h1, v1, l1, u1⟩ := Spoil0 K xs.length 0 K w xs (by omega) (by omega) (by omega) hv
  have h1 : book_SpoilBytes_l0 K K s 0 w = _ := h1
  have hsl : s.len = xs.length := by rw [hv.len, ints_length]
  obtain ⟨w2, s2, w3, h2, h3, v3, l3, u3, b3⟩ := pushV 1 v1 (by omega)
  obtain ⟨s4, w4, zs, h4, v4, l4, u4, b4⟩ := Spoil1 K 70 0 K w3 s2 _ (by omega) (by rw [List.length_append, List.length_singleton]; omega) (by omega) v3
  have h4 : book_SpoilBytes_l1 K K s2 0 w3 = _ := h4
  rw [List.length_append, List.length_singleton] at l4
  have hl4 : s4.len = xs.length + 71 := by rw [v4.len, ints_length]; omega
  obtain ⟨p, w5, hp, h5, v5, u5⟩ := v4.st (i := xs.length + 70) (by omega) (.int .u8 77)
  have e1 : IntKind.i64.wrap (((s4.len : Nat) : Int) - 1) = ((xs.length + 70 : Nat) : Int) := by rw [hl4, w64 (by omega) (by omega)]; omega
  have c : (0 : Int) ≤ ((xs.length + 70 : Nat) : Int) ∧ ((xs.length + 70 : Nat) : Int) < ((s4.len : Nat) : Int) := by omega
  refine ⟨w5, ?_, ?_⟩
  · unfold book_SpoilBytes
    rw [h1, bnd_ok, h2, bnd_ok, h3, bnd_ok, h4, bnd_ok]
    dsimp only
    rw [hp, Option.bind_some, e1, if_pos c, Int.toNat_natCast, Nat.mul_one, h5, Option.bind_some]
  · have q3 : Upd (fun k => s.blk = some k) w w3 := u1.trans' u3 fun _ _ e => e
    have hz := u1.size
    have q4 : Upd (fun k => s.blk = some k) w w4 := q3.trans' u4 fun k hk e => (b3 k e).elim id fun e => by omega
    have hz3 := u3.size
    refine q4.trans' u5 fun k hk e => ?_
    rcases b4 k e with e | e
    · rcases b3 k e with e | e
      · exact e
      · omega
    · omega

end Go.Sh

/- RijndaelBack: each way undoes the other. -/
set_option linter.unusedVariables false
set_option maxRecDepth 100000
namespace Go.Sh
open Go.Fw Go.Gf Go.RowKit Go.Proofs.Tryd

/-- what is asked behind a law: it is true, and nothing is changed -/
noncomputable def kT (W : World) (y : Bool × Unit) (w' : World) : Option Unit := by
  classical exact if y.1 = true ∧ Upd none_ W w' then some () else none
theorem kT_ok {W w' : World} (u : Upd none_ W w') : kT W (true, ()) w' = some () := by
  unfold kT; rw [if_pos ⟨rfl, u⟩]
theorem kT_some {W w' : World} {y : Bool × Unit} (h : kT W y w' = some ()) : y = (true, ()) ∧ Upd none_ W w' := by
  unfold kT at h
  split at h
  · rename_i h1; exact ⟨Prod.ext h1.1 rfl, h1.2⟩
  · cases h

theorem back_s0 {K : Nat} {key : Sl} {n : Nat} (hl : key.len = n) (h : ¬ (n = 16 ∨ n = 24 ∨ n = 32)) (w : World) : law02_RijndaelBack_s0 K key false 20 w = some ((true, ()), w) := by
  unfold law02_RijndaelBack_s0
  rw [num_re, Option.bind_some, if_pos (show ((20 : Int) == 20) = true from rfl), hl, if_pos (bne_iff_ne.2 (by omega)), if_pos (bne_iff_ne.2 (by omega))]
  have : (((n : Nat) : Int) != 32) = true := bne_iff_ne.2 (by omega)
  rw [this]

theorem back_s1 {K : Nat} {pb py pw : Nat} {B : List Int} (hB : B16 B) {w : World} (b : Bk 42 w pb (ints .u8 B)) (by_ : Bk 42 w py (ints .u8 B)) (bw : Bk 42 w pw (ints .u8 B)) : law02_RijndaelBack_s1 K ⟨pb, 0, none⟩ ⟨py, 0, none⟩ ⟨pw, 0, none⟩ w = some ((false, ()), w) := by
  unfold law02_RijndaelBack_s1
  rw [ldA16 by_ hB, Option.bind_some, ldA16 b hB, Option.bind_some, eq42 hB.1 hB.1, decide_eq_true rfl, Option.bind_some, if_neg (show ¬ (!true) = true by decide), ldA16 bw hB, Option.bind_some, Option.bind_some, eq42 hB.1 hB.1, decide_eq_true rfl, Option.bind_some]
  rfl

theorem back_s2 {K : Nat} {data : Sl} {D0 : List Int} (h0 : ∀ z ∈ D0, InK .u8 z) {w : World} (r : RdS .u8 w data D0) :
    ∃ d D, law02_RijndaelBack_s2 K data (decide (((data.len : Nat) : Int) > 4096)) w = some ((d, ()), w) ∧ RdS .u8 w d D ∧ D.length ≤ 4096 ∧ ∀ z ∈ D, InK .u8 z := by
  have hl := r.len
  have hc := r.cap
  unfold law02_RijndaelBack_s2
  by_cases c : 4096 < data.len
  · have r2 := r.sub (lo := 0) (hi := 4096) (by decide) (by omega)
    rw [List.drop_zero] at r2
    refine ⟨_, _, ?_, r2, by rw [List.length_take]; omega, fun z hz => h0 z (List.mem_of_mem_take hz)⟩
    rw [if_pos (decide_eq_true (by omega)), if_pos ⟨by decide, by omega⟩]
  · refine ⟨data, D0, ?_, r, by omega, h0⟩
    rw [if_neg (fun e => by have := of_decide_eq_true e; omega)]

theorem back_s3 {K : Nat} (hK : 18446744073709551616 ≤ K) {data d24 : Sl} {D : List Int} {w : World} (r : RdS .u8 w data D) (o : RdS .u8 w d24 D) (hD : D.length ≤ 4096) {s : Nat} {k0 : Option Addr} {B : List Int} (hB : B16 B) (b : Bk 107 w s (streamC k0 B D.length)) :
    ∃ w', law02_RijndaelBack_s3 K data 0 (some ⟨s, 0, none⟩) d24 0 w = some ((false, ()), w') ∧ Upd none_ w w' := by
  obtain ⟨w1, a1, u1⟩ := SameBytes_ok hK o r (by omega)
  rw [decide_eq_true rfl] at a1
  refine ⟨w1, ?_, u1⟩
  have e : (((D.length : Nat) : Int) != IntKind.u64.wrap ((data.len : Nat) : Int)) = false := by
    rw [r.len, wru64 (by omega)]; simp
  unfold law02_RijndaelBack_s3
  rw [num_re, Option.bind_some, if_neg (show ¬ ((0 : Int) != 0) = true by decide), Option.bind_some, if_neg (show ¬ ((0 : Int) != 0) = true by decide), a1, bnd_ok, if_neg (show ¬ (!true) = true by decide), At_ok hB (b.upd0 u1), Option.bind_some, e]

theorem cut0 {w : World} {d : Sl} {D : List Int} (r : RdS .u8 w d D) {n : Nat} (hn : n ≤ D.length) : RdS .u8 w ⟨sla d.a 0 d.cap 1, n - 0, d.cap - 0⟩ (D.take n) := by
  have r2 := r.sub (lo := 0) (hi := n) (by omega) hn
  rw [List.drop_zero] at r2
  exact r2

theorem back_s4 {K : Nat} (hK : 18446744073709551616 ≤ K) {data p q o : Sl} {D X : List Int} {w : World} (r : RdS .u8 w data D) (hD : D.length ≤ 4096) {n : Nat} (hn : n ≤ D.length) (ro : RdS .u8 w o (D.take n)) (rp : RdS .u8 w p X) (rq : RdS .u8 w q X) (hX : X.length = n + 8) :
    ∃ w', law02_RijndaelBack_s4 K data 0 0 (n : Int) p q o w = some ((false, ()), w') ∧ Upd none_ w w' := by
  have hl := r.len
  have hc := r.cap
  have r2 := cut0 r hn
  obtain ⟨w1, a1, u1⟩ := SameBytes_ok hK ro r2 (by rw [List.length_take]; omega)
  rw [decide_eq_true rfl] at a1
  obtain ⟨w2, a2, u2⟩ := SameBytes_ok hK (rp.upd0 u1) (rq.upd0 u1) (by omega)
  rw [decide_eq_true rfl] at a2
  refine ⟨w2, ?_, u1.and0 u2⟩
  have e8 : IntKind.i64.wrap ((n : Int) + 8) = ((n + 8 : Nat) : Int) := by rw [w64 (by omega) (by omega)]; omega
  unfold law02_RijndaelBack_s4
  rw [num_re, Option.bind_some, if_neg (show ¬ ((0 : Int) != 0) = true by decide), Option.bind_some, if_neg (show ¬ ((0 : Int) != 0) = true by decide), e8, rp.len, hX, if_neg (by simp), if_pos ⟨by omega, by omega⟩, Int.toNat_natCast, a1, bnd_ok, if_neg (show ¬ (!true) = true by decide), a2, bnd_ok]
  rfl

theorem back_s5 {K : Nat} (hK : 18446744073709551616 ≤ K) {data v : Sl} {D : List Int} {w : World} (r : RdS .u8 w data D) (hD : D.length ≤ 4096) {n : Nat} (hn : n ≤ D.length) (rv : RdS .u8 w v (D.take n)) :
    ∃ w', law02_RijndaelBack_s5 K data 0 (n : Int) v w = some ((false, ()), w') ∧ Upd none_ w w' := by
  have hl := r.len
  have hc := r.cap
  obtain ⟨w1, a1, u1⟩ := SameBytes_ok hK rv (cut0 r hn) (by rw [List.length_take]; omega)
  rw [decide_eq_true rfl] at a1
  refine ⟨w1, ?_, u1⟩
  unfold law02_RijndaelBack_s5
  rw [num_re, Option.bind_some, if_neg (show ¬ ((0 : Int) != 0) = true by decide), if_pos ⟨by omega, by omega⟩, Int.toNat_natCast, a1, bnd_ok]
  rfl

/-- the last part: wrapped, unwrapped, spoilt -/
theorem back_tail {K : Nat} (hK : 18446744073709551616 ≤ K) {W w : World} (qW : Upd none_ W w) {g t gw gb kl : Nat} {S : List W4} (ka : KeyAt w g t gw gb kl S) {data : Sl} {D : List Int} (hD : ∀ z ∈ D, InK .u8 z) (r : RdS .u8 w data D) (hl : D.length ≤ 4096) :
    (if (decide ((IntKind.i64.wrap ((IntKind.i64.wrap (Int.tdiv ((data.len : Nat) : Int) 8)) * 8)) < 16)) = true then (kT W (true, ()) w) else (if (0 : Int) ≤ (IntKind.i64.wrap ((IntKind.i64.wrap (Int.tdiv ((data.len : Nat) : Int) 8)) * 8)) ∧ (IntKind.i64.wrap ((IntKind.i64.wrap (Int.tdiv ((data.len : Nat) : Int) 8)) * 8)) ≤ ((data.cap : Nat) : Int) then (bnd (rijndael_Wrap K (some ⟨g, 0, none⟩) ⟨(sla data.a 0 data.cap 1), ((Int.toNat ((IntKind.i64.wrap ((IntKind.i64.wrap (Int.tdiv ((data.len : Nat) : Int) 8)) * 8)))) - 0), (data.cap - 0)⟩ w) fun r_66 w_67 =>
  if (0 : Int) ≤ (IntKind.i64.wrap ((IntKind.i64.wrap (Int.tdiv ((data.len : Nat) : Int) 8)) * 8)) ∧ (IntKind.i64.wrap ((IntKind.i64.wrap (Int.tdiv ((data.len : Nat) : Int) 8)) * 8)) ≤ ((data.cap : Nat) : Int) then (bnd (rijndael_Wrap K (some ⟨g, 0, none⟩) ⟨(sla data.a 0 data.cap 1), ((Int.toNat ((IntKind.i64.wrap ((IntKind.i64.wrap (Int.tdiv ((data.len : Nat) : Int) 8)) * 8)))) - 0), (data.cap - 0)⟩ w_67) fun r_68 w_69 =>
  rijndael_Unwrap K (some ⟨g, 0, none⟩) r_66.1 w_69 fun r_70 w_71 =>
  bnd (law02_RijndaelBack_s4 K data r_66.2.1 r_70.2.1 (IntKind.i64.wrap ((IntKind.i64.wrap (Int.tdiv ((data.len : Nat) : Int) 8)) * 8)) r_66.1 r_68.1 r_70.1 w_71) fun y_78 w_79 =>
  if y_78.1 = true then (kT W (false, ()) w_79) else (bnd (book_SpoilBytes K r_66.1 w_79) fun r_80 w_81 =>
  rijndael_Unwrap K (some ⟨g, 0, none⟩) r_68.1 w_81 fun r_82 w_83 =>
  bnd (law02_RijndaelBack_s5 K data r_82.2.1 (IntKind.i64.wrap ((IntKind.i64.wrap (Int.tdiv ((data.len : Nat) : Int) 8)) * 8)) r_82.1 w_83) fun y_87 w_88 =>
  if y_87.1 = true then (kT W (false, ()) w_88) else (bnd (book_SpoilBytes K r_70.1 w_88) fun r_89 w_90 =>
  if (0 : Int) ≤ (IntKind.i64.wrap ((IntKind.i64.wrap (Int.tdiv ((data.len : Nat) : Int) 8)) * 8)) ∧ (IntKind.i64.wrap ((IntKind.i64.wrap (Int.tdiv ((data.len : Nat) : Int) 8)) * 8)) ≤ ((data.cap : Nat) : Int) then (bnd (book_SameBytes K r_82.1 ⟨(sla data.a 0 data.cap 1), ((Int.toNat ((IntKind.i64.wrap ((IntKind.i64.wrap (Int.tdiv ((data.len : Nat) : Int) 8)) * 8)))) - 0), (data.cap - 0)⟩ w_90) fun r_91 w_92 =>
  kT W (r_91.1, ()) w_92) else none))) else none) else none)) = some () := by
  have hlen := r.len
  have hcap := r.cap
  obtain ⟨m, hm⟩ : ∃ m, m = D.length / 8 := ⟨_, rfl⟩
  have en : IntKind.i64.wrap (IntKind.i64.wrap (Int.tdiv ((data.len : Nat) : Int) 8) * 8) = ((8 * m : Nat) : Int) := by
    have : Int.tdiv ((data.len : Nat) : Int) 8 = ((data.len / 8 : Nat) : Int) := tdiv_nat data.len 8
    rw [this, i64n (by omega), w64 (by omega) (by omega)]; omega
  rw [en]
  by_cases c : 8 * m < 16
  · rw [if_pos (decide_eq_true (by omega))]
    exact kT_ok qW
  have hc : (0 : Int) ≤ ((8 * m : Nat) : Int) ∧ ((8 * m : Nat) : Int) ≤ ((data.cap : Nat) : Int) := ⟨by omega, by omega⟩
  rw [if_neg (fun e => c (by have := of_decide_eq_true e; omega)), if_pos hc, Int.toNat_natCast]
  have hkl := ka.len
  have hk3 := ka.kl
  obtain ⟨rr, hrr⟩ : ∃ rr, rr = kl / 4 + 6 := ⟨_, rfl⟩
  have hSl : S.length = 4 * (rr + 1) := by omega
  have hD' : ∀ z ∈ D.take (8 * m), InK .u8 z := fun z hz => hD z (List.mem_of_mem_take hz)
  have hl' : (D.take (8 * m)).length = 8 * m := by rw [List.length_take]; omega
  have rc := cut0 r (n := 8 * m) (by omega)
  have hXl := wrapL_len ka.ok hD' (n := m) (by omega) (by omega) hl'
  have hXi := wrapL_in ka.ok hD' (n := m) (by omega) (by omega) hl'
  have hun := unR_wrap ka.ok hSl (by omega) hD' (n := m) (by omega) (by omega) hl'
  obtain ⟨p, w1, a1, o1, f1, u1⟩ := Wrap_ok hK ka hD' rc hl' (by omega) (by omega)
  obtain ⟨q, w2, a2, o2, f2, u2⟩ := Wrap_ok hK (ka.upd0 u1) hD' (rc.upd0 u1) hl' (by omega) (by omega)
  have q2 := u1.and0 u2
  have hz1 := u1.size
  have hz2 := u2.size
  rw [a1, bnd_ok, if_pos hc, a2, bnd_ok]
  have hp1 : ∀ x, p.blk = some x → x < w1.heap.size := fun x hx => o1.lt hx
  refine Unwrap_ok hK (ka.upd0 q2) hXi (o1.upd0 u2).rd hXl (by omega) (by omega) (fun e => absurd (by rw [hun]) e) fun _ o w3 oo fo u3 => ?_
  rw [hun] at oo
  have oo : Own 5 w3 o (ints .u8 (D.take (8 * m))) := oo
  have q3 := q2.and0 u3
  obtain ⟨w4, a4, u4⟩ := back_s4 hK (r.upd0 q3) hl (n := 8 * m) (by omega) oo.rd ((o1.upd0 u2).upd0 u3).rd (o2.upd0 u3).rd (by rw [hXl])
  have q4 := q3.and0 u4
  rw [a4, bnd_ok, if_neg (show ¬ false = true by decide)]
  obtain ⟨w5, a5, u5⟩ := SpoilBytes_ok hK (((o1.upd0 u2).upd0 u3).upd0 u4).vw (by rw [hXl]; omega)
  have hz3 := u3.size
  have hz4 := u4.size
  have k5 : KeyAt w5 g t gw gb kl S := (ka.upd0 q4).upd u5 (fun e => by have := f1 _ e; have := ka.b.lt; omega) (fun e => by have := f1 _ e; have := ka.bt.lt; omega) (fun e => by have := f1 _ e; have := ka.bw.lt; omega) (fun e => by have := f1 _ e; have := ka.bb.lt; omega)
  have r5 : RdS .u8 w5 data D := (r.upd0 q4).upd' u5 fun hz x hx e => by have := f1 _ e; have := r.lt' hz x hx; omega
  have oq5 := ((o2.upd0 u3).upd0 u4).upd u5 fun x hx e => by have := f2 x hx; have := hp1 x e; omega
  have oo5 := (oo.upd0 u4).upd u5 fun x hx e => by have := fo x hx; have := hp1 x e; omega
  have q5 : Upd none_ w w5 := q4.trans' u5 fun x hx e => by have := f1 x e; omega
  rw [a5, bnd_ok]
  refine Unwrap_ok hK k5 hXi oq5.rd hXl (by omega) (by omega) (fun e => absurd (by rw [hun]) e) fun _ v w6 ov fv u6 => ?_
  rw [hun] at ov
  have ov : Own 5 w6 v (ints .u8 (D.take (8 * m))) := ov
  obtain ⟨w7, a7, u7⟩ := back_s5 hK (r5.upd0 u6) hl (n := 8 * m) (by omega) ov.rd
  rw [a7, bnd_ok, if_neg (show ¬ false = true by decide)]
  obtain ⟨w8, a8, u8⟩ := SpoilBytes_ok hK ((oo5.upd0 u6).upd0 u7).vw (by rw [hl']; omega)
  have hz5 := u5.size
  have hz6 := u6.size
  have ho5 : ∀ x, o.blk = some x → x < w5.heap.size := fun x hx => oo5.lt hx
  have r8 : RdS .u8 w8 data D := ((r5.upd0 u6).upd0 u7).upd' u8 fun hz x hx e => by have := fo _ e; have := r.lt' hz x hx; omega
  have ov8 := (ov.upd0 u7).upd u8 fun x hx e => by have := fv x hx; have := ho5 x e; omega
  have q8 : Upd none_ w w8 := ((q5.and0 u6).and0 u7).trans' u8 fun x hx e => by have := fo x e; omega
  rw [a8, bnd_ok]
  obtain ⟨w9, a9, u9⟩ := SameBytes_ok hK ov8.rd (cut0 r8 (n := 8 * m) (by omega)) (by rw [hl']; omega)
  rw [decide_eq_true rfl] at a9
  rw [if_pos hc, a9, bnd_ok]
  exact kT_ok ((qW.and0 q8).and0 u9)

theorem RijndaelBack_ok {K : Nat} (hK : 18446744073709551616 ≤ K) {w : World} (rc : Rc w) {key : Sl} {ks : List Int} (hks : ∀ z ∈ ks, InK .u8 z) (r : RdS .u8 w key ks) {B : List Int} (hB : B16 B) {data : Sl} {D0 : List Int} (h0 : ∀ z ∈ D0, InK .u8 z) (rd : RdS .u8 w data D0) :
    law02_RijndaelBack K key (ints .u8 B).toArray data w (kT w) = some () := by
  obtain ⟨w1, n1, b1, u1, z1⟩ := newB_ok (ints .u8 B).toArray 42 w
  have b1 : Bk 42 w1 w.heap.size (ints .u8 B) := b1
  obtain ⟨w2, a2, u2⟩ := Vectors_ok hK (Rd.upd rc u1 fun _ => id)
  have q2 := u1.and0 u2
  have r2 := r.upd0 q2
  have hnf : ¬ (!true) = true := by decide
  unfold law02_RijndaelBack
  rw [n1, bnd_ok, a2, bnd_ok, if_neg hnf]
  by_cases hl : ks.length = 16 ∨ ks.length = 24 ∨ ks.length = 32
  · obtain ⟨g, t, gw, gb, w3, a3, k, x1, x2, x3, x4, u3⟩ := New_ok (K := K) (by omega) (Rd.upd rc q2 fun _ => id) hks r2 (r2.lt' fun e => by rw [e] at hl; simp at hl) hl
    have q3 := q2.and0 u3
    have hkl := k.len
    have hk3 := k.kl
    obtain ⟨S, hSd⟩ : ∃ S, S = schedS ks := ⟨_, rfl⟩
    rw [← hSd] at k hkl
    obtain ⟨rr, hrr⟩ : ∃ rr, rr = ks.length / 4 + 6 := ⟨_, rfl⟩
    have hSl : S.length = 4 * (rr + 1) := by omega
    have hb3 := (b1.upd0 u2).upd0 u3
    have hE := encB_16 k.ok hB
    have hZ := decB_16 k.ok hB
    have e1 := decB_encB k.ok hSl (by omega) hB
    have e2 := encB_decB k.ok hSl (by omega) hB
    -- there and back
    obtain ⟨w4, a4, u4⟩ := Encrypt_ok (K := K) (by omega) k hB
    obtain ⟨w5, n5, b5, u5, z5⟩ := newB_ok z42 42 w4
    obtain ⟨w6, a6, b6, u6⟩ := stA16 b5 z42_len hE
    have q46 : Upd none_ w3 w6 := (u4.and0 u5).trans' u6 fun x hx e => by have := u4.size; omega
    have k6 := k.upd0 q46
    obtain ⟨w7, a7, u7⟩ := Decrypt_ok (K := K) (by omega) k6 hE
    rw [e1] at a7
    obtain ⟨w8, n8, b8, u8, z8⟩ := newB_ok z42 42 w7
    obtain ⟨w9, a9, b9, u9⟩ := stA16 b8 z42_len hB
    have q79 : Upd none_ w6 w9 := (u7.and0 u8).trans' u9 fun x hx e => by have := u7.size; omega
    have k9 := k6.upd0 q79
    obtain ⟨w10, a10, u10⟩ := Decrypt_ok (K := K) (by omega) k9 hB
    obtain ⟨w11, n11, b11, u11, z11⟩ := newB_ok z42 42 w10
    obtain ⟨w12, a12, b12, u12⟩ := stA16 b11 z42_len hZ
    have q1012 : Upd none_ w9 w12 := (u10.and0 u11).trans' u12 fun x hx e => by have := u10.size; omega
    have k12 := k9.upd0 q1012
    obtain ⟨w13, a13, u13⟩ := Encrypt_ok (K := K) (by omega) k12 hZ
    rw [e2] at a13
    obtain ⟨w14, n14, b14, u14, z14⟩ := newB_ok z42 42 w13
    obtain ⟨w15, a15, b15, u15⟩ := stA16 b14 z42_len hB
    have q1315 : Upd none_ w12 w15 := (u13.and0 u14).trans' u15 fun x hx e => by have := u13.size; omega
    have k15 := k12.upd0 q1315
    have hb6 := hb3.upd0 q46
    have hb9 := hb6.upd0 q79
    have hb15 := (hb9.upd0 q1012).upd0 q1315
    have y15 := (b9.upd0 q1012).upd0 q1315
    have es1 := back_s1 (K := K) hB hb15 y15 b15
    have q15 : Upd none_ w w15 := (((q3.and0 q46).and0 q79).and0 q1012).and0 q1315
    obtain ⟨d, D, es2, rD, hDl, hDi⟩ := back_s2 (K := K) h0 (rd.upd0 q15)
    have x15 := ((b6.upd0 q79).upd0 q1012).upd0 q1315
    -- streams
    obtain ⟨s1, w16, a16, c16, h16, u16⟩ := Stream_new (k0 := some ⟨g, 0, none⟩) (fun w' u => schedF (k15.upd0 u)) hB
    obtain ⟨s2, w17, a17, c17, h17, u17⟩ := Stream_new (k0 := some ⟨g, 0, none⟩) (fun w' u => schedF ((k15.upd0 u16).upd0 u)) hB
    obtain ⟨s3, w18, a18, c18, h18, u18⟩ := Stream_new (k0 := some ⟨g, 0, none⟩) (fun w' u => schedF (((k15.upd0 u16).upd0 u17).upd0 u)) hE
    have q18 : Upd none_ w15 w18 := (u16.and0 u17).and0 u18
    have k18 := k15.upd0 q18
    have c1 := (c16.upd0 u17).upd0 u18
    have c2 := c17.upd0 u18
    have l1 := c16.lt
    have l2 := c17.lt
    have l3 := c18.lt
    have hz15 := q15.size
    have rD18 := rD.upd0 q18
    have hDlt := fun hz p hp => rD.lt' (w := w15) hz p hp
    obtain ⟨c, w19, a19, o19, c19, h19, u19⟩ := XOR_ok hK k18 hB c1 hDi rD18 (fun hz p hp => by have := hDlt hz p hp; omega) (by omega) (by omega)
    rw [Nat.zero_add] at c19
    have k19 := k18.upd u19 (Bk.apart (by decide) k18.b c1) (Bk.apart (by decide) k18.bt c1) (Bk.apart (by decide) k18.bw c1) (Bk.apart (by decide) k18.bb c1)
    have rD19 : RdS .u8 w19 d D := rD18.upd' u19 fun hz p hp e => by have := hDlt hz p hp; omega
    have c3_19 := c18.upd u19 (by show ¬ s3 = s1; omega)
    have c2_19 := c2.upd u19 (by show ¬ s2 = s1; omega)
    obtain ⟨c', w20, a20, o20, c20, h20, u20⟩ := XOR_ok hK k19 hE c3_19 hDi rD19 (fun hz p hp => by have := hDlt hz p hp; omega) (by omega) (by omega)
    have k20 := k19.upd u20 (Bk.apart (by decide) k19.b c3_19) (Bk.apart (by decide) k19.bt c3_19) (Bk.apart (by decide) k19.bw c3_19) (Bk.apart (by decide) k19.bb c3_19)
    have hz19 := u19.size
    have rD20 : RdS .u8 w20 d D := rD19.upd' u20 fun hz p hp e => by have := hDlt hz p hp; omega
    have o19_20 := o19.upd u20 (fun x hx e => by have : c = x := Option.some.inj hx; omega)
    have c2_20 := c2_19.upd u20 (by show ¬ s2 = s3; omega)
    have c1_20 := c19.upd u20 (by show ¬ s1 = s3; omega)
    have hxl := xorL_len S B 0 D
    obtain ⟨e, w21, a21, o21, c21, h21, u21⟩ := XOR_ok hK k20 hB c2_20 (xorL_in k.ok B 0 hDi) o19_20.rd (fun hz p hp => by
      obtain rfl : (⟨c, 0, none⟩ : Addr) = p := Option.some.inj hp
      show c ≠ s2; omega) (by omega) (by omega)
    rw [xorL_twice k.ok B 0 hDi] at o21
    rw [hxl] at a21 o21
    have k21 := k20.upd u21 (Bk.apart (by decide) k20.b c2_20) (Bk.apart (by decide) k20.bt c2_20) (Bk.apart (by decide) k20.bw c2_20) (Bk.apart (by decide) k20.bb c2_20)
    have rD21 : RdS .u8 w21 d D := rD20.upd' u21 fun hz p hp e => by have := hDlt hz p hp; omega
    have c1_21 := c1_20.upd u21 (by show ¬ s1 = s2; omega)
    obtain ⟨w22, es3, u22⟩ := back_s3 hK rD21 o21.rd hDl hB c1_21
    have q22 : Upd none_ w w22 := ((((q15.and0 q18).trans' u19 fun x hx e => by omega).trans' u20 fun x hx e => by omega).trans' u21 fun x hx e => by omega).and0 u22
    rw [a3, bnd_ok, if_neg (show ¬ (some (⟨g, 0, none⟩ : Addr)).isNone = true from Bool.noConfusion), ldA16 hb3 hB, Option.bind_some, a4, bnd_ok, n5, bnd_ok, if_pos (size16 hE), a6, Option.bind_some, ldA16 b6 hE, Option.bind_some, a7, bnd_ok, n8, bnd_ok, if_pos (size16 hB), a9, Option.bind_some, ldA16 hb9 hB, Option.bind_some, a10, bnd_ok, n11, bnd_ok, if_pos (size16 hZ), a12, Option.bind_some, ldA16 b12 hZ, Option.bind_some, a13, bnd_ok, n14, bnd_ok, if_pos (size16 hB), a15, Option.bind_some, es1, bnd_ok, if_neg (show ¬ false = true by decide), es2, bnd_ok,
      ldA16 hb15 hB, Option.bind_some, a16, bnd_ok, ldA16 (hb15.upd0 u16) hB, Option.bind_some, a17, bnd_ok, ldA16 ((x15.upd0 u16).upd0 u17) hE, Option.bind_some, a18, bnd_ok, a19, bnd_ok, a20, bnd_ok, a21, bnd_ok, es3, bnd_ok, if_neg (show ¬ false = true by decide)]
    exact back_tail hK q22 (k21.upd0 u22) hDi (rD21.upd0 u22) hDl
  · rw [New_err r2.len hl, bnd_ok, if_pos (show (none : Option Addr).isNone = true from rfl), back_s0 r2.len hl, bnd_ok]
    exact kT_ok q2

end Go.Sh

/- What a reading of a []byte gives; what the row lays of rcon. -/
set_option linter.unusedVariables false
namespace Go.Sh
open Go.Fw Go.RowKit Go.Proofs.Tryd Go.Deep Go.ChangeShapes Go.WideShapes

def nilS : Sl := ⟨none, 0, 0⟩

theorem wf_u8 {n : Int} (h : (Lit.int .u8 n).wf = true) : InK .u8 n := by
  have h2 : 0 ≤ n ∧ n ≤ 255 := by simpa [Lit.wf, IntKind.bits, IntKind.min, IntKind.max, IntKind.signed] using h
  exact ⟨h2.1, by have := h2.2; simp only [IntKind.bits]; omega⟩

theorem bytes_of_B : 1 ≤ prog.bytesOf 5 := of_decide_eq_true (by kernel_rfl)
theorem und_B : prog.underlying 5 = some (.int .u8) := by kernel_rfl
theorem cells_of_B : prog.cellsOf 5 = 1 := by kernel_rfl
theorem lits_len {H : Type} {κ : IntKind} {zs : List Int} {n : Nat} : (lits (H := H) κ (zs.take n)).length + (lits (H := H) κ (zs.drop n)).length = zs.length := by
  simp only [lits, List.length_map, List.length_take, List.length_drop]; omega

/-- a slice of bytes that came in -/
structure BytesIn (W : World) (s : Sl) (xs : List Int) : Prop where
  src : Src W s (ints .u8 xs)
  inn : ∀ x ∈ xs, InK .u8 x
  len : xs.length ≤ 140737488351232
  cap : s.cap ≤ 140737488351232

theorem open_bytes_t {H : Type} {enc : TypeId × Value → H} {W : World} {x : DataW H × List MemPlace} {fuel : Nat} {cs : List Value} (hf : DataW.trod enc prog W 0 (fun _ => true) true fuel 22 cs = some x) (hw : ∀ n ∈ x.1.weights prog 22, n ≤ reachBytes) :
    ∃ s xs, cs = [slV s] ∧ BytesIn W s xs := by
  rcases open_ints sliceB.ht und_B cells_of_B hf with ⟨hcs, hy⟩ | ⟨a', len', cap', zs, hcs, hb', hl', hm', hz, hy, hcell, hwz⟩
  · exact ⟨nilS, [], hcs, ⟨rfl, Nat.le_refl _, .inl ⟨rfl, rfl, rfl⟩, ints_one⟩, by simp, by simp, by simp [nilS]⟩
  · have hz : zs.length = cap' := by simpa using hz
    have hzl : zs.length ≤ 140737488351232 := by
      have := hw (zs.length * prog.bytesOf 5) (by
        rw [hy]
        simp only [DataW.weights, sliceB.ht, lits_len]
        exact List.mem_cons_self ..)
      exact Nat.le_trans (Nat.le_mul_of_pos_right _ bytes_of_B) this
    refine ⟨⟨some a', len', cap'⟩, zs.take len', hcs, ⟨by simp; omega, hl', .inr ⟨a', rfl, fun j v hv => ?_⟩, ints_one⟩, fun x hx => wf_u8 (hwz x (List.mem_of_mem_take hx)), by simp; omega, by show cap' ≤ _; omega⟩
    have hj : j < len' ∧ j < zs.length := by
      have := (List.getElem?_eq_some_iff.1 hv).1
      simp at this; omega
    rw [hcell j hj.2]
    simp only [ints, List.getElem?_map, List.getElem?_take, if_pos hj.1] at hv
    rw [List.getElem?_eq_getElem hj.2] at hv
    rw [List.getD_eq_getElem?_getD, List.getElem?_eq_getElem hj.2]
    exact hv

theorem open_bytes {H : Type} {enc : TypeId × Value → H} {W : World} {d : DataW H} {p : List MemPlace} {a : Option Addr} {len cap : Nat} (h : DataW.Trod enc prog W 0 (fun _ => true) true 22 (.slice a len cap) d p) (hw : ∀ n ∈ d.weights prog 22, n ≤ reachBytes) :
    ∃ xs, BytesIn W ⟨a, len, cap⟩ xs := by
  obtain ⟨fuel, hf⟩ := h
  obtain ⟨s, xs, hcs, hb⟩ := open_bytes_t hf hw
  simp [Value.cells, slV] at hcs
  obtain ⟨rfl, rfl, rfl⟩ := hcs
  exact ⟨xs, hb⟩



theorem tab_in {P : Program} {w : World} : ∀ {laid : List (String × DataW Unit)} {ps : List MemPlace}, DataW.LaidVars P w laid ps → ∀ {name : String} {k : IntKind} {zs : List Int} {g : Nat} {t e : TypeId} {n : Nat},
    (name, Lib.tabData k zs) ∈ laid → P.globalNamed name = some g → (P.globals[g]?).map (·.type) = some t → P.underlying t = some (.array n e) → P.underlying e = some (.int k) → P.cellsOf e = 1 → P.cellsOf t = n → Lib.TabIs P w name k zs
  | [], _, _, _, _, _, _, _, _, _, hm, _, _, _, _, _, _ => by simp at hm
  | x :: rest, ps, h, name, k, zs, g, t, e, n, hm, hg, hty, ht, he, hce, hct => by
    obtain ⟨g', t', cs, fuel, p, q, hg', ht', hvar, hd, h2, _⟩ := h
    rcases List.mem_cons.1 hm with rfl | hm
    · obtain rfl := Option.some.inj (hg.symm.trans hg')
      obtain rfl := Option.some.inj (hty.symm.trans ht')
      unfold Lib.TabIs
      rw [hvar, ← Lib.cells_of_tab ht he hce hct hd]
    · exact tab_in h2 hm hg hty ht he hce hct

def laidR : List (String × DataW Unit) := [("coffer/rijndael.rcon", Lib.tabData .u8 (rcT.map Int.ofNat))]
theorem tabsR1 {w : World} (h : laidMetH prog laidR w) : Rc w := by
  obtain ⟨ps, h, _⟩ : laidMet prog laidR w := h
  have t : Lib.TabIs prog w "coffer/rijndael.rcon" .u8 (rcT.map Int.ofNat) := tab_in h (name := "coffer/rijndael.rcon") (zs := rcT.map Int.ofNat) (g := 0) (t := 78) (e := 5) (n := 10) (by simp [laidR]) (by kernel_rfl) (by kernel_rfl) (by kernel_rfl) (by kernel_rfl) (by kernel_rfl) (by kernel_rfl)
  intro i v hv
  rw [add_lit, Nat.zero_add]
  have hi : i < (rcT.map Int.ofNat).length := by have := (List.getElem?_eq_some_iff.1 hv).1; simpa using this
  rw [t.cell (by kernel_rfl) i hi]
  simp only [ints, List.getElem?_map] at hv ⊢
  rw [List.getD_eq_getElem?_getD, List.getElem?_map]
  cases hx : rcT[i]? with
  | none => rw [hx] at hv; simp at hv
  | some x => rw [hx] at hv; simpa using hv

end Go.Sh

/- A block and a list of numbers that came in. -/
set_option linter.unusedVariables false
namespace Go.Sh
open Go.Fw Go.RowKit Go.Proofs.Tryd Go.Deep Go.ChangeShapes Go.WideShapes

theorem und3' : prog.underlying 3 = some (.int .i64) := by kernel_rfl
theorem und57 : prog.underlying 57 = some (.slice 3) := by kernel_rfl
theorem cells3 : prog.cellsOf 3 = 1 := by kernel_rfl
theorem cells42 : prog.cellsOf 42 = 16 := by kernel_rfl
theorem cells5' : prog.cellsOf 5 = 1 := by kernel_rfl

theorem open_i64s_t {H : Type} {enc : TypeId × Value → H} {W : World} {x : DataW H × List MemPlace} {fuel : Nat} {cs : List Value} (hf : DataW.trod enc prog W 0 (fun _ => true) true fuel 57 cs = some x) :
    ∃ s xs, cs = [slV s] ∧ RdS .i64 W s xs := by
  rcases open_ints (k := .i64) und57 und3' cells3 hf with ⟨hcs, hy⟩ | ⟨a', len', cap', zs, hcs, hb', hl', hm', hz, hy, hcell, hwz⟩
  · exact ⟨nilS, [], hcs, ⟨rfl, Nat.le_refl _, .inl rfl⟩⟩
  · have hz : zs.length = cap' := by simpa using hz
    refine ⟨⟨some a', len', cap'⟩, zs.take len', hcs, ⟨by simp; omega, hl', .inr ⟨a', rfl, fun j v hv => ?_⟩⟩⟩
    have hj : j < len' ∧ j < zs.length := by
      have := (List.getElem?_eq_some_iff.1 hv).1
      simp at this; omega
    rw [hcell j hj.2]
    simp only [ints, List.getElem?_map, List.getElem?_take, if_pos hj.1] at hv
    rw [List.getElem?_eq_getElem hj.2] at hv
    rw [List.getD_eq_getElem?_getD, List.getElem?_eq_getElem hj.2]
    exact hv

theorem open_i64s {H : Type} {enc : TypeId × Value → H} {W : World} {d : DataW H} {p : List MemPlace} {a : Option Addr} {len cap : Nat} (h : DataW.Trod enc prog W 0 (fun _ => true) true 57 (.slice a len cap) d p) :
    ∃ xs, RdS .i64 W ⟨a, len, cap⟩ xs := by
  obtain ⟨fuel, hf⟩ := h
  obtain ⟨s, xs, hcs, hb⟩ := open_i64s_t hf
  simp [Value.cells, slV] at hcs
  obtain ⟨rfl, rfl, rfl⟩ := hcs
  exact ⟨xs, hb⟩

def numV (v : Value) : Int := match v with | .int _ n => n | _ => 0

theorem open_block_t {H : Type} {enc : TypeId × Value → H} {W : World} {x : DataW H × List MemPlace} {fuel : Nat} {cs : List Value} (hf : DataW.trod enc prog W 0 (fun _ => true) true fuel 42 cs = some x) :
    ∃ B, cs = ints .u8 B ∧ B16 B := by
  obtain ⟨xs, m, _, _, hcl, hxl, hall⟩ := DataW.trod_array und42 hf
  rw [cells42] at hcl
  have each : ∀ i, i < 16 → ∃ n, cs[i]? = some (.int .u8 n) ∧ InK .u8 n := fun i hi => by
    have h1 := hall i hi
    rw [cells5', Nat.mul_one] at h1
    rw [List.getElem?_eq_getElem (by omega)] at h1
    obtain ⟨n, e, _, hw⟩ := DataW.trod_int und5 h1
    refine ⟨n, ?_, wf_u8 hw⟩
    have := congrArg (fun l => l[0]?) e
    simp only [List.getElem?_take, List.getElem?_drop, Nat.add_zero] at this
    exact this
  refine ⟨cs.map numV, ?_, by rw [List.length_map, hcl], fun z hz => ?_⟩
  · apply List.ext_getElem?
    intro i
    unfold ints
    rw [List.map_map, List.getElem?_map]
    by_cases hi : i < 16
    · obtain ⟨n, e, _⟩ := each i hi
      rw [e]; rfl
    · rw [List.getElem?_eq_none (by omega)]; rfl
  · obtain ⟨v, hv, rfl⟩ := List.mem_map.1 hz
    obtain ⟨i, hi, rfl⟩ := List.getElem_of_mem hv
    obtain ⟨n, e, hn⟩ := each i (by omega)
    rw [List.getElem?_eq_getElem hi] at e
    rw [Option.some.inj e]; exact hn

set_option maxRecDepth 100000 in
theorem open_block {H : Type} {enc : TypeId × Value → H} {W : World} {d : DataW H} {p : List MemPlace} {v : Value} {base : Nat} (hv : Value.okWide prog W .any base 42 v) (h : DataW.Trod enc prog W 0 (fun _ => true) true 42 v d p) :
    ∃ B, v = .agg (ints .u8 B).toArray ∧ B16 B := by
  have hv2 : ∃ cs, v = .agg cs ∧ cs.size = prog.cellsOf 42 ∧ Row.okWide prog W .any base 42 cs := by
    simpa only [Value.okWide, und42] using hv
  obtain ⟨cs, rfl, _, _⟩ := hv2
  obtain ⟨fuel, hf⟩ := h
  obtain ⟨B, e, hB⟩ := open_block_t hf
  refine ⟨B, ?_, hB⟩
  congr 1
  apply Array.ext'
  exact e

end Go.Sh

/- Texts of this claim, put together: ThreeD, ThreeE, Walk, Script -/
import Derived.Test.YtgmdbhckccmhjaaDoorAllLawllkpba
import Derived.Deep.Slices
/- Three streams, or Macs: what is told. -/
set_option linter.unusedVariables false
namespace Go.Sh
open Go.Fw Go.Sha Go.RowKit Go.Proofs.Tryd Go.Deep

/-- steps that write blocks of no role that counts -/
theorem Inv.updG {w w' : World} {B : Nat} {ro ro' : Nat → Nat} {C S : List Int} {macs : Bool} {gt : Nat} {t : Th} {ke : List (Sl × List Int)} {we : List Sl} {X : Nat → Prop} (v : Inv w B ro C S macs gt t ke we) (u : Upd X w w') (hn : ∀ k, k < w.heap.size → X k → 7 + ke.length ≤ ro k) (hr : ∀ k, k < w.heap.size → ro' k = ro k) : Inv w' B ro' C S macs gt t ke we := by
  have hb4 := v.b4
  have hbw := v.bw
  refine ⟨v.T.upd u fun k hk e => by have := hn k (by omega) e; have := v.low k (by omega); omega, v.b4, Nat.le_trans v.bw u.size, fun k hk => by rw [hr k (by omega)]; exact v.low k hk, v.bk.upd u fun e => by have := hn _ v.gtlt.2 e; have := v.rt; omega, by rw [hr _ v.gtlt.2]; exact v.rt, fun i hi => (v.slots i hi).upd u (fun k hk h0 e => by have := hn k hk e; omega) hr (Int.le_refl _), v.left, v.kept.upd u fun k hk e => by have := hn k (v.kept.lt hk) e; have := v.rk k hk; omega, fun k hk => by rw [hr _ (v.kept.lt hk)]; exact v.rk k hk, v.was.upd u fun k hk e => by have := hn k (v.was.lt hk) e; have := v.rw_ k hk; omega, fun k hk => by rw [hr _ (v.was.lt hk)]; exact v.rw_ k hk, v.lens, v.few, fun j p s hp hs => ?_⟩
  obtain ⟨a1, a2, a3, a4⟩ := v.ks j p s hp hs
  have hj := (List.getElem?_eq_some_iff.1 hp).1
  exact ⟨a1.upd u fun k hk e => by have := hn k (a1.lt hk) e; have := a2 k hk; omega, fun k hk => by rw [hr _ (a1.lt hk)]; exact a2 k hk, a3, a4.upd u (fun k hk h0 e => by have := hn k hk e; omega) hr⟩

/-- what the document says one tells -/
def Want (w : World) (C S : List Int) (macs : Bool) (f : Fd) (zs : List Int) : Prop :=
  (f = Fd.none_ ∧ zs = []) ∨ ∃ ks xs, known f.hash = true ∧ f.keyed = macs ∧ (macs = true → Src w f.key (ints .u8 ks) ∧ (∀ x ∈ ks, InK .u8 x) ∧ ks.length ≤ 65536) ∧ Src w f.bytes (ints .u8 xs) ∧ (∀ x ∈ xs, InK .u8 x) ∧ xs.length ≤ 65536 ∧ zs = tellOf macs C S f.hash ks xs

theorem Want.upd0 {w w' : World} {C S : List Int} {macs : Bool} {f : Fd} {zs : List Int} (h : Want w C S macs f zs) (u : Upd none_ w w') : Want w' C S macs f zs := by
  rcases h with h | ⟨ks, xs, h1, h2, h3, h4, h5, h6, h7⟩
  · exact .inl h
  · exact .inr ⟨ks, xs, h1, h2, fun e => ⟨(h3 e).1.upd0 u, (h3 e).2⟩, h4.upd0 u, h5, h6, h7⟩

theorem tellOf_len (macs : Bool) (C S : List Int) (h : Int) (ks xs : List Int) : (tellOf macs C S h ks xs).length ≤ 64 := by
  cases macs
  · exact digestOf_len ..
  · exact macOf_len ..
theorem tellOf_in (macs : Bool) (C S : List Int) (h : Int) (ks xs : List Int) : ∀ x ∈ tellOf macs C S h ks xs, InK .u8 x := by
  cases macs
  · exact digestOf_in h C (firstH S h) xs
  · exact macOf_in C S h ks xs

theorem told_s0_ok {K : Nat} (hK : 18446744073709551616 ≤ K) {macs : Bool} {w : World} {gt : Nat} {t : Th} (b : Bk 117 w gt t.cells) {i : Nat} (hi : i < 3) {C S zs : List Int} (T : TabsR w C S) (hw : Want w C S macs (t.f i) zs) :
    ∃ s w', law01_three_told_s0 K (some ⟨gt, 0, none⟩) (i : Int) ⟨none, 0, 0⟩ ((t.f i).hash != 0) w = some ((s, ()), w') ∧ Own 5 w' s (ints .u8 zs) ∧ Upd none_ w w' ∧ Fresh w.heap.size s ∧ zs.length ≤ 64 ∧ ∀ x ∈ zs, InK .u8 x := by
  have bi : (0 : Int) ≤ (i : Int) ∧ (i : Int) < ((3 : Nat) : Int) := by omega
  have lA : ldA 4 ⟨gt, 6 + i * 4, none⟩ w = some (t.f i).cells.toArray := by
    have := b.ldA (i := 6 + i * 4) (n := 4) (by rw [Th.len]; omega)
    rw [t.get_f hi] at this; exact this
  unfold law01_three_told_s0
  simp only [add_lit, Nat.zero_add, Option.bind_some, if_pos bi, Int.toNat_natCast]
  rcases hw with ⟨hf, hz⟩ | ⟨ks, xs, h1, h2, h3, h4, h5, h6, h7⟩
  · rw [hf, hz, if_neg (by decide)]
    exact ⟨nilS, w, rfl, Own.nil .., Upd.refl _ _, (fun k hk => by cases hk), by decide, by simp⟩
  · have hne : ((t.f i).hash != 0) = true := by simp only [bne, known_ne0 h1]; rfl
    rw [hne, if_pos rfl, lA, Option.bind_some]
    generalize t.f i = f at h1 h2 h3 h4 h7
    obtain ⟨w1, n1, b1, u1, z1⟩ := newB_ok f.cells.toArray 114 w
    have l0 : ldI .i64 ⟨w.heap.size, 0, none⟩ w1 = some f.hash := b1.ldI rfl
    have l1 : ldB ⟨w.heap.size, 1, none⟩ w1 = some f.keyed := b1.ldB rfl
    have l2 : ldS ⟨w.heap.size, 2, none⟩ w1 = some f.key := b1.ldS rfl
    have l3 : ldS ⟨w.heap.size, 3, none⟩ w1 = some f.bytes := b1.ldS rfl
    unfold law01_Fed_sum
    rw [n1, bnd_ok]
    simp only [add_lit, Nat.zero_add]
    rw [l1, Option.bind_some, h2]
    cases macs with
    | true =>
      obtain ⟨hk1, hk2, hk3⟩ := h3 rfl
      obtain ⟨s, w2, j2, o2, u2, f2⟩ := refCode_ok hK f.hash (T.upd0 u1) (hk1.upd0 u1) hk2 (by omega) (h4.upd0 u1) h5 (by omega)
      have hz : codeOf C S f.hash ks xs = zs := by rw [h7]; unfold codeOf; rw [if_pos h1]; rfl
      rw [hz] at o2
      refine ⟨s, w2, ?_, o2, u1.and0 u2, fun k hk => by have := f2 k hk; omega, by rw [h7]; exact tellOf_len .., by rw [h7]; exact tellOf_in _ C S f.hash ks xs⟩
      rw [if_pos rfl, l0, Option.bind_some, l2, Option.bind_some, l3, Option.bind_some, j2, bnd_ok, bnd_ok]
    | false =>
      obtain ⟨s, w2, j2, o2, u2, f2⟩ := refSum_ok hK (h := f.hash) (T.upd0 u1) (h4.upd0 u1) h5 (by omega)
      have hz : sumOf C S f.hash xs = zs := by rw [h7]; unfold sumOf; rw [if_pos h1]; rfl
      rw [hz] at o2
      refine ⟨s, w2, ?_, o2, u1.and0 u2, fun k hk => by have := f2 k hk; omega, by rw [h7]; exact tellOf_len .., by rw [h7]; exact tellOf_in _ C S f.hash ks xs⟩
      rw [if_neg (by decide), l0, Option.bind_some, l3, Option.bind_some, j2, bnd_ok, bnd_ok]

theorem snoc_get {α : Type} {l : List α} {a p : α} {j : Nat} (h : (l ++ [a])[j]? = some p) : l[j]? = some p ∨ (j = l.length ∧ p = a) := by
  rw [List.getElem?_append] at h
  split at h
  · exact .inl h
  · rename_i hn
    have hj : j - l.length = 0 := by
      rcases Nat.eq_zero_or_pos (j - l.length) with e | e
      · exact e
      · rw [List.getElem?_eq_none (by simp; omega)] at h; cases h
    rw [hj] at h
    exact .inr ⟨by omega, (Option.some.inj h).symm⟩

theorem told_ok {K : Nat} (hK : 18446744073709551616 ≤ K) {w : World} {B : Nat} {ro : Nat → Nat} {C S : List Int} {macs : Bool} {gt : Nat} {t : Th} {ke : List (Sl × List Int)} {we : List Sl} (v : Inv w B ro C S macs gt t ke we) {i : Nat} (hi : i < 3) (hkl : ke.length < 1000)
    {a : Sl} {zs : List Int} (hv : Vw 5 w a (ints .u8 zs)) (ha : ∀ k, a.blk = some k → ro k = 7 + ke.length) (hw : Want w C S macs (t.f i) zs) (spoil : Bool) :
    Good B C S macs gt (ke.length + 1) w (law01_three_told K (some ⟨gt, 0, none⟩) (i : Int) a spoil w) := by
  have bi : (0 : Int) ≤ (i : Int) ∧ (i : Int) < ((3 : Nat) : Int) := by omega
  have hbw := v.bw
  have hb4 := v.b4
  have lh : ldI .i64 ⟨gt, 6 + i * 4, none⟩ w = some (t.f i).hash := v.bk.ldI (Th.get_hash _ hi)
  obtain ⟨want, w1, j1, o1, u1, f1, z1, in1⟩ := told_s0_ok hK v.bk hi v.T hw
  obtain ⟨w2, j2, u2⟩ := SameBytes_ok hK (hv.upd0 u1).rd o1.rd (by omega)
  rw [decide_eq_true rfl] at j2
  have q2 := u1.and0 u2
  have v2 := v.upd0 q2
  unfold law01_three_told
  simp only [add_lit, Nat.zero_add, Nat.add_zero, Option.bind_some, if_pos bi, Int.toNat_natCast]
  rw [lh, Option.bind_some, j1, bnd_ok]
  dsimp only
  rw [j2, bnd_ok]
  dsimp only
  rw [if_neg (by decide)]
  cases spoil with
  | true =>
    obtain ⟨w3, j3, u3⟩ := SpoilBytes_ok hK (hv.upd0 q2) (by omega)
    rw [if_pos rfl, j3, bnd_ok]
    have uT : Upd (fun k => a.blk = some k) w w3 := (q2.mono (T := fun k => a.blk = some k) fun _ _ e => e.elim).trans' u3 fun _ _ e => e
    exact v.good uT (fun k hk e => by have := ha k e; omega) rfl (v.updG uT (fun k hk e => by have := ha k e; omega) (ro' := ro) fun _ _ => rfl) (by omega)
  | false =>
    rw [if_neg (by decide)]
    have hkeep : t.kept.len = ke.length := by rw [v.kept.len]; simp
    have hwas : t.was.len = we.length := by rw [v.was.len]; simp
    have hlens := v.lens
    have l18 : ldS ⟨gt, 18, none⟩ w2 = some t.kept := v2.bk.ldS rfl
    obtain ⟨w3, j3, o3, u3, z3⟩ := bldS1_ok sliceSS (.slice a.a a.len a.cap) rfl w2
    obtain ⟨s', w4, j4, l4, o4, u4, c4⟩ := apd_ok sliceSS (v2.kept.upd0 u3) (o3.src (by simp [Value.oneCell'])) (by show (t.kept.len + 1) * 24 ≤ _; omega)
    have hs1 := u1.size
    have hs2 := u2.size
    have hs3 := u3.size
    have hs4 := u4.size
    have hkb : ∀ k, t.kept.blk = some k → k < w.heap.size ∧ ro k = 2 := fun k hk => ⟨v.kept.lt hk, v.rk k hk⟩
    have hwb : ∀ k, t.was.blk = some k → k < w.heap.size ∧ ro k = 3 := fun k hk => ⟨v.was.lt hk, v.rw_ k hk⟩
    have hs'b : ∀ k, s'.blk = some k → (t.kept.blk = some k ∨ k = w3.heap.size) ∧ k < w4.heap.size := fun k hk => by
      refine ⟨?_, o4.lt hk⟩
      rcases c4 with e | e
      · exact .inl (e ▸ hk)
      · rw [e] at hk; exact .inr (Option.some.inj hk).symm
    have hgt := v.gtlt
    have hrt := v.rt
    have b4 : Bk 117 w4 gt t.cells := (v2.bk.upd0 u3).upd u4 fun e => by have := hkb _ e; omega
    obtain ⟨w5, j5, b5, u5⟩ := b4.stC (i := 18) (by rw [Th.len]; decide) (.slice s'.a s'.len s'.cap)
    have b5 : Bk 117 w5 gt { t with kept := s' }.cells := b5
    have l19 : ldS ⟨gt, 19, none⟩ w5 = some t.was := b5.ldS rfl
    have hs5 := u5.size
    obtain ⟨w6, j6, o6, u6, z6⟩ := bldS1_ok sliceSS (.slice want.a want.len want.cap) rfl w5
    have was5 : Own 25 w5 t.was (we.map slV) := (((v2.was.upd0 u3).upd u4 fun k hk e => by have := hwb k hk; have := hkb k e; omega).upd u5 fun k hk e => by have := hwb k hk; subst e; omega)
    obtain ⟨s'', w7, j7, l7, o7, u7, c7⟩ := apd_ok sliceSS (was5.upd0 u6) (o6.src (by simp [Value.oneCell'])) (by show (t.was.len + 1) * 24 ≤ _; omega)
    have hs6 := u6.size
    have hs7 := u7.size
    have hs''b : ∀ k, s''.blk = some k → (t.was.blk = some k ∨ k = w6.heap.size) ∧ k < w7.heap.size := fun k hk => by
      refine ⟨?_, o7.lt hk⟩
      rcases c7 with e | e
      · exact .inl (e ▸ hk)
      · rw [e] at hk; exact .inr (Option.some.inj hk).symm
    have b7 : Bk 117 w7 gt { t with kept := s' }.cells := (b5.upd0 u6).upd u7 fun e => by have := hwb _ e; omega
    obtain ⟨w8, j8, b8, u8⟩ := b7.stC (i := 19) (by rw [Th.len]; decide) (.slice s''.a s''.len s''.cap)
    have b8 : Bk 117 w8 gt { t with kept := s', was := s'' }.cells := b8
    have uT : Upd (fun k => k = gt ∨ t.kept.blk = some k ∨ t.was.blk = some k) w w8 := by
      have x3 : Upd (fun k => k = gt ∨ t.kept.blk = some k ∨ t.was.blk = some k) w w3 := (q2.and0 u3).mono fun _ _ e => e.elim
      have x4 := x3.trans' u4 fun k _ e => .inr (.inl e)
      have x5 := x4.trans' u5 fun k _ e => .inl e
      have x7 := (x5.and0 u6).trans' u7 fun k _ e => .inr (.inr e)
      exact x7.trans' u8 fun k _ e => .inl e
    have hX : ∀ k, k < w.heap.size → (k = gt ∨ t.kept.blk = some k ∨ t.was.blk = some k) → ro k = 1 ∨ ro k = 2 ∨ ro k = 3 := fun k _ e => by
      rcases e with e | e | e
      · subst e; exact .inl hrt
      · exact .inr (.inl (hkb k e).2)
      · exact .inr (.inr (hwb k e).2)
    have hk8 : Own 25 w8 s' ((ke ++ [(a, zs)]).map fun p => slV p.1) := by
      rw [List.map_append]
      refine ((((show Own 25 w4 s' _ from o4).upd u5 fun k hk e => ?_).upd0 u6).upd u7 fun k hk e => ?_).upd u8 fun k hk e => ?_
      · obtain ⟨x | x, y⟩ := hs'b k hk
        · have := hkb k x; subst e; omega
        · omega
      · have := hwb k e
        obtain ⟨x | x, y⟩ := hs'b k hk
        · have := hkb k x; omega
        · omega
      · obtain ⟨x | x, y⟩ := hs'b k hk
        · have := hkb k x; subst e; omega
        · omega
    have hw8 : Own 25 w8 s'' ((we ++ [want]).map slV) := by
      rw [List.map_append]
      refine (show Own 25 w7 s'' _ from o7).upd u8 fun k hk e => ?_
      obtain ⟨x | x, y⟩ := hs''b k hk
      · have := hwb k x; subst e; omega
      · omega
    let ro' := ext w.heap.size ro fun k => if s'.blk = some k then 2 else if s''.blk = some k then 3 else 0
    have hro : ∀ k, k < w.heap.size → ro' k = ro k := fun k hk => ext_lt hk
    have own8 : Own 5 w8 want (ints .u8 zs) := by
      have hf := f1
      refine ((((((o1.upd0 u2).upd0 u3).upd u4 fun k hk e => ?_).upd u5 fun k hk e => ?_).upd0 u6).upd u7 fun k hk e => ?_).upd u8 fun k hk e => ?_
      · have := hf k hk; have := hkb k e; omega
      · have := hf k hk; omega
      · have := hf k hk; have := hwb k e; omega
      · have := hf k hk; omega
    have vNew : Inv w8 B ro' C S macs gt { t with kept := s', was := s'' } (ke ++ [(a, zs)]) (we ++ [want]) := by
      refine ⟨v.T.upd uT fun k hk e => by have := hX k (by omega) e; have := v.low k (by omega); omega, v.b4, Nat.le_trans v.bw uT.size, fun k hk => by rw [hro k (by omega)]; exact v.low k hk, b8, by rw [hro _ hgt.2]; exact hrt, fun j hj => (v.slots j hj).upd uT (fun k hk h0 e => by have := hX k hk e; omega) hro (Int.le_refl _), v.left, hk8, fun k hk => ?_, hw8, fun k hk => ?_, by simp [hlens], by rw [List.length_append, List.length_singleton]; omega, fun j p s hp hs => ?_⟩
      · obtain ⟨x | x, y⟩ := hs'b k hk
        · rw [hro k (hkb k x).1]; exact (hkb k x).2
        · show ext _ _ _ k = 2
          rw [ext_ge (by omega), if_pos hk]
      · obtain ⟨x | x, y⟩ := hs''b k hk
        · rw [hro k (hwb k x).1]; exact (hwb k x).2
        · show ext _ _ _ k = 3
          rw [ext_ge (by omega), if_neg (fun e => by obtain ⟨x2 | x2, y2⟩ := hs'b k e; · have := hkb k x2; omega
                                                     · omega), if_pos hk]
      · rcases snoc_get hp with hp | ⟨hj, hp⟩
        · rcases snoc_get hs with hs | ⟨hj', hs⟩
          · obtain ⟨a1, a2, a3, a4⟩ := v.ks j p s hp hs
            exact ⟨a1.upd uT fun k hk e => by have := hX k (a1.lt hk) e; have := a2 k hk; omega, fun k hk => by rw [hro _ (a1.lt hk)]; exact a2 k hk, a3, a4.upd uT (fun k hk h0 e => by have := hX k hk e; omega) hro⟩
          · have := (List.getElem?_eq_some_iff.1 hp).1; omega
        · rcases snoc_get hs with hs | ⟨hj', hs⟩
          · have := (List.getElem?_eq_some_iff.1 hs).1; omega
          · subst hp hs
            refine ⟨hv.upd uT fun k hk e => by have := hX k (hv.lt hk) e; have := ha k hk; omega, fun k hk => by rw [hro _ (hv.lt hk), hj]; exact ha k hk, z1, own8.src ints_one, in1, fun q hq _ => ?_⟩
            have hqb : s.blk = some q.block := by simp [Sl.blk, hq]
            have h1 := f1 _ hqb
            have h2 := o1.lt hqb
            show ext _ _ _ q.block = 0
            rw [ext_ge h1, if_neg (fun e => by obtain ⟨x2 | x2, y2⟩ := hs'b _ e; · have := hkb _ x2; omega
                                               · omega), if_neg (fun e => by obtain ⟨x2 | x2, y2⟩ := hs''b _ e; · have := hwb _ x2; omega
                                                                             · omega)]
    rw [l18, Option.bind_some, j3, bnd_ok]
    dsimp only
    rw [j4, bnd_ok, j5, Option.bind_some, l19, Option.bind_some, j6, bnd_ok]
    dsimp only
    rw [j7, bnd_ok, j8, Option.bind_some]
    exact v.good uT (fun k hk e => by have := hX k hk e; omega) rfl vNew (by simp)

/-! ### a sum is told -/
noncomputable def sumR (macs : Bool) (K : Nat) (p : Option Addr) (w : World) : Option ((Sl × Unit) × World) := if macs = true then digest_Mac_Sum K p w else digest_Stream_Sum K p w

theorem tell_ok {K : Nat} (hK : 18446744073709551616 ≤ K) {w : World} {B : Nat} {ro : Nat → Nat} {C S : List Int} {macs : Bool} {gt : Nat} {t : Th} {ke : List (Sl × List Int)} {we : List Sl} (v : Inv w B ro C S macs gt t ke we) {i : Nat} (hi : i < 3) (hkl : ke.length < 1000) (spoil : Bool) :
    ∃ a w1, sumR macs K (sel macs t i) w = some ((a, ()), w1) ∧ Good B C S macs gt (ke.length + 1) w (law01_three_told K (some ⟨gt, 0, none⟩) (i : Int) a spoil w1) := by
  rcases v.slots i hi with ⟨hp0, hf0⟩ | ⟨g, ks, xs, e1, e2, e3, e5, e6, e7, e8, e9⟩
  · have hp0 : sel macs t i = none := hp0
    refine ⟨nilS, w, ?_, told_ok hK v hi hkl (Vw.nil ..) (fun k hk => by cases hk) (.inl ⟨hf0, rfl⟩) spoil⟩
    rw [hp0]
    cases macs <;> rfl
  · have e1 : sel macs t i = some ⟨g, 0, none⟩ := e1
    have hlf := v.left
    obtain ⟨a, w1, j1, A1, u1⟩ : ∃ a w1, sumR macs K (sel macs t i) w = some ((a, ()), w1) ∧ Ans w.heap.size w1 a (tellOf macs C S (t.f i).hash ks xs) ∧ Upd none_ w w1 := by
      rw [e1]
      cases macs with
      | true => exact MacSum_ok hK e3 v.T.to e5 (by omega)
      | false => exact strm_sum hK e3 v.T.to e5 (by omega)
    refine ⟨a, w1, j1, ?_⟩
    have v1 : Inv w1 B (ext w.heap.size ro fun _ => 7 + ke.length) C S macs gt t ke we := v.updG u1 (fun _ _ => False.elim) fun k hk => ext_lt hk
    have hfr := A1.fresh
    refine (told_ok hK v1 hi hkl (A1.vw (by have := tellOf_len macs C S (t.f i).hash ks xs; omega)) (fun k hk => ext_ge (hfr k hk)) (.inr ⟨ks, xs, e3, e6, fun e => ⟨(e7 e).1.src.upd0 u1, (e7 e).1.inn, (e7 e).2⟩, e8.src.upd0 u1, e8.inn, by omega, rfl⟩) spoil).pre (u1.below v.bw fun _ _ => id)

end Go.Sh

/- Three streams, or Macs: copies, what is asked, a step. -/
set_option linter.unusedVariables false
namespace Go.Sh
open Go.Fw Go.Sha Go.RowKit Go.Proofs.Tryd Go.Deep

/-! ### copy -/
theorem copy_s1 {K : Nat} {macs : Bool} {w : World} {B : Nat} {ro : Nat → Nat} {C S : List Int} {gt : Nat} {t : Th} {ke : List (Sl × List Int)} {we : List Sl} (v : Inv w B ro C S macs gt t ke we) {i j : Nat} (hi : i < 3) (hj : j < 3) :
    ∃ p w' ro', law01_three_plays_s1 K (some ⟨gt, 0, none⟩) (i : Int) (j : Int) macs w = some ((), w') ∧ Bk 117 w' gt (t.put macs i p (t.f i) t.left).cells ∧ Upd (· = gt) w w' ∧ (∀ k, k < w.heap.size → ro' k = ro k) ∧ Slot w' ro' C S macs i p (t.f j) t.left ∧ (p.isNone = ((t.f j).hash == 0)) := by
  have bi : (0 : Int) ≤ (i : Int) ∧ (i : Int) < ((3 : Nat) : Int) := by omega
  have bj : (0 : Int) ≤ (j : Int) ∧ (j : Int) < ((3 : Nat) : Int) := by omega
  have hgt := v.gtlt
  have hrt := v.rt
  unfold law01_three_plays_s1
  simp only [add_lit, Nat.zero_add, Option.bind_some, if_pos bi, if_pos bj, Int.toNat_natCast, Nat.mul_one, Nat.add_zero]
  -- the pointer is put
  have stp : ∀ (w1 : World) (p : Option Addr), Bk 117 w1 gt t.cells → ∃ w2, stC ⟨gt, (if macs = true then 3 + i else i), none⟩ (.pointer p) w1 = some w2 ∧ Bk 117 w2 gt (t.put macs i p (t.f i) t.left).cells ∧ Upd (· = gt) w1 w2 := fun w1 p b => by
    obtain ⟨w2, j2, b2, u2⟩ := b.stC (i := if macs = true then 3 + i else i) (by rw [Th.len]; split <;> omega) (.pointer p)
    refine ⟨w2, j2, ?_, u2⟩
    cases macs with
    | true =>
      have b2 : Bk 117 w2 gt (t.cells.set (3 + i) (.pointer p)) := b2
      rw [t.set_m hi] at b2
      have e : t.put true i p (t.f i) t.left = { t with m := upd3 t.m i p } := by
        show Th.mk t.s (upd3 t.m i p) (upd3 t.f i (t.f i)) _ _ _ = _
        rw [upd3_self]
      rw [e]; exact b2
    | false =>
      have b2 : Bk 117 w2 gt (t.cells.set i (.pointer p)) := b2
      rw [t.set_s hi] at b2
      have e : t.put false i p (t.f i) t.left = { t with s := upd3 t.s i p } := by
        show Th.mk (upd3 t.s i p) t.m (upd3 t.f i (t.f i)) _ _ _ = _
        rw [upd3_self]
      rw [e]; exact b2
  have bd : Bk 117 w.drew gt t.cells := v.bk.drew
  rcases v.slots j hj with ⟨hp0, hf0⟩ | ⟨g, ks, xs, e1, e2, e3, e5, e6, e7, e8, e9⟩
  · have hp0 : sel macs t j = none := hp0
    obtain ⟨w2, j2, b2, u2⟩ := stp w.drew none bd
    refine ⟨none, w2, ro, ?_, b2, u2.predrew, fun _ _ => rfl, .inl ⟨rfl, hf0⟩, by rw [hf0]; rfl⟩
    cases macs with
    | true =>
      have j2 : stC ⟨gt, 3 + i, none⟩ (.pointer none) w.drew = _ := j2
      rw [if_pos rfl, ldP_m bd hj, hp0, Option.bind_some]
      unfold digest_Mac_Copy
      rw [if_pos (show (none : Option Addr).isNone = true from rfl), bnd_ok, j2, Option.bind_some]
    | false =>
      have j2 : stC ⟨gt, i, none⟩ (.pointer none) w.drew = _ := j2
      rw [if_neg (by decide), ldP_s bd hj, hp0, Option.bind_some]
      unfold digest_Stream_Copy
      rw [if_pos (show (none : Option Addr).isNone = true from rfl), bnd_ok, j2, Option.bind_some]
  · have e1 : sel macs t j = some ⟨g, 0, none⟩ := e1
    have hd : Upd none_ w w.drew := (Upd.refl none_ w).drew
    obtain ⟨w1, g', j1, m1, hg', u1⟩ : ∃ w1 g', (if macs = true then digest_Mac_Copy (some ⟨g, 0, none⟩) w.drew else digest_Stream_Copy (some ⟨g, 0, none⟩) w.drew) = some ((some ⟨g', 0, none⟩, ()), w1) ∧ ObjAt macs w1 g' C S (t.f j).hash ks xs ∧ g' = w.drew.heap.size ∧ Upd none_ w.drew w1 := by
      cases macs with
      | true => exact mac_copy (e5.upd hd id)
      | false => exact strm_copy (e5.upd hd id)
    have hg' : g' = w.heap.size := hg'
    obtain ⟨w2, j2, b2, u2⟩ := stp w1 (some ⟨g', 0, none⟩) (bd.upd0 u1)
    have uT : Upd (· = gt) w w2 := ((hd.and0 u1).mono (T := (· = gt)) fun _ _ e => e.elim).trans' u2 fun _ _ e => e
    have hX : ∀ k, k < w.heap.size → k = gt → ro k = 1 := fun k _ e => by rw [e]; exact hrt
    refine ⟨some ⟨g', 0, none⟩, w2, ext w.heap.size ro fun _ => 4 + i, ?_, b2, uT, fun k hk => ext_lt hk, .inr ⟨g', ks, xs, rfl, ext_ge (by omega), e3, m1.upd u2 (by omega), e6, fun e => ⟨(e7 e).1.upd uT (fun k hk h0 e => by have := hX k hk e; omega) (fun k hk => ext_lt hk), (e7 e).2⟩, e8.upd uT (fun k hk h0 e => by have := hX k hk e; omega) (fun k hk => ext_lt hk), e9⟩, by rw [known_ne0 e3]; rfl⟩
    cases macs with
    | true =>
      have j2 : stC ⟨gt, 3 + i, none⟩ (.pointer (some ⟨g', 0, none⟩)) w1 = _ := j2
      have j1 : digest_Mac_Copy (some ⟨g, 0, none⟩) w.drew = _ := j1
      rw [if_pos rfl, ldP_m bd hj, e1, Option.bind_some, j1, bnd_ok, j2, Option.bind_some]
    | false =>
      have j2 : stC ⟨gt, i, none⟩ (.pointer (some ⟨g', 0, none⟩)) w1 = _ := j2
      have j1 : digest_Stream_Copy (some ⟨g, 0, none⟩) w.drew = _ := j1
      rw [if_neg (by decide), ldP_s bd hj, e1, Option.bind_some, j1, bnd_ok, j2, Option.bind_some]

/-! ### what is asked -/
theorem z114_len : z114.toList.length = 4 := rfl

theorem asks_ok {w : World} {B : Nat} {ro : Nat → Nat} {C S : List Int} {gt : Nat} {t : Th} {ke : List (Sl × List Int)} {we : List Sl} (v : Inv w B ro C S false gt t ke we) {i : Nat} (hi : i < 3) :
    ∃ w', law01_three_asks (some ⟨gt, 0, none⟩) (i : Int) w = some ((true, ()), w') ∧ Upd none_ w w' := by
  have bi : (0 : Int) ≤ (i : Int) ∧ (i : Int) < ((3 : Nat) : Int) := by omega
  have lA : ldA 4 ⟨gt, 6 + i * 4, none⟩ w = some (t.f i).cells.toArray := by
    have := v.bk.ldA (i := 6 + i * 4) (n := 4) (by rw [Th.len]; omega)
    rw [t.get_f hi] at this; exact this
  unfold law01_three_asks
  simp only [add_lit, Nat.zero_add, Nat.add_zero, Option.bind_some, if_pos bi, Int.toNat_natCast, Nat.mul_one]
  rw [ldP_s v.bk hi, Option.bind_some, lA, Option.bind_some]
  obtain ⟨w1, n1, b1, u1, z1⟩ := newB_ok z114 114 w
  obtain ⟨w2, j2, b2, u2⟩ := b1.stA (o := 0) (vs := (t.f i).cells.toArray) (by show 0 + 4 ≤ z114.toList.length; rw [z114_len]; exact Nat.le_refl 4) (t.f i).one
  have b2 : Bk 114 w2 w.heap.size (t.f i).cells := by
    have e : seg z114.toList 0 (t.f i).cells = (t.f i).cells := seg_all rfl
    rw [show (t.f i).cells.toArray.toList = (t.f i).cells from rfl, e] at b2; exact b2
  have b2 := b2.drew
  have uT : Upd none_ w w2.drew := (u1.trans' u2 (S := none_) fun k hk e => by omega).drew
  have l0 : ldI .i64 ⟨w.heap.size, 0, none⟩ w2.drew = some (t.f i).hash := b2.ldI rfl
  have l3 : ldS ⟨w.heap.size, 3, none⟩ w2.drew = some (t.f i).bytes := b2.ldS rfl
  refine ⟨w2.drew, ?_, uT⟩
  rw [n1, bnd_ok, if_pos (by rfl), j2, Option.bind_some]
  simp only [add_lit, Nat.zero_add]
  rw [l0]
  simp only [Option.bind_some, refSize_ok, refBlock_ok]
  rw [l3]
  simp only [Option.bind_some]
  rcases v.slots i hi with ⟨hp0, hf0⟩ | ⟨g, ks, xs, e1, e2, e3, e5, e6, e7, e8, e9⟩
  · have hp0 : sel false t i = none := hp0
    rw [hp0, hf0]
    rfl
  · have e1 : sel false t i = some ⟨g, 0, none⟩ := e1
    rw [e1]
    obtain ⟨k1, k2, k3, k4⟩ := strm_ask e3 (StrmAt.upd e5 uT id)
    have hbl : (t.f i).bytes.len = xs.length := by rw [e8.src.len, ints_length]
    have hbO : blockOfH (t.f i).hash = ((blk (t.f i).hash : Nat) : Int) := by rcases known_cases e3 with e | e | e | e <;> rw [e] <;> rfl
    have hlf := v.left
    have ew : IntKind.u64.wrap (((t.f i).bytes.len : Nat) : Int) = ((xs.length : Nat) : Int) := by rw [hbl]; exact wrap_nat rfl _ (by show xs.length < 2 ^ 64; omega)
    rw [k1, Option.bind_some]
    dsimp only
    rw [if_pos (by simp), k2, Option.bind_some]
    dsimp only
    rw [if_pos (by simp), k3, Option.bind_some]
    dsimp only
    rw [hbO, if_pos (by simp), k4, Option.bind_some]
    dsimp only
    rw [ew]
    simp

/-- a step -/
theorem plays_ok {K : Nat} (hK : 18446744073709551616 ≤ K) {w : World} {B : Nat} {ro : Nat → Nat} {C S : List Int} {macs : Bool} {gt : Nat} {t : Th} {ke : List (Sl × List Int)} {we : List Sl} (v : Inv w B ro C S macs gt t ke we) (hkl : ke.length < 999)
    {kind at_ fr h : Int} {key parts : Sl} {ks : List Int} (dk : Src w key (ints .u8 ks)) (hin : ∀ x ∈ ks, InK .u8 x) (hkb : ∀ q, key.a = some q → ks ≠ [] → q.block < B) {xss : List (List Int)} {Q : Nat → Prop} (hp : PartsW w parts xss Q) (hQ : ∀ k, Q k → k < B) :
    Good B C S macs gt (ke.length + 2) w (law01_three_plays K (some ⟨gt, 0, none⟩) (opC kind at_ fr h key parts) macs w) := by
  obtain ⟨w1, n1, b1, u1, z1⟩ := newB_ok (opC kind at_ fr h key parts) 120 w
  have v1 := v.upd0 u1
  have l0 : ldI .i64 ⟨w.heap.size, 0, none⟩ w1 = some kind := b1.ldI rfl
  have l1 : ldI .i64 ⟨w.heap.size, 1, none⟩ w1 = some at_ := b1.ldI rfl
  have l2 : ldI .i64 ⟨w.heap.size, 2, none⟩ w1 = some fr := b1.ldI rfl
  have lA : ldA 6 ⟨w.heap.size, 0, none⟩ w1 = some (opC kind at_ fr h key parts) := by
    have := b1.ldA (i := 0) (n := 6) (by show 0 + 6 ≤ 6; omega)
    exact this
  obtain ⟨i, hi, p1⟩ := place_ok at_
  obtain ⟨j, hj, p2⟩ := place_ok fr
  have bi : (0 : Int) ≤ (i : Int) ∧ (i : Int) < ((3 : Nat) : Int) := by omega
  have bj : (0 : Int) ≤ (j : Int) ∧ (j : Int) < ((3 : Nat) : Int) := by omega
  refine Good.pre (w := w1) ?_ (u1.below v.bw fun _ _ => id)
  unfold law01_three_plays
  rw [n1, bnd_ok]
  simp only [add_lit, Nat.zero_add, Nat.add_zero]
  rw [l1, Option.bind_some, p1, Option.bind_some, l2, Option.bind_some, p2, Option.bind_some, l0, Option.bind_some]
  have same : ∀ r, r = some ((true, ()), w1) → Good B C S macs gt (ke.length + 2) w1 r := fun r e => v1.good (Upd.refl none_ w1) (fun _ _ => False.elim) e v1 (by omega)
  simp only [Option.bind_some, if_pos bi, if_pos bj, Int.toNat_natCast, Nat.mul_one, add_lit, Nat.zero_add, Nat.add_zero]
  by_cases c1 : kind = 1
  · rw [if_pos (by rw [c1]; rfl), lA]
    simp only [Option.bind_some]
    cases macs with
    | true =>
      rw [if_pos rfl]
      have d1 : Data w1 ro key ks := ⟨dk.upd0 u1, hin, fun q hq hne => v.low _ (hkb q hq hne)⟩
      obtain ⟨w', ro', t', ke', we', h1, h2, h3, h4⟩ := keyed_ok hK v1 hi (kind := kind) (at_ := at_) (fr := fr) (h := h) (parts := parts) d1
      exact ⟨w', ro', t', ke', we', by rw [h1]; rfl, h2, h3, by omega⟩
    | false =>
      rw [if_neg (by decide)]
      obtain ⟨w', ro', t', ke', we', h1, h2, h3, h4⟩ := begun_ok hK v1 hi (kind := kind) (at_ := at_) (fr := fr) (h := h) (key := key) (parts := parts)
      exact ⟨w', ro', t', ke', we', by rw [h1]; rfl, h2, h3, by omega⟩
  rw [if_neg (by simpa using c1)]
  by_cases c2 : kind = 2
  · rw [if_pos (by rw [c2]; rfl), lA, Option.bind_some]
    obtain ⟨w', ro', t', ke', we', h1, h2, h3, h4⟩ := writes_ok hK v1 hi (kind := kind) (at_ := at_) (fr := fr) (h := h) (key := key) (hp.upd0 u1) hQ
    exact ⟨w', ro', t', ke', we', by rw [h1]; rfl, h2, h3, by omega⟩
  rw [if_neg (by simpa using c2)]
  by_cases c3 : kind = 3
  · rw [if_pos (by rw [c3]; rfl)]
    obtain ⟨a, w2, s1, w3, ro3, t3, ke3, we3, g1, g2, g3, g4⟩ := tell_ok hK v1 hi (by omega) false
    obtain ⟨b, w4, s2, w5, ro5, t5, ke5, we5, h1, h2, h3, h4⟩ := tell_ok hK g2 hi (by omega) true
    refine ⟨w5, ro5, t5, ke5, we5, ?_, h2, g3.trans h3, by omega⟩
    cases macs with
    | true =>
      have s1 : digest_Mac_Sum K (sel true t i) w1 = _ := s1
      have s2 : digest_Mac_Sum K (sel true t3 i) w3 = _ := s2
      rw [if_pos rfl]
      unfold law01_three_plays_s0
      simp only [add_lit, Nat.zero_add, Nat.add_zero, Option.bind_some, if_pos bi, Int.toNat_natCast, Nat.mul_one]
      rw [ldP_m v1.bk hi, Option.bind_some, s1, bnd_ok, g1, bnd_ok]
      dsimp only
      rw [if_pos rfl, ldP_m g2.bk hi, Option.bind_some, s2, bnd_ok, h1, bnd_ok, bnd_ok]
    | false =>
      have s1 : digest_Stream_Sum K (sel false t i) w1 = _ := s1
      have s2 : digest_Stream_Sum K (sel false t3 i) w3 = _ := s2
      rw [if_neg (by decide)]
      rw [ldP_s v1.bk hi, Option.bind_some, s1, bnd_ok, g1, bnd_ok]
      dsimp only
      rw [if_pos rfl, ldP_s g2.bk hi, Option.bind_some, s2, bnd_ok, h1, bnd_ok]
  rw [if_neg (by simpa using c3)]
  by_cases c4 : kind = 4
  · rw [if_pos (by rw [c4]; rfl)]
    obtain ⟨w', ro', t', ke', we', h1, h2, h3, h4⟩ := reset_ok hK v1 hi
    exact ⟨w', ro', t', ke', we', by rw [h1]; rfl, h2, h3, by omega⟩
  rw [if_neg (by simpa using c4)]
  by_cases c5 : kind = 5
  · rw [if_pos (by rw [c5]; rfl)]
    obtain ⟨p, w2, ro2, j2, b2, u2, hr2, hs2, hn2⟩ := copy_s1 (K := K) v1 hi hj
    have b2d := b2.drew
    have lF : ldA 4 ⟨gt, 6 + j * 4, none⟩ w2.drew = some (t.f j).cells.toArray := by
      have := b2d.ldA (i := 6 + j * 4) (n := 4) (by rw [Th.len]; omega)
      rw [Th.get_f _ hj] at this
      have e : (t.put macs i p (t.f i) t.left).f = t.f := upd3_self t.f i
      rw [e] at this
      exact this
    obtain ⟨w3, j3, b3, u3⟩ := b2d.stA (o := 6 + i * 4) (vs := (t.f j).cells.toArray) (by rw [Th.len]; show 6 + i * 4 + 4 ≤ 21; omega) (Fd.one _)
    rw [show (t.f j).cells.toArray.toList = (t.f j).cells from rfl, Th.set_f _ hi] at b3
    have b3 : Bk 117 w3 gt (t.put macs i p (t.f j) t.left).cells := by
      have e : upd3 (upd3 t.f i (t.f i)) i (t.f j) = upd3 t.f i (t.f j) := upd3_upd3 ..
      have b3 : Bk 117 w3 gt (Th.cells { t.put macs i p (t.f i) t.left with f := upd3 (upd3 t.f i (t.f i)) i (t.f j) }) := b3
      rw [e] at b3; exact b3
    have hX : ∀ k, k < w1.heap.size → k = gt → ro k = 1 := fun k _ e => by rw [e]; exact v.rt
    have u3 : Upd (· = gt) w2 w3 := u3.predrew
    have uT : Upd (· = gt) w1 w3.drew := (u2.trans' u3 fun _ _ e => e).drew
    have hgt := v1.gtlt
    have hs3 : Slot w3.drew ro2 C S macs i p (t.f j) t.left := hs2.upd u3.drew (fun k hk h0 e => by subst e; have := hr2 _ hgt.2; have := v.rt; omega) (fun _ _ => rfl) (Int.le_refl _)
    have vN := v1.put hi uT (fun k hk e => .inl (hX k hk e)) hr2 b3.drew hs3 ⟨v.left.1, Int.le_refl _⟩
    have hsz : ((t.f j).cells.toArray).size = 4 := rfl
    have lh : ldI .i64 ⟨gt, 6 + i * 4, none⟩ w3.drew = some (t.f j).hash := by
      rw [b3.drew.ldI (Th.get_hash _ hi)]
      show some (upd3 t.f i (t.f j) i).hash = _
      rw [upd3_same]
    refine v1.good uT (fun k hk e => by rw [hX k hk e]; decide) ?_ vN (by omega)
    have hse : sel macs (t.put macs i p (t.f j) t.left) i = p := sel_put ..
    rw [j2, bnd_ok, lF, Option.bind_some, if_pos hsz, j3, Option.bind_some]
    cases macs with
    | true =>
      rw [if_neg (by decide), lh, Option.bind_some, if_pos rfl, ldP_m b3.drew hi, hse, Option.bind_some, hn2]
      simp
    | false =>
      rw [if_pos (by decide), lh, Option.bind_some, ldP_s b3.drew hi, hse, Option.bind_some, hn2]
      cases ((t.f j).hash == 0) <;> rfl
  rw [if_neg (by simpa using c5)]
  by_cases c6 : kind = 6
  · rw [if_pos (by rw [c6]; rfl)]
    cases macs with
    | true =>
      rw [if_pos rfl]
      have bd := v1.bk.drew
      have lh : ldI .i64 ⟨gt, 6 + i * 4, none⟩ w1.drew = some (t.f i).hash := bd.ldI (Th.get_hash _ hi)
      rw [ldP_m bd hi, Option.bind_some, lh]
      simp only [Option.bind_some, refSize_ok]
      have ud : Upd none_ w1 w1.drew := (Upd.refl none_ w1).drew
      refine v1.good ud (fun _ _ => False.elim) ?_ (v1.upd0 ud) (by omega)
      rcases v1.slots i hi with ⟨hp0, hf0⟩ | ⟨g, ks, xs, e1, e2, e3, e5, e6, e7, e8, e9⟩
      · have hp0 : sel true t i = none := hp0
        rw [hp0, hf0]
        rfl
      · have e1 : sel true t i = some ⟨g, 0, none⟩ := e1
        rw [e1, mac_size e3 (MacAt.upd e5 ud id), Option.bind_some]
        simp
    | false =>
      rw [if_neg (by decide)]
      obtain ⟨w', h1, h2⟩ := asks_ok v1 hi
      exact v1.good h2 (fun _ _ => False.elim) (by rw [h1]; rfl) (v1.upd0 h2) (by omega)
  rw [if_neg (by simpa using c6)]
  exact same _ rfl

end Go.Sh

/- Three streams, or Macs: the walk. -/
set_option linter.unusedVariables false
namespace Go.Sh
open Go.Fw Go.Sha Go.RowKit Go.Proofs.Tryd Go.Deep

theorem ldA_at {w : World} {p : Addr} {vs : List Value} (h : Rd w p vs) (hne : vs ≠ []) : ldA vs.length p w = some vs.toArray := by
  have hsp : p.spot = none := by
    obtain ⟨v, r, rfl⟩ : ∃ v r, vs = v :: r := by
      cases vs with
      | nil => exact absurd rfl hne
      | cons v r => exact ⟨v, r, rfl⟩
    have h0 := h 0 v rfl
    unfold World.cell? at h0
    split at h0
    · have h0 : (if (p.add 0).spot.isSome = true then none else _) = some v := h0
      split at h0
      · cases h0
      · rename_i hs
        cases hq : p.spot with
        | none => rfl
        | some x => exact absurd (by unfold Addr.add; simp [hq]) hs
    · cases h0
  obtain ⟨g, o, sp⟩ := p
  have hsp : sp = none := hsp
  subst hsp
  obtain ⟨m, hm⟩ : ∃ m, vs.length = m + 1 := ⟨vs.length - 1, by have := List.length_pos_iff.2 hne; omega⟩
  have hlast := h m (vs[m]'(by omega)) (List.getElem?_eq_getElem (by omega))
  rw [add_lit] at hlast
  unfold World.cell? at hlast
  unfold ldA
  split at hlast
  · rename_i c e fz hb
    simp only [Option.isSome_none, Bool.false_eq_true, if_false] at hlast
    have hsz : o + m < c.size := (Array.getElem?_eq_some_iff.1 hlast).1
    simp only [hb]
    rw [if_pos ⟨trivial, by omega⟩]
    congr 1
    apply Array.ext (by simp; omega)
    intro i h1 h2
    have h2' : i < vs.length := by simpa using h2
    have hi := h i vs[i] (List.getElem?_eq_getElem h2')
    rw [add_lit] at hi
    simp only [World.cell?, hb, Option.isSome_none, Bool.false_eq_true, if_false] at hi
    have := (Array.getElem?_eq_some_iff.1 hi).2
    simp [this]
  · cases hlast

/-- a step of a script -/
structure OpD where
  kind : Int
  at_ : Int
  fr : Int
  h : Int
  key : Sl
  parts : Sl
  ks : List Int
  xss : List (List Int)

structure OpOk (w : World) (B : Nat) (o : OpD) : Prop where
  key : Src w o.key (ints .u8 o.ks)
  inn : ∀ x ∈ o.ks, InK .u8 x
  kb : ∀ q, o.key.a = some q → o.ks ≠ [] → q.block < B
  parts : PartsW w o.parts o.xss fun k => k < B

structure Script (w : World) (B : Nat) (s : Sl) (ops : List OpD) : Prop where
  len : s.len = ops.length
  lim : ops.length ≤ 140737488355328
  rd : ops = [] ∨ ∃ p : Addr, s.a = some p ∧ p.block < B ∧ ∀ i o, ops[i]? = some o → Rd w (p.add (i * 6)) (opC o.kind o.at_ o.fr o.h o.key o.parts).toList ∧ OpOk w B o

theorem add_block (p : Addr) (i : Nat) : (p.add i).block = p.block := by unfold Addr.add; split <;> rfl

theorem OpOk.below {w w' : World} {B : Nat} {o : OpD} (h : OpOk w B o) (b : Below B w w') : OpOk w' B o :=
  ⟨src_upd h.key (upd_of_below b) fun q hq hne e => by have := h.kb q hq (ints_ne hne); omega, h.inn, h.kb, h.parts.upd (upd_of_below b) fun k hk e => by omega⟩
theorem Script.below {w w' : World} {B : Nat} {s : Sl} {ops : List OpD} (h : Script w B s ops) (b : Below B w w') : Script w' B s ops := by
  refine ⟨h.len, h.lim, h.rd.imp id fun ⟨p, h1, h2, h3⟩ => ⟨p, h1, h2, fun i o ho => ⟨(h3 i o ho).1.upd (upd_of_below b) fun _ e => ?_, (h3 i o ho).2.below b⟩⟩⟩
  rw [add_block] at e; omega
theorem Script.mono {w : World} {B B' : Nat} {s : Sl} {ops : List OpD} (h : Script w B s ops) (hb : B ≤ B') : Script w B' s ops :=
  ⟨h.len, h.lim, h.rd.imp id fun ⟨p, h1, h2, h3⟩ => ⟨p, h1, by omega, fun i o ho => ⟨(h3 i o ho).1, (h3 i o ho).2.key, (h3 i o ho).2.inn, fun q hq hne => by have := (h3 i o ho).2.kb q hq hne; omega,
    let P := (h3 i o ho).2.parts; ⟨P.len, P.cap, P.inn, P.lens, P.many, P.rd.imp id fun ⟨p, ss, k1, k2, k3, k4, k5⟩ => ⟨p, ss, k1, k2, by omega, k4, fun j hj => ⟨(k5 j hj).1, fun q hq hne => by have := (k5 j hj).2 q hq hne; omega⟩⟩⟩⟩⟩⟩

/-- all goes well from here -/
def Okay (B gt : Nat) (C S : List Int) (macs : Bool) (n : Nat) (w : World) (r : Option ((Out Unit (Bool × Unit)) × World)) : Prop :=
  ∃ w' ro t ke we, r = some (.norm (), w') ∧ Inv w' B ro C S macs gt t ke we ∧ Below B w w' ∧ ke.length ≤ n

theorem walk_l0 {K : Nat} (hK : 18446744073709551616 ≤ K) {B : Nat} {C S : List Int} {macs : Bool} {gt : Nat} {s : Sl} {ops : List OpD} :
    ∀ (d i n : Nat) (w : World) (ro : Nat → Nat) (t : Th) (ke : List (Sl × List Int)) (we : List Sl), i + d = 40 → d < n → Inv w B ro C S macs gt t ke we → Script w B s ops → ke.length ≤ 2 * i →
      Okay B gt C S macs 80 w (law01_walk_l0 K n s macs ⟨gt, 0, none⟩ (i : Int) w) := by
  intro d
  induction d with
  | zero =>
    intro i n w ro t ke we hi hn v hs hk
    obtain ⟨n, rfl⟩ : ∃ m, n = m + 1 := ⟨n - 1, by omega⟩
    refine ⟨w, ro, t, ke, we, ?_, v, Below.refl B w, by omega⟩
    have eu : law01_walk_l0 K (n + 1) = law01_walk_l0_b K (law01_walk_l0 K n) := rfl
    rw [eu]
    unfold law01_walk_l0_b law01_walk_s1
    have hd : decide ((i : Int) < 40) = false := by simp only [decide_eq_false_iff_not]; omega
    rw [hd]
    cases decide ((i : Int) < ((s.len : Nat) : Int)) <;> rfl
  | succ d ih =>
    intro i n w ro t ke we hi hn v hs hk
    obtain ⟨n, rfl⟩ : ∃ m, n = m + 1 := ⟨n - 1, by omega⟩
    have eu : law01_walk_l0 K (n + 1) = law01_walk_l0_b K (law01_walk_l0 K n) := rfl
    have hd : decide ((i : Int) < 40) = true := by simp only [decide_eq_true_eq]; omega
    by_cases c : i < ops.length
    case neg =>
      refine ⟨w, ro, t, ke, we, ?_, v, Below.refl B w, by omega⟩
      rw [eu]
      unfold law01_walk_l0_b law01_walk_s1
      have h2 : decide ((i : Int) < ((s.len : Nat) : Int)) = false := by rw [hs.len]; simp only [decide_eq_false_iff_not]; omega
      rw [h2]; rfl
    rcases hs.rd with e | ⟨p, h1, h2, h3⟩
    · rw [e] at c; simp at c
    obtain ⟨r1, ok⟩ := h3 i ops[i] (List.getElem?_eq_getElem c)
    have hld := ldA_at r1 (by simp [opC])
    have hld : ldA 6 (p.add (i * 6)) w = some (opC ops[i].kind ops[i].at_ ops[i].fr ops[i].h ops[i].key ops[i].parts) := hld
    obtain ⟨w1, ro1, t1, ke1, we1, g1, g2, g3, g4⟩ := plays_ok hK v (by omega) ok.key ok.inn ok.kb ok.parts (fun k hk => hk) (kind := ops[i].kind) (at_ := ops[i].at_) (fr := ops[i].fr) (h := ops[i].h)
    obtain ⟨w2, ro2, t2, ke2, we2, k1, k2, k3, k4⟩ := ih (i + 1) n w1 ro1 t1 ke1 we1 (by omega) (by omega) g2 (hs.below g3) (by omega)
    refine ⟨w2, ro2, t2, ke2, we2, ?_, k2, g3.trans k3, k4⟩
    have e1 : IntKind.i64.wrap ((i : Int) + 1) = ((i + 1 : Nat) : Int) := by rw [w64 (by omega) (by omega)]; rfl
    have c0 : (0 : Int) ≤ (i : Int) ∧ (i : Int) < ((s.len : Nat) : Int) := by rw [hs.len]; omega
    rw [eu]
    unfold law01_walk_l0_b law01_walk_s1
    have hd2 : decide ((i : Int) < ((s.len : Nat) : Int)) = true := by simp only [decide_eq_true_eq]; omega
    rw [hd2, if_pos rfl, hd, bnd_ok]
    dsimp only
    rw [if_pos rfl, h1, Option.bind_some, if_pos c0, Int.toNat_natCast, hld, Option.bind_some, g1, bnd_ok]
    dsimp only
    rw [if_neg (by decide), e1, k1]

theorem partsNil (w : World) (Q : Nat → Prop) : PartsW w nilS [] Q := ⟨rfl, Nat.le_refl _, by simp, by simp, by simp, .inl rfl⟩

theorem walk_l2 {K : Nat} (hK : 18446744073709551616 ≤ K) {B : Nat} {C S : List Int} {macs : Bool} {gt : Nat} :
    ∀ (d i n : Nat) (w : World) (ro : Nat → Nat) (t : Th) (ke : List (Sl × List Int)) (we : List Sl), i + d = 3 → d < n → Inv w B ro C S macs gt t ke we → ke.length ≤ 80 + 4 * i →
      Okay B gt C S macs 92 w (law01_walk_l2 K n macs ⟨gt, 0, none⟩ (i : Int) w) := by
  intro d
  induction d with
  | zero =>
    intro i n w ro t ke we hi hn v hk
    obtain ⟨n, rfl⟩ : ∃ m, n = m + 1 := ⟨n - 1, by omega⟩
    refine ⟨w, ro, t, ke, we, ?_, v, Below.refl B w, by omega⟩
    have eu : law01_walk_l2 K (n + 1) = law01_walk_l2_b K (law01_walk_l2 K n) := rfl
    rw [eu]
    unfold law01_walk_l2_b
    have hd : decide ((i : Int) < 3) = false := by simp only [decide_eq_false_iff_not]; omega
    rw [hd, if_neg (by decide)]
  | succ d ih =>
    intro i n w ro t ke we hi hn v hk
    obtain ⟨n, rfl⟩ : ∃ m, n = m + 1 := ⟨n - 1, by omega⟩
    have eu : law01_walk_l2 K (n + 1) = law01_walk_l2_b K (law01_walk_l2 K n) := rfl
    have hd : decide ((i : Int) < 3) = true := by simp only [decide_eq_true_eq]; omega
    have e1 : IntKind.i64.wrap ((i : Int) + 1) = ((i + 1 : Nat) : Int) := by rw [w64 (by omega) (by omega)]; rfl
    have nk : ∀ w : World, Src w nilS (ints .u8 []) := fun w => (Own.nil 5 w).src (by simp)
    obtain ⟨w1, ro1, t1, ke1, we1, g1, g2, g3, g4⟩ := plays_ok hK v (by omega) (nk w) (by simp) (by simp) (partsNil w fun k => k < B) (fun k hk => hk) (kind := 3) (at_ := (i : Int)) (fr := 0) (h := 0)
    obtain ⟨w2, ro2, t2, ke2, we2, h1, h2, h3, h4⟩ := plays_ok hK g2 (by omega) (nk w1) (by simp) (by simp) (partsNil w1 fun k => k < B) (fun k hk => hk) (kind := 6) (at_ := (i : Int)) (fr := 0) (h := 0)
    obtain ⟨w3, ro3, t3, ke3, we3, k1, k2, k3, k4⟩ := ih (i + 1) n w2 ro2 t2 ke2 we2 (by omega) (by omega) h2 (by omega)
    refine ⟨w3, ro3, t3, ke3, we3, ?_, k2, (g3.trans h3).trans k3, k4⟩
    rw [eu]
    unfold law01_walk_l2_b
    rw [hd, if_pos rfl, built120, Option.bind_some, g1, bnd_ok]
    dsimp only
    rw [if_neg (by decide), built120, Option.bind_some, h1, bnd_ok]
    dsimp only
    rw [if_neg (by decide), e1, k1]

/-- what is looked at in the end: from answer i on -/
structure Fin_ (w : World) (B : Nat) (ro : Nat → Nat) (gt : Nat) (t : Th) (ke : List (Sl × List Int)) (we : List Sl) (i : Nat) : Prop where
  bw : B ≤ w.heap.size
  low : ∀ k, k < B → ro k = 0
  bk : Bk 117 w gt t.cells
  rt : ro gt = 1
  kept : Own 25 w t.kept (ke.map fun p => slV p.1)
  rk : ∀ k, t.kept.blk = some k → ro k = 2
  was : Own 25 w t.was (we.map slV)
  rw_ : ∀ k, t.was.blk = some k → ro k = 3
  lens : we.length = ke.length
  few : ke.length ≤ 1000
  ks : ∀ j p s, i ≤ j → ke[j]? = some p → we[j]? = some s → Vw 5 w p.1 (ints .u8 p.2) ∧ (∀ k, p.1.blk = some k → ro k = 7 + j) ∧ p.2.length ≤ 64 ∧ Data w ro s p.2

theorem Inv.fin {w : World} {B : Nat} {ro : Nat → Nat} {C S : List Int} {macs : Bool} {gt : Nat} {t : Th} {ke : List (Sl × List Int)} {we : List Sl} (v : Inv w B ro C S macs gt t ke we) : Fin_ w B ro gt t ke we 0 :=
  ⟨v.bw, v.low, v.bk, v.rt, v.kept, v.rk, v.was, v.rw_, v.lens, v.few, fun j p s _ => v.ks j p s⟩

theorem Fin_.upd {w w' : World} {B : Nat} {ro : Nat → Nat} {gt : Nat} {t : Th} {ke : List (Sl × List Int)} {we : List Sl} {i i' : Nat} {X : Nat → Prop} (v : Fin_ w B ro gt t ke we i) (u : Upd X w w') (hi : i ≤ i') (hn : ∀ k, X k → 7 ≤ ro k ∧ ro k < 7 + i') : Fin_ w' B ro gt t ke we i' := by
  refine ⟨Nat.le_trans v.bw u.size, v.low, v.bk.upd u fun e => by have := hn _ e; have := v.rt; omega, v.rt, v.kept.upd u fun k hk e => by have := hn k e; have := v.rk k hk; omega, v.rk, v.was.upd u fun k hk e => by have := hn k e; have := v.rw_ k hk; omega, v.rw_, v.lens, v.few, fun j p s hj hp hs => ?_⟩
  obtain ⟨a1, a2, a3, a4⟩ := v.ks j p s (by omega) hp hs
  exact ⟨a1.upd u fun k hk e => by have := hn k e; have := a2 k hk; omega, a2, a3, a4.upd u (fun k hk h0 e => by have := hn k e; omega) fun _ _ => rfl⟩

theorem own_ldS {w : World} {s : Sl} {ss : List Sl} (h : Own 25 w s (ss.map slV)) {i : Nat} (hi : i < ss.length) : ∃ p, s.a = some p ∧ ldS (p.add i) w = some (ss.getD i nilS) := by
  have hsrc := h.src (fun v hv => by obtain ⟨x, _, rfl⟩ := List.mem_map.1 hv; rfl)
  rcases hsrc.rd with ⟨b1, b2, b3⟩ | ⟨p, b1, b2⟩
  · have : ss = [] := by simpa using b3
    rw [this] at hi; simp at hi
  · exact ⟨p, b1, ldS_rd b2 hi⟩

/-- answer j, as it was and as it is -/
theorem Fin_.same {K : Nat} (hK : 18446744073709551616 ≤ K) {w : World} {B : Nat} {ro : Nat → Nat} {gt : Nat} {t : Th} {ke : List (Sl × List Int)} {we : List Sl} {i j : Nat} (v : Fin_ w B ro gt t ke we i) (hij : i ≤ j) (hj : j < ke.length) :
    ∃ a s zs p q w', ke[j]? = some (a, zs) ∧ t.kept.a = some p ∧ ldS (p.add j) w = some a ∧ t.was.a = some q ∧ ldS (q.add j) w = some s ∧ Vw 5 w a (ints .u8 zs) ∧ (∀ k, a.blk = some k → ro k = 7 + j) ∧ zs.length ≤ 64 ∧ book_SameBytes K a s w.drew = some ((true, ()), w') ∧ Upd none_ w w' := by
  have hl := v.lens
  have hp : ke[j]? = some ke[j] := List.getElem?_eq_getElem hj
  have hs : we[j]? = some (we[j]'(by omega)) := List.getElem?_eq_getElem (by omega)
  obtain ⟨a1, a2, a3, a4⟩ := v.ks j _ _ hij hp hs
  have hk2 : Own 25 w t.kept ((ke.map Prod.fst).map slV) := by rw [List.map_map]; exact v.kept
  obtain ⟨p, p1, p2⟩ := own_ldS hk2 (i := j) (by simpa using hj)
  obtain ⟨q, q1, q2⟩ := own_ldS v.was (i := j) (by omega)
  have e1 : (ke.map Prod.fst).getD j nilS = ke[j].1 := by simp [List.getD_eq_getElem?_getD, hj]
  have e2 : we.getD j nilS = we[j]'(by omega) := by simp [List.getD_eq_getElem?_getD, show j < we.length by omega]
  rw [e1] at p2
  rw [e2] at q2
  have ud : Upd none_ w w.drew := (Upd.refl none_ w).drew
  obtain ⟨w', s1, u1⟩ := SameBytes_ok hK (a1.upd0 ud).rd (a4.src.upd0 ud).rds (by omega)
  rw [decide_eq_true rfl] at s1
  exact ⟨_, _, _, p, q, w', hp, p1, p2, q1, q2, a1, a2, a3, s1, ud.and0 u1⟩

theorem walk_l4 {K : Nat} (hK : 18446744073709551616 ≤ K) {B : Nat} {ro : Nat → Nat} {gt : Nat} {t : Th} {ke : List (Sl × List Int)} {we : List Sl} {i0 : Int} {lo : Nat} :
    ∀ (d i n : Nat) (w : World), i + d = ke.length → d < n → lo ≤ i → Fin_ w B ro gt t ke we lo →
      ∃ w', law01_walk_l4 K n ⟨gt, 0, none⟩ i0 (i : Int) w = some (.norm (), w') ∧ Upd none_ w w' := by
  intro d
  induction d with
  | zero =>
    intro i n w hi hn hlo v
    obtain ⟨n, rfl⟩ : ∃ m, n = m + 1 := ⟨n - 1, by omega⟩
    have hkl : t.kept.len = ke.length := by rw [v.kept.len]; simp
    have l18 : ldS ⟨gt, 18, none⟩ w = some t.kept := v.bk.ldS rfl
    refine ⟨w, ?_, Upd.refl _ _⟩
    have eu : law01_walk_l4 K (n + 1) = law01_walk_l4_b K (law01_walk_l4 K n) := rfl
    rw [eu]
    unfold law01_walk_l4_b
    simp only [add_lit, Nat.zero_add]
    have hd : decide ((i : Int) < ((t.kept.len : Nat) : Int)) = false := by rw [hkl]; simp only [decide_eq_false_iff_not]; omega
    rw [l18, Option.bind_some, hd, if_neg (by decide)]
  | succ d ih =>
    intro i n w hi hn hlo v
    obtain ⟨n, rfl⟩ : ∃ m, n = m + 1 := ⟨n - 1, by omega⟩
    have hf := v.few
    have hkl : t.kept.len = ke.length := by rw [v.kept.len]; simp
    have hwl : t.was.len = ke.length := by rw [v.was.len]; simp [v.lens]
    have l18 : ∀ w, Bk 117 w gt t.cells → ldS ⟨gt, 18, none⟩ w = some t.kept := fun w b => b.ldS rfl
    have l19 : ∀ w, Bk 117 w gt t.cells → ldS ⟨gt, 19, none⟩ w = some t.was := fun w b => b.ldS rfl
    obtain ⟨a, s, zs, p, q, w1, h1, h2, h3, h4, h5, h6, h7, h8, h9, u1⟩ := v.same hK hlo (show i < ke.length by omega)
    obtain ⟨w2, k1, k2⟩ := ih (i + 1) n w1 (by omega) (by omega) (by omega) (v.upd u1 (Nat.le_refl _) fun _ e => e.elim)
    refine ⟨w2, ?_, u1.and0 k2⟩
    have eu : law01_walk_l4 K (n + 1) = law01_walk_l4_b K (law01_walk_l4 K n) := rfl
    have e1 : IntKind.i64.wrap ((i : Int) + 1) = ((i + 1 : Nat) : Int) := by rw [w64 (by omega) (by omega)]; rfl
    have hd : decide ((i : Int) < ((t.kept.len : Nat) : Int)) = true := by rw [hkl]; simp only [decide_eq_true_eq]; omega
    have c1 : (0 : Int) ≤ (i : Int) ∧ (i : Int) < ((t.kept.len : Nat) : Int) := by rw [hkl]; omega
    have c2 : (0 : Int) ≤ (i : Int) ∧ (i : Int) < ((t.was.len : Nat) : Int) := by rw [hwl]; omega
    have h3 : ldS (p.add i) w.drew = some a := h3
    have h5 : ldS (q.add i) w.drew = some s := h5
    rw [eu]
    unfold law01_walk_l4_b
    simp only [add_lit, Nat.zero_add]
    rw [l18 _ v.bk, Option.bind_some, hd, if_pos rfl, l18 _ v.bk.drew, Option.bind_some, h2, Option.bind_some, if_pos c1, Int.toNat_natCast, Nat.mul_one, h3, Option.bind_some, l19 _ v.bk.drew, Option.bind_some, h4, Option.bind_some, if_pos c2, h5, Option.bind_some, h9, bnd_ok]
    dsimp only
    rw [if_neg (by decide), e1, k1]

theorem walk_l3 {K : Nat} (hK : 18446744073709551616 ≤ K) {B : Nat} {ro : Nat → Nat} {gt : Nat} {t : Th} {ke : List (Sl × List Int)} {we : List Sl} :
    ∀ (d i n : Nat) (w : World), i + d = ke.length → d < n → Fin_ w B ro gt t ke we i →
      ∃ w', law01_walk_l3 K n ⟨gt, 0, none⟩ (i : Int) w = some (.norm (), w') ∧ Below B w w' := by
  intro d
  induction d with
  | zero =>
    intro i n w hi hn v
    obtain ⟨n, rfl⟩ : ∃ m, n = m + 1 := ⟨n - 1, by omega⟩
    have hkl : t.kept.len = ke.length := by rw [v.kept.len]; simp
    have l18 : ldS ⟨gt, 18, none⟩ w = some t.kept := v.bk.ldS rfl
    refine ⟨w, ?_, Below.refl B w⟩
    have eu : law01_walk_l3 K (n + 1) = law01_walk_l3_b K (law01_walk_l3 K n) := rfl
    rw [eu]
    unfold law01_walk_l3_b
    simp only [add_lit, Nat.zero_add]
    have hd : decide ((i : Int) < ((t.kept.len : Nat) : Int)) = false := by rw [hkl]; simp only [decide_eq_false_iff_not]; omega
    rw [l18, Option.bind_some, hd, if_neg (by decide)]
  | succ d ih =>
    intro i n w hi hn v
    obtain ⟨n, rfl⟩ : ∃ m, n = m + 1 := ⟨n - 1, by omega⟩
    have hf := v.few
    have hkl : t.kept.len = ke.length := by rw [v.kept.len]; simp
    have hwl : t.was.len = ke.length := by rw [v.was.len]; simp [v.lens]
    have l18 : ∀ w, Bk 117 w gt t.cells → ldS ⟨gt, 18, none⟩ w = some t.kept := fun w b => b.ldS rfl
    have l19 : ∀ w, Bk 117 w gt t.cells → ldS ⟨gt, 19, none⟩ w = some t.was := fun w b => b.ldS rfl
    obtain ⟨a, s, zs, p, q, w1, h1, h2, h3, h4, h5, h6, h7, h8, h9, u1⟩ := v.same hK (Nat.le_refl i) (show i < ke.length by omega)
    have v1 := v.upd u1 (Nat.le_refl _) fun _ e => e.elim
    obtain ⟨w2, j2, u2⟩ := SpoilBytes_ok hK (h6.upd0 u1) (by omega)
    have v2 : Fin_ w2 B ro gt t ke we (i + 1) := v1.upd u2 (by omega) fun k e => by have := h7 k e; omega
    obtain ⟨w3, j3, u3⟩ := walk_l4 hK (i0 := (i : Int)) (ke.length - (i + 1)) (i + 1) K w2 (by omega) (by omega) (Nat.le_refl _) v2
    obtain ⟨w4, k1, k2⟩ := ih (i + 1) n w3 (by omega) (by omega) (v2.upd u3 (Nat.le_refl _) fun _ e => e.elim)
    have hb1 : Below B w w1 := u1.below v.bw fun _ _ => id
    have hb2 : Below B w1 w2 := u2.below v1.bw fun k hk e => by have := h7 k e; have := v.low k hk; omega
    have hb3 : Below B w2 w3 := u3.below v2.bw fun _ _ => id
    refine ⟨w4, ?_, ((hb1.trans hb2).trans hb3).trans k2⟩
    have eu : law01_walk_l3 K (n + 1) = law01_walk_l3_b K (law01_walk_l3 K n) := rfl
    have e1 : IntKind.i64.wrap ((i : Int) + 1) = ((i + 1 : Nat) : Int) := by rw [w64 (by omega) (by omega)]; rfl
    have hd : decide ((i : Int) < ((t.kept.len : Nat) : Int)) = true := by rw [hkl]; simp only [decide_eq_true_eq]; omega
    have c1 : (0 : Int) ≤ (i : Int) ∧ (i : Int) < ((t.kept.len : Nat) : Int) := by rw [hkl]; omega
    have c2 : (0 : Int) ≤ (i : Int) ∧ (i : Int) < ((t.was.len : Nat) : Int) := by rw [hwl]; omega
    have hk2 : Own 25 w1 t.kept ((ke.map Prod.fst).map slV) := by rw [List.map_map]; exact v1.kept
    obtain ⟨p', p1, p2⟩ := own_ldS hk2 (i := i) (by simp; omega)
    have ep : p' = p := Option.some.inj (p1.symm.trans h2)
    subst ep
    have ea : (ke.map Prod.fst).getD i nilS = a := by simp [List.getD_eq_getElem?_getD, h1]
    rw [ea] at p2
    have h3 : ldS (p'.add i) w.drew = some a := h3
    have h5 : ldS (q.add i) w.drew = some s := h5
    rw [eu]
    unfold law01_walk_l3_b
    simp only [add_lit, Nat.zero_add]
    rw [l18 _ v.bk, Option.bind_some, hd, if_pos rfl, l18 _ v.bk.drew, Option.bind_some, h2, Option.bind_some, if_pos c1, Int.toNat_natCast, Nat.mul_one, h3, Option.bind_some, l19 _ v.bk.drew, Option.bind_some, h4, Option.bind_some, if_pos c2, h5, Option.bind_some, h9, bnd_ok]
    dsimp only
    rw [if_neg (by decide), l18 _ v1.bk, Option.bind_some, h2, Option.bind_some, if_pos c1, p2, Option.bind_some, j2, bnd_ok, e1, j3, bnd_ok]
    dsimp only
    rw [k1]

theorem walk_ok {K : Nat} (hK : 18446744073709551616 ≤ K) {C S : List Int} {w : World} (T : TabsR w C S) (macs : Bool) {s : Sl} {ops : List OpD} (hs : Script w w.heap.size s ops) :
    ∃ w', law01_walk K s macs w = some ((true, ()), w') ∧ Upd none_ w w' := by
  obtain ⟨w1, n1, b1, u1, z1⟩ := newB_ok (Th.cells ⟨fun _ => none, fun _ => none, fun _ => Fd.none_, nilS, nilS, 65536⟩).toArray 117 w
  have hT := T.lt
  have v1 : Inv w1 w.heap.size (fun k => if k = w.heap.size then 1 else 0) C S macs w.heap.size ⟨fun _ => none, fun _ => none, fun _ => Fd.none_, nilS, nilS, 65536⟩ [] [] := by
    refine ⟨T.upd0 u1, hT, by omega, fun k hk => if_neg (by omega), b1, if_pos rfl, fun i _ => .inl ⟨by cases macs <;> rfl, rfl⟩, ⟨by decide, by decide⟩, Own.nil .., (fun k hk => by cases hk), Own.nil .., (fun k hk => by cases hk), rfl, by decide, fun j p s hp => by simp at hp⟩
  have hb1 : Below w.heap.size w w1 := u1.below (Nat.le_refl _) fun _ _ => id
  obtain ⟨w2, ro2, t2, ke2, we2, h1, h2, h3, h4⟩ := walk_l0 hK 40 0 K w1 _ _ [] [] (by omega) (by omega) v1 (hs.below hb1) (by simp)
  obtain ⟨w3, ro3, t3, ke3, we3, g1, g2, g3, g4⟩ := walk_l2 hK 3 0 K w2 ro2 t2 ke2 we2 (by omega) (by omega) h2 (by omega)
  obtain ⟨w4, k1, k2⟩ := walk_l3 hK ke3.length 0 K w3 (by omega) (by omega) g2.fin
  refine ⟨w4, ?_, Upd.of_below (((hb1.trans h3).trans g3).trans k2)⟩
  have h1 : law01_walk_l0 K K s macs ⟨w.heap.size, 0, none⟩ 0 w1 = _ := h1
  have g1 : law01_walk_l2 K K macs ⟨w.heap.size, 0, none⟩ 0 w2 = _ := g1
  have k1 : law01_walk_l3 K K ⟨w.heap.size, 0, none⟩ 0 w3 = _ := k1
  unfold law01_walk
  rw [built117, Option.bind_some, n1, bnd_ok, h1, bnd_ok]
  dsimp only
  rw [g1, bnd_ok]
  dsimp only
  rw [k1, bnd_ok]

theorem DigestStreams_ok {K : Nat} (hK : 18446744073709551616 ≤ K) {C S : List Int} {w : World} (T : TabsR w C S) {s : Sl} {ops : List OpD} (hs : Script w w.heap.size s ops) :
    ∃ w', law01_DigestStreams K s w = some ((true, ()), w') ∧ Upd none_ w w' := by
  obtain ⟨w1, g, j1, m1, hg, u1⟩ := New_strm hK known256 T.to
  obtain ⟨w2, j2, u2⟩ := walk_ok hK (T.upd0 u1) false ((hs.below (u1.below (Nat.le_refl _) fun _ _ => id)).mono u1.size)
  refine ⟨w2, ?_, u1.and0 u2⟩
  unfold law01_DigestStreams law01_num
  rw [j1, bnd_ok, Option.bind_some]
  dsimp only
  rw [if_neg (by decide), if_neg (by simp), (strm_ask known256 m1).2.1, Option.bind_some, if_neg (by decide), j2, bnd_ok]

theorem DigestMacs_ok {K : Nat} (hK : 18446744073709551616 ≤ K) {C S : List Int} {w : World} (T : TabsR w C S) {s : Sl} {ops : List OpD} (hs : Script w w.heap.size s ops) :
    ∃ w', law01_DigestMacs K s w = some ((true, ()), w') ∧ Upd none_ w w' := by
  obtain ⟨w0, j0, o0, u0, z0⟩ := bldS1_ok sliceB (.int .u8 1) rfl w
  have o0 : Own 5 w0 ⟨some ⟨w.heap.size, 0, none⟩, 1, 1⟩ (ints .u8 [1]) := o0
  obtain ⟨w1, g, j1, m1, hg, u1⟩ := NewMac_ok hK known256 (T.upd0 u0).to (o0.src ints_one) (fun x hx => by obtain rfl := List.mem_singleton.1 hx; exact ⟨by decide, by decide⟩) (by decide) (fun p hp => by obtain rfl := Option.some.inj hp; show w.heap.size < _; omega)
  have q1 := u0.and0 u1
  obtain ⟨w2, j2, u2⟩ := walk_ok hK (T.upd0 q1) true ((hs.below (q1.below (Nat.le_refl _) fun _ _ => id)).mono q1.size)
  refine ⟨w2, ?_, q1.and0 u2⟩
  unfold law01_DigestMacs law01_num
  rw [j0, bnd_ok, j1, bnd_ok, Option.bind_some]
  dsimp only
  rw [if_neg (by decide), if_neg (by simp), mac_size known256 m1, Option.bind_some, if_neg (by decide), j2, bnd_ok]

end Go.Sh

/- A script that came in. -/
set_option linter.unusedVariables false
namespace Go.Sh
open Go.Fw Go.Sha Go.RowKit Go.Proofs.Tryd Go.Deep Go.ChangeShapes Go.WideShapes

theorem bytes_of_op : prog.bytesOf 120 = 80 := by kernel_rfl
theorem cells_of_op : prog.cellsOf 120 = 6 := by kernel_rfl
theorem cells_of_24 : prog.cellsOf 24 = 1 := by kernel_rfl

theorem open_parts_t {H : Type} {enc : TypeId × Value → H} {W : World} {x : DataW H × List MemPlace} {fuel : Nat} {cs : List Value} (hf : DataW.trod enc prog W 0 (fun _ => true) true fuel 24 cs = some x) (hw : ∀ n ∈ x.1.weights prog 24, n ≤ reachBytes) :
    ∃ s xss, cs = [slV s] ∧ PartsW W s xss (fun k => k < W.heap.size) := by
  have hsh : ∃ a len cap, cs = [.slice a len cap] := by
    rcases open_slice sliceSS.ht hf with ⟨h, _⟩ | ⟨a, len, cap, m, n, D, Pl, h, _⟩
    · exact ⟨_, _, _, h⟩
    · exact ⟨_, _, _, h⟩
  obtain ⟨a, len, cap, rfl⟩ := hsh
  obtain ⟨xss, h⟩ := open_parts (H := H) (enc := enc) (W := W) (d := x.1) (p := x.2) (a := a) (len := len) (cap := cap) ⟨fuel, hf⟩ hw
  exact ⟨⟨a, len, cap⟩, xss, rfl, h⟩

set_option maxRecDepth 100000 in
theorem open_op {H : Type} {enc : TypeId × Value → H} {W : World} {x : DataW H × List MemPlace} {fuel : Nat} {cs : List Value} (hf : DataW.trod enc prog W 0 (fun _ => true) true fuel 120 cs = some x) (hw : ∀ n ∈ x.1.weights prog 120, n ≤ reachBytes) :
    ∃ o : OpD, cs = (opC o.kind o.at_ o.fr o.h o.key o.parts).toList ∧ OpOk W W.heap.size o := by
  have hu := underlying120
  obtain ⟨xs, m, _, hx, hcl, hxl, hfs⟩ := DataW.trod_struct hu hf
  rw [cells_of_op] at hcl
  obtain ⟨c0, c1, c2, c3, c4, c5, hc⟩ : ∃ a b c d e f, cs = [a, b, c, d, e, f] := by
    match cs, hcl with
    | [a, b, c, d, e, f], _ => exact ⟨a, b, c, d, e, f, rfl⟩
  have hx6 : xs.length = 6 := hxl
  obtain ⟨y0, y1, y2, y3, y4, y5, hy⟩ : ∃ a b c d e f, xs = [a, b, c, d, e, f] := by
    match xs, hx6 with
    | [a, b, c, d, e, f], _ => exact ⟨a, b, c, d, e, f, rfl⟩
  subst hy
  rw [hc] at hfs
  have f0 := hfs 0 _ rfl
  have f1 := hfs 1 _ rfl
  have f2 := hfs 2 _ rfl
  have f3 := hfs 3 _ rfl
  have f4 := hfs 4 _ rfl
  have f5 := hfs 5 _ rfl
  simp only [int_cells, cells_of_24, cells_of_TB, List.drop_zero, List.drop_succ_cons, List.take_succ_cons, List.take_zero, List.getElem?_cons_zero, List.getElem?_cons_succ] at f0 f1 f2 f3 f4 f5
  have hd : x.1 = .agg [y0.1, y1.1, y2.1, y3.1, y4.1, y5.1] := by rw [hx]; rfl
  have hwt : ∀ n ∈ y0.1.weights prog 3 ++ (y1.1.weights prog 3 ++ (y2.1.weights prog 3 ++ (y3.1.weights prog 3 ++ (y4.1.weights prog 25 ++ (y5.1.weights prog 24 ++ []))))), n ≤ reachBytes := by
    intro n hn
    refine hw n ?_
    rw [hd]
    simp only [DataW.weights, hu, List.map_cons, List.map_nil, DataW.weightsEach]
    exact hn
  obtain ⟨n0, e0, _, w0⟩ := DataW.trod_int underlying3 f0
  obtain ⟨n1, e1, _, w1⟩ := DataW.trod_int underlying3 f1
  obtain ⟨n2, e2, _, w2⟩ := DataW.trod_int underlying3 f2
  obtain ⟨n3, e3, _, w3⟩ := DataW.trod_int underlying3 f3
  obtain ⟨s4, p4, e4, g4⟩ := open_bytes_t f4 (fun n hn => hwt n (by simp [hn]))
  obtain ⟨s5, p5, e5, g5⟩ := open_parts_t f5 (fun n hn => hwt n (by simp [hn]))
  refine ⟨⟨n0, n1, n2, n3, s4, s5, p4, p5⟩, ?_, ⟨g4.src, g4.inn, fun q hq hne => src_lt3 g4.src q hq (ints_ne' hne), g5⟩⟩
  rw [hc, (List.cons.inj e0).1, (List.cons.inj e1).1, (List.cons.inj e2).1, (List.cons.inj e3).1, (List.cons.inj e4).1, (List.cons.inj e5).1]
  rfl

theorem open_script {H : Type} {enc : TypeId × Value → H} {W : World} {d : DataW H} {p : List MemPlace} {a : Option Addr} {len cap : Nat} (h : DataW.Trod enc prog W 0 (fun _ => true) true 71 (.slice a len cap) d p) (hw : ∀ n ∈ d.weights prog 71, n ≤ reachBytes) :
    ∃ ops, Script W W.heap.size ⟨a, len, cap⟩ ops := by
  obtain ⟨fuel, hf⟩ := h
  rcases open_slice underlying71 hf with ⟨hcs, hx⟩ | ⟨a', len', cap', m, n, D, Pl, hcs, _, hl, hm, hmm, hx, hrows⟩
  · simp [Value.cells] at hcs
    obtain ⟨rfl, rfl, rfl⟩ := hcs
    exact ⟨[], rfl, Nat.zero_le _, .inl rfl⟩
  simp [Value.cells] at hcs
  obtain ⟨rfl, rfl, rfl⟩ := hcs
  have hm2 : m = cap := by simpa using hmm
  have hd := (Prod.mk.inj hx).1
  subst hd
  have hrb : reachBytes = 140737488351232 := rfl
  have hwt : ∀ n ∈ (len + (m - len)) * 80 :: (DataW.weightsAll prog 120 ((List.range len).map D)), n ≤ 140737488351232 := by
    intro n hn
    refine hw n ?_
    simp only [DataW.weights, underlying71, bytes_of_op, List.length_map, List.length_range]
    rcases List.mem_cons.1 hn with rfl | hn
    · exact List.mem_cons_self ..
    · exact List.mem_cons_of_mem _ (List.mem_append_left _ hn)
  have hcap := hwt _ (List.mem_cons_self ..)
  have hcap2 : len + (m - len) ≤ 140737488351232 := by omega
  have each : ∀ i, ∃ o : OpD, i < len → Rd W (a'.add (i * 6)) (opC o.kind o.at_ o.fr o.h o.key o.parts).toList ∧ OpOk W W.heap.size o := by
    intro i
    by_cases hi : i < len
    · obtain ⟨cs', h1, h2⟩ := hrows i (by omega)
      rw [cells_of_op] at h1
      obtain ⟨_, hlen, hcell⟩ := World.cells?_some h1
      obtain ⟨o, ho, hok⟩ := open_op h2 (fun n hn => by
        have := hwt n (List.mem_cons_of_mem _ (weights_all (List.mem_map.2 ⟨i, List.mem_range.2 hi, rfl⟩) n hn))
        rw [hrb]; exact this)
      refine ⟨o, fun _ => ⟨fun j v hv => ?_, hok⟩⟩
      rw [← ho] at hv
      have hj := (List.getElem?_eq_some_iff.1 hv).1
      rw [hcell j (by omega)]; exact hv
    · exact ⟨⟨0, 0, 0, 0, nilS, nilS, [], []⟩, fun h => absurd h hi⟩
  obtain ⟨f, hfo⟩ := Classical.axiomOfChoice each
  refine ⟨(List.range len).map f, by simp, by simp; omega, ?_⟩
  by_cases h0 : len = 0
  · left; rw [h0]; rfl
  right
  have hb0 := (hfo 0 (by omega)).1.lt (by simp [opC])
  rw [add_block] at hb0
  refine ⟨a', rfl, hb0, fun i o ho => ?_⟩
  have hi : i < len := by have := (List.getElem?_eq_some_iff.1 ho).1; simpa using this
  have he : o = f i := by
    rw [List.getElem?_map, List.getElem?_range hi] at ho
    exact (Option.some.inj ho).symm
  rw [he]; exact hfo i hi

end Go.Sh

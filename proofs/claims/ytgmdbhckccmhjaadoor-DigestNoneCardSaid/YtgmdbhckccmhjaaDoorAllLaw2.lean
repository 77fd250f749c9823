/- Texts of this claim, put together: Sum, RefSum, Lent, Sums, Open, Laid, None -/
import Derived.Test.YtgmdbhckccmhjaaDoorAllLaw1
import Derived.Test.YtgmdbhckccmhjaaDoorAllFw1
import Derived.Deep.Matrix
import Derived.SizedLaws
import Derived.Handed
import Derived.Test.YtgmdbhckccmhjaaDoorRows
import Derived.Lib.LaidTab
/- Sum of package digest: Write and Sum of a stream, whole. -/
set_option linter.unusedVariables false
namespace Go.Sh
open Go.Fw Go.Sha Go.RowKit Go.Proofs.Tryd

/-- The tables of the program. -/
structure Tabs (w : World) (C S : List Int) : Prop where
  cl : C.length = 80
  sl : S.length = 16
  sin : ∀ i, InK .u64 (S.getD i 0)
  gc : Rd w ⟨2, 0, none⟩ (ints .u64 C)
  gs : Rd w ⟨3, 0, none⟩ (ints .u64 S)

theorem Tabs.upd {w w' : World} {C S : List Int} {X : Nat → Prop} (t : Tabs w C S) (u : Upd X w w') (hn : ∀ k, k < 4 → ¬ X k) : Tabs w' C S :=
  ⟨t.cl, t.sl, t.sin, t.gc.upd u fun _ => hn _ (by decide), t.gs.upd u fun _ => hn _ (by decide)⟩
theorem Tabs.upd0 {w w' : World} {C S : List Int} (t : Tabs w C S) (u : Upd none_ w w') : Tabs w' C S := t.upd u fun _ _ => id
theorem Tabs.drew {w : World} {C S : List Int} (t : Tabs w C S) : Tabs w.drew C S := t.upd0 (Upd.refl _ _).drew
theorem Tabs.lt {w : World} {C S : List Int} (t : Tabs w C S) : 4 ≤ w.heap.size := by
  have := t.gs.lt (fun e => by have := congrArg List.length e; simp [t.sl] at this)
  have : 3 < w.heap.size := this
  omega

/-- The tables of the program and of the document's answer. -/
structure TabsR (w : World) (C S : List Int) : Prop where
  to : Tabs w C S
  rc : Rd w ⟨1, 0, none⟩ (ints .u64 C)
  rs : Rd w ⟨0, 0, none⟩ (ints .u64 S)

theorem TabsR.upd {w w' : World} {C S : List Int} {X : Nat → Prop} (t : TabsR w C S) (u : Upd X w w') (hn : ∀ k, k < 4 → ¬ X k) : TabsR w' C S :=
  ⟨t.to.upd u hn, t.rc.upd u fun _ => hn _ (by decide), t.rs.upd u fun _ => hn _ (by decide)⟩
theorem TabsR.upd0 {w w' : World} {C S : List Int} (t : TabsR w C S) (u : Upd none_ w w') : TabsR w' C S := t.upd u fun _ _ => id
theorem TabsR.lt {w : World} {C S : List Int} (t : TabsR w C S) : 4 ≤ w.heap.size := t.to.lt

/-- the digest of bytes; nothing of no such digest -/
def sumOf (C S : List Int) (h : Int) (xs : List Int) : List Int := if known h = true then digestOf h C (firstH S h) xs else []

theorem Write_loop {K : Nat} (hK : 18446744073709551616 ≤ K) {e : TypeId} {g : Nat} {cs0 : List Value} {h : Int} (hk : known h = true) {C H0 : List Int} (hC : C.length = 80) (hgC : g ≠ 2) {s : Sl} {xss : List (List Int)} {Q : Nat → Prop} (hQ : ¬ Q g) :
    ∀ (d i n : Nat) (w : World) (xs H half : List Int), i + d = xss.length → d < n → StAt w e g 0 cs0 h xs.length H half → Fed h C H0 xs H half → Rd w ⟨2, 0, none⟩ (ints .u64 C) → Parts w s xss Q → xs.length + (xss.drop i).flatten.length ≤ 140737488355328 →
      ∃ w' H' half', digest_Stream_Write_l0 K n (some ⟨g, 0, none⟩) s ((s.len : Nat) : Int) (i : Int) w = some ((), w') ∧ StAt w' e g 0 cs0 h (xs ++ (xss.drop i).flatten).length H' half' ∧ Fed h C H0 (xs ++ (xss.drop i).flatten) H' half' ∧ Upd (· = g) w w' := by
  intro d
  induction d with
  | zero =>
    intro i n w xs H half hi hn st f hT hp hl
    obtain ⟨n, rfl⟩ : ∃ m, n = m + 1 := ⟨n - 1, by omega⟩
    have hd : decide ((i : Int) < ((s.len : Nat) : Int)) = false := by rw [hp.len]; simp; omega
    have e0 : xs ++ (xss.drop i).flatten = xs := by rw [List.drop_eq_nil_of_le (by omega)]; simp
    refine ⟨w, H, half, ?_, by rw [e0]; exact st, by rw [e0]; exact f, Upd.refl _ _⟩
    show digest_Stream_Write_l0_b K (digest_Stream_Write_l0 K n) (some ⟨g, 0, none⟩) s ((s.len : Nat) : Int) (i : Int) w = _
    unfold digest_Stream_Write_l0_b
    rw [hd, if_neg (by decide)]
  | succ d ih =>
    intro i n w xs H half hi hn st f hT hp hl
    obtain ⟨n, rfl⟩ : ∃ m, n = m + 1 := ⟨n - 1, by omega⟩
    have hm := hp.many
    have hd : decide ((i : Int) < ((s.len : Nat) : Int)) = true := by rw [hp.len]; simp; omega
    obtain ⟨p, t, h1, h2, h3, h4, h5, h6, h7⟩ := hp.at (i := i) (by omega)
    have c : (0 : Int) ≤ (i : Int) ∧ (i : Int) < ((s.len : Nat) : Int) := by rw [hp.len]; omega
    have e1 : IntKind.i64.wrap ((i : Int) + 1) = ((i + 1 : Nat) : Int) := by rw [w64 (by omega) (by omega)]; rfl
    have hdr : (xss.drop i).flatten = xss.getD i [] ++ (xss.drop (i + 1)).flatten := by rw [drop_getD (by omega) [], List.flatten_cons]
    rw [hdr, List.length_append] at hl
    obtain ⟨w1, H1, half1, a1, a2, a3, a4⟩ := take_ok hK hk st f hC hgC hT h7 (by omega) h3 (fun q hq e => hQ (e ▸ (h4 q hq).1)) (fun q hq => (h4 q hq).2)
    obtain ⟨w2, H2, half2, b1, b2, b3, b4⟩ := ih (i + 1) n w1 (xs ++ xss.getD i []) H1 half1 (by omega) (by omega) a2 a3 (hT.upd a4 fun _ e => hgC e.symm) (hp.upd a4 fun k hk e => hQ (e ▸ hk)) (by rw [List.length_append]; omega)
    rw [List.append_assoc, ← hdr] at b2 b3
    refine ⟨w2, H2, half2, ?_, b2, b3, a4.trans' b4 fun _ _ e => e⟩
    show digest_Stream_Write_l0_b K (digest_Stream_Write_l0 K n) (some ⟨g, 0, none⟩) s ((s.len : Nat) : Int) (i : Int) w = _
    unfold digest_Stream_Write_l0_b
    rw [hd, if_pos rfl, h1, Option.bind_some, if_pos c, Int.toNat_natCast, Nat.mul_one, h2, Option.bind_some, Option.bind_some, add_lit, Nat.add_zero, a1, bnd_ok, e1, b1]

theorem tot_wrap {xss : List (List Int)} (hl : ∀ xs ∈ xss, xs.length ≤ 140737488351232) {n : Nat} (hn : n ≤ 33554432) : IntKind.u64.wrap ((n : Int) + IntKind.u64.wrap ((totB 0 xss : Nat) : Int)) = ((n + totB 0 xss : Nat) : Int) := by
  have := totB_lt xss 0 (by omega) hl
  rw [IntKind.wrap_u64, IntKind.wrap_u64]; omega

theorem Write_ok {K : Nat} (hK : 18446744073709551616 ≤ K) {w : World} {e : TypeId} {g : Nat} {cs0 : List Value} {h : Int} (hk : known h = true) {C H0 xs H half : List Int} (hC : C.length = 80) (hgC : g ≠ 2) (st : StAt w e g 0 cs0 h xs.length H half) (f : Fed h C H0 xs H half)
    (hT : Rd w ⟨2, 0, none⟩ (ints .u64 C)) {s : Sl} {xss : List (List Int)} {Q : Nat → Prop} (hQ : ¬ Q g) (hp : Parts w s xss Q) (hl : xs.length + xss.flatten.length ≤ 33554432) :
    ∃ w' H' half', digest_Stream_Write K (some ⟨g, 0, none⟩) s w = some ((0, ()), w') ∧ StAt w' e g 0 cs0 h (xs ++ xss.flatten).length H' half' ∧ Fed h C H0 (xs ++ xss.flatten) H' half' ∧ Upd (· = g) w w' := by
  obtain ⟨l1, l5, l3⟩ := st.drew.ld hk
  have hpd := hp.upd0 (Upd.refl none_ w).drew
  have ht := total_ok hK hpd
  obtain ⟨w2, H2, half2, b1, b2, b3, b4⟩ := Write_loop hK hk hC hgC hQ xss.length 0 K w.drew xs H half (by omega) (by have := hp.many; omega) st.drew f (hT.upd (S := none_) (Upd.refl _ _).drew fun _ => id) hpd (by rw [List.drop_zero]; omega)
  rw [List.drop_zero] at b2 b3
  have b1 : digest_Stream_Write_l0 K K (some ⟨g, 0, none⟩) s ((s.len : Nat) : Int) 0 w.drew = _ := b1
  have htl := totB_le xss 0 (by omega)
  have h1 : totB 0 xss ≤ 33554432 := htl.1.2 (by omega)
  have h2 := htl.2 h1
  have hd : decide (((xs.length + totB 0 xss : Nat) : Int) > 33554432) = false := by simp only [decide_eq_false_iff_not]; omega
  refine ⟨w2, H2, half2, ?_, b2, b3, b4.predrew⟩
  unfold digest_Stream_Write
  rw [if_neg (by simp), Option.bind_some, add_lit, add_lit, l5, Option.bind_some, ht, Option.bind_some]
  dsimp only
  rw [tot_wrap hp.lens (by omega), hd, if_neg (by decide), b1, bnd_ok]

theorem Write_long {K : Nat} (hK : 18446744073709551616 ≤ K) {w : World} {e : TypeId} {g : Nat} {cs0 : List Value} {h : Int} (hk : known h = true) {n : Nat} {H half : List Int} (st : StAt w e g 0 cs0 h n H half) (hn : n ≤ 33554432)
    {s : Sl} {xss : List (List Int)} {Q : Nat → Prop} (hp : Parts w s xss Q) (hl : ¬ n + xss.flatten.length ≤ 33554432) :
    digest_Stream_Write K (some ⟨g, 0, none⟩) s w = some ((4, ()), w.drew) := by
  obtain ⟨l1, l5, l3⟩ := st.drew.ld hk
  have ht := total_ok hK (hp.upd0 (Upd.refl none_ w).drew)
  have htl := totB_le xss 0 (by omega)
  have h1 : ¬ n + totB 0 xss ≤ 33554432 := fun e => by have := htl.2 (by omega); omega
  have hd : decide (((n + totB 0 xss : Nat) : Int) > 33554432) = true := by simp only [decide_eq_true_eq]; omega
  unfold digest_Stream_Write
  rw [if_neg (by simp), Option.bind_some, add_lit, add_lit, l5, Option.bind_some, ht, Option.bind_some]
  dsimp only
  rw [tot_wrap hp.lens hn, hd, if_pos rfl]

theorem Ans.mono {B B' : Nat} {w : World} {s : Sl} {zs : List Int} (h : Ans B w s zs) (hb : B' ≤ B) : Ans B' w s zs := by
  obtain ⟨⟨g, cs, h1, h2, h3⟩, h4, h5⟩ := h
  exact ⟨⟨g, cs, h1, by omega, h3⟩, h4, h5⟩
theorem Ans.upd {B : Nat} {w w' : World} {s : Sl} {zs : List Int} {X : Nat → Prop} (h : Ans B w s zs) (u : Upd X w w') (hn : ∀ k, s.blk = some k → ¬ X k) : Ans B w' s zs := by
  obtain ⟨⟨g, cs, h1, h2, h3, h6⟩, h4, h5⟩ := h
  exact ⟨⟨g, cs, h1, h2, h3.upd u (hn g (by simp [Sl.blk, h1])), h6⟩, h4, h5⟩
theorem Ans.upd0 {B : Nat} {w w' : World} {s : Sl} {zs : List Int} (h : Ans B w s zs) (u : Upd none_ w w') : Ans B w' s zs := h.upd u fun _ _ => id
theorem Ans.src {B : Nat} {w : World} {s : Sl} {zs : List Int} (h : Ans B w s zs) : Src w s (ints .u8 zs) := by
  obtain ⟨⟨g, cs, h1, h2, h3, h4, h5⟩, h6, h7⟩ := h
  refine ⟨by rw [ints_length]; exact h6, by omega, .inr ⟨_, h1, h3.rd 0 _ fun i v hv => ?_⟩, ints_one⟩
  rw [← h4, List.getElem?_take] at hv
  split at hv
  · rw [Nat.zero_add]; exact hv
  · cases hv
theorem Ans.rd {B : Nat} {w : World} {s : Sl} {zs : List Int} (h : Ans B w s zs) : RdS .u8 w s zs := h.src.rds
theorem Ans.vw {B : Nat} {w : World} {s : Sl} {zs : List Int} (h : Ans B w s zs) (hm : zs.length ≤ 65536) : Vw 5 w s (ints .u8 zs) := by
  obtain ⟨⟨g, cs, h1, h2, h3, h4, h5⟩, h6, h7⟩ := h
  refine ⟨by rw [ints_length]; exact h6.symm, .inr ⟨g, 0, cs, h1, h3, by omega, by simp only [maxLen]; omega, by omega, ?_⟩⟩
  rw [List.drop_zero, h6]; exact h4
theorem Ans.fresh {B : Nat} {w : World} {s : Sl} {zs : List Int} (h : Ans B w s zs) : Fresh B s := by
  obtain ⟨⟨g, cs, h1, h2, h3⟩, _⟩ := h
  intro k hk
  simp [Sl.blk, h1] at hk; omega
theorem Ans.lt {B : Nat} {w : World} {s : Sl} {zs : List Int} (h : Ans B w s zs) {k : Nat} (hk : s.blk = some k) : k < w.heap.size := by
  obtain ⟨⟨g, cs, h1, h2, h3, _⟩, _⟩ := h
  simp [Sl.blk, h1] at hk; have := h3.lt; omega

theorem StreamSum_ok {K : Nat} (hK : 18446744073709551616 ≤ K) {w : World} {e : TypeId} {g : Nat} {cs0 : List Value} {h : Int} (hk : known h = true) {C H0 xs H half : List Int} (hC : C.length = 80) (st : StAt w e g 0 cs0 h xs.length H half) (f : Fed h C H0 xs H half)
    (hT : Rd w ⟨2, 0, none⟩ (ints .u64 C)) (hl : xs.length ≤ 1099511627776) :
    ∃ s' w', digest_Stream_Sum K (some ⟨g, 0, none⟩) w = some ((s', ()), w') ∧ Ans w.heap.size w' s' (digestOf h C H0 xs) ∧ Upd none_ w w' := by
  have hsl := stCells_len h xs.length st.words st.len
  have hrm := st.room
  have lA := st.bk.ldA (i := 0) (n := 142) (by rw [seg_length (by omega)]; omega)
  have e0 : ((seg cs0 0 (stCells h xs.length H half)).drop 0).take 142 = stCells h xs.length H half := by
    unfold seg
    rw [List.drop_zero, List.take_zero, List.nil_append, List.take_append_of_le_length (by omega), List.take_of_length_le (by omega)]
  rw [e0] at lA
  obtain ⟨s', w', h1, h2, h3⟩ := end_ok hK hk f st.words st.inn hC hT hl
  refine ⟨s', w', ?_, h2, h3⟩
  unfold digest_Stream_Sum
  rw [if_neg (by simp), Option.bind_some, add_lit, lA, Option.bind_some, h1, bnd_ok]

theorem half0_in : ∀ x ∈ half0, InK .u8 x := by
  intro x hx
  rw [(List.mem_replicate.1 hx).2]; exact ⟨by decide, by decide⟩

/-- a stream that was begun here -/
theorem New_st {K : Nat} (hK : 18446744073709551616 ≤ K) {h : Int} (hk : known h = true) {C S : List Int} {w : World} (T : Tabs w C S) :
    ∃ w' g, digest_New K h w = some ((some ⟨g, 0, none⟩, 0, ()), w') ∧ Upd none_ w w' ∧ w.heap.size ≤ g ∧ StAt w' 99 g 0 (stCells h 0 (firstH S h) half0) h ([] : List Int).length (firstH S h) half0 ∧ Fed h C (firstH S h) [] (firstH S h) half0 := by
  obtain ⟨w1, g, h1, h2, h3, h4⟩ := New_ok hK h T.sl T.sin T.gs
  rw [if_pos hk, if_pos hk] at h1
  refine ⟨w1, g, h1, h2, h3, ⟨?_, by rw [stCells_len h 0 (firstH_len S h) (List.length_replicate ..)]; decide, firstH_len S h, List.length_replicate .., half0_in⟩, Fed.start ..⟩
  have : seg (stCells h 0 (firstH S h) half0) 0 (stCells h ([] : List Int).length (firstH S h) half0) = stCells h 0 (firstH S h) half0 := seg_self
  rw [this]; exact h4 hk

theorem Sum_ok {K : Nat} (hK : 18446744073709551616 ≤ K) {h : Int} (hk : known h = true) {C S : List Int} {w : World} (T : Tabs w C S) {s : Sl} {xss : List (List Int)} {Q : Nat → Prop} (hp : Parts w s xss Q) (hQ : ∀ k, Q k → k < w.heap.size) (hl : xss.flatten.length ≤ 33554432) :
    ∃ s' w', digest_Sum K h s w = some ((s', 0, ()), w') ∧ Ans w.heap.size w' s' (digestOf h C (firstH S h) xss.flatten) ∧ Upd none_ w w' := by
  have h4 := T.lt
  obtain ⟨w1, g, h1, u1, hg, st, f⟩ := New_st hK hk T
  have T1 := T.upd0 u1
  obtain ⟨w2, H2, half2, h2, st2, f2, u2⟩ := Write_ok hK hk T.cl (by omega) st f T1.gc (fun e => by have := hQ g e; omega) (hp.upd0 u1) (by simpa using hl)
  have T2 := T1.upd u2 (fun k hk e => by omega)
  rw [List.nil_append] at st2 f2
  obtain ⟨s3, w3, h3, a3, u3⟩ := StreamSum_ok hK hk T.cl st2 f2 T2.gc (by omega)
  have hs1 := u1.size
  have hs2 := u2.size
  refine ⟨s3, w3, ?_, a3.mono (by omega), (u1.trans' u2 fun k hk e => by omega).and0 u3⟩
  unfold digest_Sum digest_Sum_s0
  rw [h1, bnd_ok]
  dsimp only
  rw [if_pos (by decide), h2, bnd_ok, bnd_ok]
  dsimp only
  rw [if_neg (by decide), h3, bnd_ok]

theorem Sum_none {K : Nat} (hK : 18446744073709551616 ≤ K) {h : Int} (hk : known h = false) {C S : List Int} {w : World} (T : Tabs w C S) (s : Sl) :
    ∃ w', digest_Sum K h s w = some ((⟨none, 0, 0⟩, 10, ()), w') ∧ Upd none_ w w' := by
  obtain ⟨w1, g, h1, h2, h3, h4⟩ := New_ok hK h T.sl T.sin T.gs
  rw [hk, if_neg (by decide), if_neg (by decide)] at h1
  refine ⟨w1, ?_, h2⟩
  unfold digest_Sum digest_Sum_s0
  rw [h1, bnd_ok]
  dsimp only
  rw [if_neg (by decide), bnd_ok]
  dsimp only
  rw [if_pos (by decide)]

end Go.Sh

/- The document's answer's Sum, whole: it is the digest that the program tells. -/
set_option linter.unusedVariables false
namespace Go.Sh
open Go.Fw Go.Sha Go.RowKit Go.Proofs.Tryd

theorem padZ_iff {b len j : Nat} (hb : b = 64 ∨ b = 128) (hj : j ≤ padZ b (b / 8) len) : (len + 1 + j + b / 8) % b = 0 ↔ j = padZ b (b / 8) len := by
  unfold padZ at *
  rcases hb with rfl | rfl <;> omega

theorem laid_l0 (K B : Nat) {b0 : Sl} {bk : Nat} (hb : bk = 64 ∨ bk = 128) {len0 : Nat} (hl0 : len0 ≤ 1099511627776) {zs : List Int} (hz : zs.length = len0 + 1) :
    ∀ (d j n : Nat) (w : World) (p : Sl), j + d = padZ bk (bk / 8) len0 → d < n → Own 5 w p (ints .u8 (zs ++ List.replicate j 0)) → B ≤ w.heap.size → Fresh B p →
      ∃ p' w', ref01_laid_l0 K n b0 (bk : Int) p w = some ((p', ()), w') ∧ Own 5 w' p' (ints .u8 (zs ++ List.replicate (padZ bk (bk / 8) len0) 0)) ∧ Below B w w' ∧ Fresh B p' := by
  have hzl := padZ_lt (m := bk / 8) (len := len0) hb
  have hbk : bk ≤ 128 := by omega
  have e0 : IntKind.i64.wrap (Int.tdiv (bk : Int) 8) = ((bk / 8 : Nat) : Int) := by rw [show (8 : Int) = ((8 : Nat) : Int) from rfl, tdiv_nat, wn64 (by omega)]
  intro d
  induction d with
  | zero =>
    intro j n w p hj hn ho hB hf
    obtain ⟨n, rfl⟩ : ∃ m, n = m + 1 := ⟨n - 1, by omega⟩
    have hpl : p.len = len0 + 1 + j := by rw [ho.len, ints_length, List.length_append, List.length_replicate]; omega
    have e1 : IntKind.i64.wrap (((p.len : Nat) : Int) + ((bk / 8 : Nat) : Int)) = ((len0 + 1 + j + bk / 8 : Nat) : Int) := by rw [hpl, w64 (by omega) (by omega)]; omega
    have hd : (Int.tmod ((len0 + 1 + j + bk / 8 : Nat) : Int) (bk : Int) != 0) = false := by
      rw [tmod_nat]
      have := (padZ_iff hb (by omega)).2 (show j = padZ bk (bk / 8) len0 by omega)
      rw [this]; rfl
    refine ⟨p, w, ?_, by rw [show padZ bk (bk / 8) len0 = j by omega]; exact ho, Below.refl B w, hf⟩
    show ref01_laid_l0_b K (ref01_laid_l0 K n) b0 (bk : Int) p w = _
    unfold ref01_laid_l0_b
    rw [if_pos (by omega), e0, e1, hd, if_neg (by decide)]
  | succ d ih =>
    intro j n w p hj hn ho hB hf
    obtain ⟨n, rfl⟩ : ∃ m, n = m + 1 := ⟨n - 1, by omega⟩
    have hpl : p.len = len0 + 1 + j := by rw [ho.len, ints_length, List.length_append, List.length_replicate]; omega
    have e1 : IntKind.i64.wrap (((p.len : Nat) : Int) + ((bk / 8 : Nat) : Int)) = ((len0 + 1 + j + bk / 8 : Nat) : Int) := by rw [hpl, w64 (by omega) (by omega)]; omega
    have hd : (Int.tmod ((len0 + 1 + j + bk / 8 : Nat) : Int) (bk : Int) != 0) = true := by
      rw [tmod_nat]
      have := (padZ_iff hb (show j ≤ padZ bk (bk / 8) len0 by omega)).1
      simp only [bne_iff_ne, ne_eq]
      intro e
      have := this (by omega)
      omega
    obtain ⟨w1, s2, w2, h1, h2, o2, l2, bl2, hf2⟩ := push1 0 ho (by omega) hB hf
    have er : zs ++ List.replicate j 0 ++ [(0 : Int)] = zs ++ List.replicate (j + 1) 0 := by rw [List.append_assoc, List.replicate_succ']
    rw [er] at o2
    obtain ⟨s3, w3, h3, o3, bl3, hf3⟩ := ih (j + 1) n w2 s2 (by omega) (by omega) o2 (by have := bl2.size; omega) hf2
    refine ⟨s3, w3, ?_, o3, bl2.trans bl3, hf3⟩
    show ref01_laid_l0_b K (ref01_laid_l0 K n) b0 (bk : Int) p w = _
    unfold ref01_laid_l0_b
    rw [if_pos (by omega), e0, e1, hd, if_pos rfl, h1, bnd_ok]
    show bnd (apd prog 25 25 (.slice p.a p.len p.cap) (.slice (some ⟨w.heap.size, 0, none⟩) 1 1) w1) _ = _
    rw [h2, bnd_ok, h3]

/-- the number of bits, in so many bytes -/
def tailB (x : Int) : Nat → List Int
  | 0 => []
  | n + 1 => (if n ≥ 8 then 0 else IntKind.u8.wrap (Int.fdiv x (2 ^ (8 * n)))) :: tailB x n

theorem tailB_len (x : Int) : ∀ n, (tailB x n).length = n
  | 0 => rfl
  | n + 1 => by simp [tailB, tailB_len x n]
theorem tailB_8 (x : Int) : tailB x 8 = bigB x 8 := rfl
theorem tailB_16 (x : Int) : tailB x 16 = List.replicate 8 0 ++ bigB x 8 := rfl

theorem laid_l1 (K B : Nat) {bits : Int} : ∀ (m n : Nat) (w : World) (p : Sl) (xs : List Int), m ≤ 16 → m < n → Own 5 w p (ints .u8 xs) → p.len + m ≤ 140737488355328 → B ≤ w.heap.size → Fresh B p →
    ∃ p' w', ref01_laid_l1 K n p bits ((m : Int) - 1) w = some ((p', ()), w') ∧ Own 5 w' p' (ints .u8 (xs ++ tailB bits m)) ∧ Below B w w' ∧ Fresh B p' := by
  intro m
  induction m with
  | zero =>
    intro n w s xs hm hn ho hs hB hf
    obtain ⟨n, rfl⟩ : ∃ k, n = k + 1 := ⟨n - 1, by omega⟩
    refine ⟨s, w, ?_, by simpa [tailB] using ho, Below.refl B w, hf⟩
    show ref01_laid_l1_b K (ref01_laid_l1 K n) s bits (((0 : Nat) : Int) - 1) w = _
    simp [ref01_laid_l1_b]
  | succ m ih =>
    intro n w s xs hm hn ho hs hB hf
    obtain ⟨n, rfl⟩ : ∃ k, n = k + 1 := ⟨n - 1, by omega⟩
    have e0 : (((m + 1 : Nat) : Int) - 1) = (m : Int) := by omega
    have hd : decide ((m : Int) ≥ 0) = true := by simp
    have e8 : IntKind.u64.wrap (IntKind.i64.wrap (8 * (m : Int))) = ((8 * m : Nat) : Int) := by rw [w64 (by omega) (by omega), IntKind.wrap_u64]; omega
    have e1 : IntKind.i64.wrap ((m : Int) - 1) = (m : Int) - 1 := w64 (by omega) (by omega)
    obtain ⟨w1, s2, w2, h1, h2, o2, l2, bl2, hf2⟩ := push1 (if m ≥ 8 then 0 else IntKind.u8.wrap (Int.fdiv bits (2 ^ (8 * m)))) ho (by omega) hB hf
    obtain ⟨s3, w3, h3, o3, bl3, hf3⟩ := ih n w2 s2 _ (by omega) (by omega) o2 (by omega) (by have := bl2.size; omega) hf2
    refine ⟨s3, w3, ?_, by simpa [tailB] using o3, bl2.trans bl3, hf3⟩
    show ref01_laid_l1_b K (ref01_laid_l1 K n) s bits (((m + 1 : Nat) : Int) - 1) w = _
    unfold ref01_laid_l1_b
    rw [e0, hd, if_pos rfl]
    by_cases h8 : m ≥ 8
    · have hd8 : decide ((m : Int) ≥ 8) = true := by simp; omega
      rw [if_pos h8] at h1
      rw [hd8, if_pos rfl, h1, bnd_ok]
      show bnd (apd prog 25 25 (.slice s.a s.len s.cap) (.slice (some ⟨w.heap.size, 0, none⟩) 1 1) w1) _ = _
      rw [h2, bnd_ok, e1, h3]
    · have hd8 : decide ((m : Int) ≥ 8) = false := by simp; omega
      have hmin : min (8 * m) IntKind.u64.bits = 8 * m := Nat.min_eq_left (by simp only [IntKind.bits]; omega)
      rw [if_neg h8] at h1
      rw [hd8, if_neg (by decide), e8, if_pos (Int.natCast_nonneg _), Int.toNat_natCast, hmin, h1, bnd_ok]
      show bnd (apd prog 25 25 (.slice s.a s.len s.cap) (.slice (some ⟨w.heap.size, 0, none⟩) 1 1) w1) _ = _
      rw [h2, bnd_ok, e1, h3]

theorem laid_ok {K : Nat} (hK : 18446744073709551616 ≤ K) {h : Int} (hk : known h = true) {w : World} {b : Sl} {xs : List Int} (hx : Src w b (ints .u8 xs)) (hl : xs.length ≤ 1099511627776) :
    ∃ p w', ref01_laid K b ((blk h : Nat) : Int) w = some ((p, ()), w') ∧ Own 5 w' p (ints .u8 (xs ++ pads h xs.length)) ∧ Upd none_ w w' ∧ Fresh w.heap.size p := by
  have hbl : b.len = xs.length := by rw [hx.len, ints_length]
  have hbk := known_blk hk
  have hwb := wordB_blk h
  have hzl := padZ_lt (m := blk h / 8) (len := xs.length) hbk
  obtain ⟨s1, w1, h1, l1, o1, u1, f1⟩ := apd_ok sliceB (Own.nil 5 w) hx (by show (0 + b.len) * 1 ≤ _; omega)
  rw [List.nil_append] at o1
  have h1 : apd prog 25 25 (.slice none 0 0) (.slice b.a b.len b.cap) w = some (s1, w1) := h1
  have u1' : Upd none_ w w1 := u1.mono fun k _ e => by cases e
  have hf1 : Fresh w.heap.size s1 := by
    intro k hk
    rcases f1 with e | e
    · rw [e] at hk; cases hk
    · rw [e] at hk; have := Option.some.inj hk; omega
  have l1 : s1.len = xs.length := by rw [o1.len, ints_length]
  obtain ⟨w2, s3, w3, h2, h3, o3, l3, bl3, hf3⟩ := push1 128 o1 (by omega) u1'.size hf1
  have hz : (xs ++ [(128 : Int)]).length = xs.length + 1 := by simp
  obtain ⟨s4, w4, h4, o4, bl4, hf4⟩ := laid_l0 K w.heap.size (b0 := b) hbk hl hz (padZ (blk h) (blk h / 8) xs.length) 0 K w3 s3 (by omega) (by omega) (by simpa using o3) (by have := bl3.size; have := u1'.size; omega) hf3
  have l4 : s4.len = xs.length + 1 + padZ (blk h) (blk h / 8) xs.length := by rw [o4.len, ints_length, List.length_append, List.length_replicate, hz]
  obtain ⟨s5, w5, h5, o5, bl5, hf5⟩ := laid_l1 K w.heap.size (bits := IntKind.u64.wrap (((xs.length : Nat) : Int) * 8)) (blk h / 8) K w4 s4 _ (by omega) (by omega) o4 (by omega) (by have := bl3.size; have := u1'.size; have := bl4.size; omega) hf4
  have b1 : Below w.heap.size w w1 := u1'.below (Nat.le_refl _) fun _ _ => id
  refine ⟨s5, w5, ?_, ?_, Upd.of_below (((b1.trans bl3).trans bl4).trans bl5), hf5⟩
  · have ed : IntKind.i64.wrap (Int.tdiv ((blk h : Nat) : Int) 8) = ((blk h / 8 : Nat) : Int) := by rw [show (8 : Int) = ((8 : Nat) : Int) from rfl, tdiv_nat, wn64 (by omega)]
    have em : IntKind.i64.wrap (((blk h / 8 : Nat) : Int) - 1) = ((blk h / 8 : Nat) : Int) - 1 := w64 (by omega) (by omega)
    have el : IntKind.u64.wrap ((b.len : Nat) : Int) = ((xs.length : Nat) : Int) := by rw [hbl, IntKind.wrap_u64]; omega
    unfold ref01_laid
    rw [h1, bnd_ok, h2, bnd_ok]
    dsimp only
    rw [h3, bnd_ok, h4, bnd_ok, ed, em, el, h5, bnd_ok]
  · have e8 : 2 * wordB h = blk h / 8 := by omega
    have : xs ++ pads h xs.length = xs ++ [128] ++ List.replicate (padZ (blk h) (blk h / 8) xs.length) 0 ++ tailB (IntKind.u64.wrap (((xs.length : Nat) : Int) * 8)) (blk h / 8) := by
      unfold pads
      rw [e8]
      rcases hbk with e | e <;> rw [e]
      · rw [show 64 / 8 = 8 from rfl, tailB_8]; simp [List.append_assoc]
      · rw [show 128 / 8 = 16 from rfl, tailB_16, show 16 - 8 = 8 from rfl, ← List.replicate_append_replicate]
        simp [List.append_assoc]
    rw [this]; exact o5

theorem refWide_l1 {K : Nat} (hK : 18446744073709551616 ≤ K) {p : Sl} {bs C : List Int} (hin : ∀ x ∈ bs, InK .u8 x) (hC : C.length = 80) {gh : Nat} (hgR : gh ≠ 1) (hlim : bs.length ≤ 140737488355328) {m0 : Nat} (hbs : bs.length = 128 * m0)
    (hpb : ∀ q, p.a = some q → q.block ≠ gh) {e : TypeId} :
    ∀ (m j n : Nat) (w : World) (V : List Int), m + j = m0 → m < n → V.length = 8 → (∀ q, p.a = some q → q.block < w.heap.size) → RdS .u8 w p bs → Bk e w gh (ints .u64 V) → Rd w ⟨1, 0, none⟩ (ints .u64 C) →
      ∃ w', ref01_Sum_l1 K n ⟨gh, 0, none⟩ p ((128 * j : Nat) : Int) w = some ((), w') ∧ Bk e w' gh (ints .u64 (comps64 C m V (bs.drop (128 * j)))) ∧ Upd (· = gh) w w' := by
  intro m
  induction m with
  | zero =>
    intro j n w V hj hn hV hpl hr hb hT
    obtain ⟨n, rfl⟩ : ∃ m, n = m + 1 := ⟨n - 1, by omega⟩
    refine ⟨w, ?_, hb, Upd.refl _ _⟩
    have hd : decide ((((128 * j : Nat)) : Int) < ((p.len : Nat) : Int)) = false := by rw [hr.len, hbs]; simp; omega
    show ref01_Sum_l1_b K (ref01_Sum_l1 K n) ⟨gh, 0, none⟩ p ((128 * j : Nat) : Int) w = _
    unfold ref01_Sum_l1_b
    rw [hd, if_neg (by decide)]
  | succ m ih =>
    intro j n w V hj hn hV hpl hr hb hT
    obtain ⟨n, rfl⟩ : ∃ m, n = m + 1 := ⟨n - 1, by omega⟩
    have hd : decide ((((128 * j : Nat)) : Int) < ((p.len : Nat) : Int)) = true := by rw [hr.len, hbs]; simp; omega
    have hpl2 := hr.len
    have hpc := hr.cap
    have e1 : IntKind.i64.wrap (((128 * j : Nat) : Int) + 128) = ((128 * (j + 1) : Nat) : Int) := by rw [w64 (by omega) (by omega)]; omega
    have c1 : (0 : Int) ≤ ((128 * (j + 1) : Nat) : Int) ∧ ((128 * (j + 1) : Nat) : Int) ≤ ((p.cap : Nat) : Int) := by omega
    have c2 : (0 : Int) ≤ ((128 * j : Nat) : Int) ∧ ((128 * j : Nat) : Int) ≤ ((128 * (j + 1) : Nat) : Int) := by omega
    have hsub := hr.drew.sub (lo := 128 * j) (hi := 128 * (j + 1)) (by omega) (by omega)
    have hl1 : ((bs.take (128 * (j + 1))).drop (128 * j)).length = 128 := by simp; omega
    have lA := hb.drew.ldA (i := 0) (n := 8) (by rw [ints_length, hV]; decide)
    rw [List.drop_zero, List.take_of_length_le (by rw [ints_length, hV]; decide)] at lA
    obtain ⟨w1, t1, u1⟩ := taken64_ok hK (V := V) (inD fun x hx => hin x (List.mem_of_mem_take (List.mem_of_mem_drop hx))) hl1 hV hC (fun q hq => by obtain ⟨r, hr1, hr2⟩ := sla_blk hq; have := hpl r hr1; rw [hr2]; exact this) hsub (hT.upd (S := none_) (Upd.refl _ _).drew fun _ => id)
    have hcl := comp64_len C V ((bs.take (128 * (j + 1))).drop (128 * j))
    obtain ⟨w2, s2, b2, u2⟩ := (hb.drew.upd0 u1).stA (o := 0) (vs := (ints .u64 (comp64 C V ((bs.take (128 * (j + 1))).drop (128 * j)))).toArray) (by rw [List.size_toArray, ints_length, ints_length, hcl, hV]; decide) (by simpa using ints_one)
    have b2 : Bk e w2 gh (ints .u64 (comp64 C V ((bs.take (128 * (j + 1))).drop (128 * j)))) := by
      have hs : seg (ints .u64 V) 0 (ints .u64 (comp64 C V ((bs.take (128 * (j + 1))).drop (128 * j)))) = ints .u64 (comp64 C V ((bs.take (128 * (j + 1))).drop (128 * j))) := seg_all (by rw [ints_length, ints_length, hcl, hV])
      rw [← hs]; exact b2
    have u12 : Upd (· = gh) w w2 := ((Upd.refl (· = gh) w).drew.and0 u1).trans' u2 fun _ _ e => e
    obtain ⟨w3, h3, b3, u3⟩ := ih (j + 1) n w2 _ (by omega) (by omega) hcl (fun q hq => by have := hpl q hq; have := u12.size; omega) (hr.upd u12 fun q hq => hpb q hq) b2 (hT.upd u12 fun _ e => hgR e.symm)
    have ec : comps64 C m (comp64 C V ((bs.take (128 * (j + 1))).drop (128 * j))) (bs.drop (128 * (j + 1))) = comps64 C (m + 1) V (bs.drop (128 * j)) := by
      have hf := compH_front 512 C V (bs.drop (128 * j)) 128 (by decide)
      have e5 : compH 512 C = comp64 C := by funext a b; rfl
      rw [e5] at hf
      show _ = comps64 C m (comp64 C V (bs.drop (128 * j))) ((bs.drop (128 * j)).drop 128)
      rw [List.drop_take, show 128 * (j + 1) - 128 * j = 128 by omega, hf, List.drop_drop, show 128 * j + 128 = 128 * (j + 1) by omega]
    rw [ec] at b3
    refine ⟨w3, ?_, b3, u12.trans' u3 fun _ _ e => e⟩
    show ref01_Sum_l1_b K (ref01_Sum_l1 K n) ⟨gh, 0, none⟩ p ((128 * j : Nat) : Int) w = _
    unfold ref01_Sum_l1_b
    rw [hd, if_pos rfl, e1, if_pos c1]
    simp only [Int.toNat_natCast]
    rw [if_pos c2, lA, Option.bind_some, t1, bnd_ok, if_pos (by rw [List.size_toArray, ints_length, hcl]), s2, Option.bind_some, h3]

theorem outW_take (H : List Int) (m : Nat) : ∀ k i, i ≤ k → (outW H m k).take (i * m) = outW H m i
  | 0, i, h => by have : i = 0 := by omega
                  subst this; simp [outW]
  | k + 1, i, h => by
    by_cases hk : i = k + 1
    · subst hk; rw [List.take_of_length_le (by rw [outW_len]; exact Nat.le_refl _)]
    · show ((outW H m k ++ bigB (H.getD k 0) m).take (i * m)) = _
      rw [List.take_append_of_le_length (by rw [outW_len]; exact Nat.mul_le_mul_right _ (by omega)), outW_take H m k i (by omega)]

theorem refOut_l3 (K B : Nat) {h : Int} {H : List Int} {gh : Nat} {e : TypeId} (hH : H.length = 8) (hgB : gh < B) {m0 i q : Nat} (hi : i < 8) (hq : sizeOfH h = (q : Int)) (hq2 : q ≤ 64) {n8 : Int} :
    ∀ (m n : Nat) (w : World) (s : Sl) (xs : List Int), m ≤ 8 → m < n → Bk e w gh (ints .u64 H) → Own 5 w s (ints .u8 xs) → xs.length + m ≤ q → B ≤ w.heap.size → Fresh B s →
      ∃ s' w', ref01_Sum_l3 K n h ⟨gh, 0, none⟩ n8 s (i : Int) ((m : Int) - 1) w = some ((s', ()), w') ∧ Own 5 w' s' (ints .u8 (xs ++ bigB (H.getD i 0) m)) ∧ Below B w w' ∧ Fresh B s' := by
  intro m
  induction m with
  | zero =>
    intro n w s xs hm hn hb ho hl hB hf
    obtain ⟨n, rfl⟩ : ∃ k, n = k + 1 := ⟨n - 1, by omega⟩
    refine ⟨s, w, ?_, by simpa [bigB] using ho, Below.refl B w, hf⟩
    show ref01_Sum_l3_b K (ref01_Sum_l3 K n) h ⟨gh, 0, none⟩ n8 s (i : Int) (((0 : Nat) : Int) - 1) w = _
    simp [ref01_Sum_l3_b, ref01_Sum_s4]
  | succ m ih =>
    intro n w s xs hm hn hb ho hl hB hf
    obtain ⟨n, rfl⟩ : ∃ k, n = k + 1 := ⟨n - 1, by omega⟩
    have hsl : s.len = xs.length := by rw [ho.len, ints_length]
    have e0 : (((m + 1 : Nat) : Int) - 1) = (m : Int) := by omega
    have hd : decide ((m : Int) ≥ 0) = true := by simp
    have hd2 : decide (((s.len : Nat) : Int) < (q : Int)) = true := by rw [hsl]; simp; omega
    have e8 : IntKind.u64.wrap (IntKind.i64.wrap (8 * (m : Int))) = ((8 * m : Nat) : Int) := by rw [w64 (by omega) (by omega), IntKind.wrap_u64]; omega
    have e1 : IntKind.i64.wrap ((m : Int) - 1) = (m : Int) - 1 := w64 (by omega) (by omega)
    have hmin : min (8 * m) IntKind.u64.bits = 8 * m := Nat.min_eq_left (by simp only [IntKind.bits]; omega)
    have c : (0 : Int) ≤ (i : Int) ∧ (i : Int) < ((8 : Nat) : Int) := by omega
    have lI : ldI .u64 ⟨gh, i, none⟩ w = some (H.getD i 0) := hb.ldI (by rw [ints_get (by omega)]; simp [List.getD_eq_getElem?_getD, show i < H.length by omega])
    obtain ⟨w1, s2, w2, h1, h2, o2, l2, bl2, hf2⟩ := push1 (IntKind.u8.wrap (Int.fdiv (H.getD i 0) (2 ^ (8 * m)))) ho (by omega) hB hf
    obtain ⟨s3, w3, h3, o3, bl3, hf3⟩ := ih n w2 s2 _ (by omega) (by omega) (hb.upd (upd_of_below bl2) (by omega)) o2 (by rw [List.length_append, List.length_singleton]; omega) (by have := bl2.size; omega) hf2
    refine ⟨s3, w3, ?_, by simpa [bigB] using o3, bl2.trans bl3, hf3⟩
    show ref01_Sum_l3_b K (ref01_Sum_l3 K n) h ⟨gh, 0, none⟩ n8 s (i : Int) (((m + 1 : Nat) : Int) - 1) w = _
    unfold ref01_Sum_l3_b ref01_Sum_s4
    rw [e0, hd, if_pos rfl, refSize_ok, Option.bind_some, hq, hd2, bnd_ok]
    dsimp only
    rw [if_pos rfl, if_pos c]
    simp only [Int.toNat_natCast, add_lit, Nat.mul_one, Nat.zero_add]
    rw [lI, Option.bind_some, e8, if_pos (Int.natCast_nonneg _), Int.toNat_natCast, hmin, h1, bnd_ok]
    dsimp only
    rw [h2, bnd_ok, e1, h3]

theorem refOut_l2 {K : Nat} (hK : 18446744073709551616 ≤ K) (B : Nat) {h : Int} {H : List Int} {gh : Nat} {e : TypeId} (hH : H.length = 8) (hgB : gh < B) {m0 i0 : Nat} (hm : 0 < m0) (hm8 : m0 ≤ 8) (hq : sizeOfH h = ((i0 * m0 : Nat) : Int)) (hi0 : i0 ≤ 8) (hq2 : i0 * m0 ≤ 64) :
    ∀ (d i n : Nat) (w : World) (s : Sl), i + d = i0 → d < n → Bk e w gh (ints .u64 H) → Own 5 w s (ints .u8 (outW H m0 i)) → B ≤ w.heap.size → Fresh B s →
      ∃ s' w', ref01_Sum_l2 K n h ⟨gh, 0, none⟩ (m0 : Int) s (i : Int) w = some ((s', ()), w') ∧ Own 5 w' s' (ints .u8 (outW H m0 i0)) ∧ Below B w w' ∧ Fresh B s' := by
  intro d
  induction d with
  | zero =>
    intro i n w s hi hn hb ho hB hf
    obtain ⟨n, rfl⟩ : ∃ k, n = k + 1 := ⟨n - 1, by omega⟩
    have hsl : s.len = i * m0 := by rw [ho.len, ints_length, outW_len]
    have hii : i = i0 := by omega
    subst hii
    have hd : decide (((s.len : Nat) : Int) < ((i * m0 : Nat) : Int)) = false := by rw [hsl]; simp
    refine ⟨s, w, ?_, ho, Below.refl B w, hf⟩
    show ref01_Sum_l2_b K (ref01_Sum_l2 K n) h ⟨gh, 0, none⟩ (m0 : Int) s (i : Int) w = _
    unfold ref01_Sum_l2_b
    rw [refSize_ok, Option.bind_some, hq, hd, if_neg (by decide)]
  | succ d ih =>
    intro i n w s hi hn hb ho hB hf
    obtain ⟨n, rfl⟩ : ∃ k, n = k + 1 := ⟨n - 1, by omega⟩
    have hsl : s.len = i * m0 := by rw [ho.len, ints_length, outW_len]
    have hlt : i * m0 + m0 ≤ i0 * m0 := by rw [← Nat.succ_mul]; exact Nat.mul_le_mul_right _ (by omega)
    have hd : decide (((s.len : Nat) : Int) < ((i0 * m0 : Nat) : Int)) = true := by rw [hsl]; simp only [decide_eq_true_eq]; omega
    have em : IntKind.i64.wrap ((m0 : Int) - 1) = (m0 : Int) - 1 := w64 (by omega) (by omega)
    have e1 : IntKind.i64.wrap ((i : Int) + 1) = ((i + 1 : Nat) : Int) := by rw [w64 (by omega) (by omega)]; rfl
    obtain ⟨s2, w2, h2, o2, bl2, hf2⟩ := refOut_l3 K B (h := h) hH hgB (m0 := m0) (i := i) (by omega) hq hq2 (n8 := (m0 : Int)) m0 K w s _ hm8 (by omega) hb ho (by rw [outW_len]; omega) hB hf
    obtain ⟨s3, w3, h3, o3, bl3, hf3⟩ := ih (i + 1) n w2 s2 (by omega) (by omega) (hb.upd (upd_of_below bl2) (by omega)) o2 (by have := bl2.size; omega) hf2
    refine ⟨s3, w3, ?_, o3, bl2.trans bl3, hf3⟩
    show ref01_Sum_l2_b K (ref01_Sum_l2 K n) h ⟨gh, 0, none⟩ (m0 : Int) s (i : Int) w = _
    unfold ref01_Sum_l2_b
    rw [refSize_ok, Option.bind_some, hq, hd, if_pos rfl, em, h2, bnd_ok, e1, h3]

theorem refSum_ok {K : Nat} (hK : 18446744073709551616 ≤ K) {h : Int} {C S : List Int} {w : World} (T : TabsR w C S) {b : Sl} {xs : List Int} (hx : Src w b (ints .u8 xs)) (hin : ∀ x ∈ xs, InK .u8 x) (hl : xs.length ≤ 1099511627776) :
    ∃ s' w', ref01_Sum K h b w = some ((s', ()), w') ∧ Own 5 w' s' (ints .u8 (sumOf C S h xs)) ∧ Upd none_ w w' ∧ Fresh w.heap.size s' := by
  unfold sumOf
  cases hk : known h with
  | false =>
    have hb0 : blockOfH h = 0 := by
      have q : h ≠ 224 ∧ h ≠ 256 ∧ h ≠ 384 ∧ h ≠ 512 := by simp [known] at hk; omega
      unfold blockOfH
      rw [if_neg (by omega), if_neg (by omega)]
    refine ⟨⟨none, 0, 0⟩, w, ?_, by simpa using Own.nil 5 w, Upd.refl _ _, fun k hk => by cases hk⟩
    unfold ref01_Sum
    rw [refBlock_ok, Option.bind_some, hb0]
    rfl
  | true =>
    have hb0 : blockOfH h = ((blk h : Nat) : Int) := by rcases known_cases hk with e | e | e | e <;> subst e <;> rfl
    have hbk := known_blk hk
    have hwb := wordB_blk h
    have hbp := blk_pos h
    obtain ⟨i0, hi0, hi8⟩ : ∃ i0 : Nat, sizeOfH h = ((i0 * wordB h : Nat) : Int) ∧ i0 ≤ 8 := by
      rcases known_cases hk with e | e | e | e <;> subst e
      · exact ⟨7, rfl, by decide⟩
      · exact ⟨8, rfl, by decide⟩
      · exact ⟨6, rfl, by decide⟩
      · exact ⟨8, rfl, by decide⟩
    have hsz : h / 8 = ((i0 * wordB h : Nat) : Int) := by rw [← hi0]; unfold sizeOfH; rw [if_pos hk]
    have hq2 : i0 * wordB h ≤ 64 := by
      have : i0 * wordB h ≤ 8 * 8 := Nat.mul_le_mul hi8 (by omega)
      omega
    obtain ⟨w1, h1, u1⟩ := refFirst_ok hK hk T.to.sl T.rs
    obtain ⟨w2, n2, b2, u2, z2⟩ := newB_ok z80 80 w1
    have b2 : Bk 80 w2 w1.heap.size z80.toList := b2
    have hfl : (ints .u64 (firstH S h)).length = 8 := by rw [ints_length, firstH_len]
    obtain ⟨w3, s3, b3, u3, _⟩ := lay' b2 (vs := ints .u64 (firstH S h)) (by rw [hfl]; rfl) ints_one
    have hz1 := u1.size
    have q3 : Upd none_ w w3 := (u1.and0 u2).trans' u3 fun k hk e => by omega
    have hz3 : w.heap.size ≤ w3.heap.size := q3.size
    have hxs3 := hx.upd0 q3
    obtain ⟨p, w4, h4, o4, u4, f4⟩ := laid_ok hK hk hxs3 hl
    have hlen := pads_len h xs.length
    have hzl := padZ_lt (m := 2 * wordB h) (len := xs.length) hbk
    have hin2 : ∀ x ∈ xs ++ pads h xs.length, InK .u8 x := fun x hx => (List.mem_append.1 hx).elim (hin x) (pads_in h _ x)
    have hpb : ∀ q, p.a = some q → q.block ≠ w1.heap.size := fun q hq e => by have := f4 q.block (by simp [Sl.blk, hq]); have := b3.lt; omega
    have hpl : ∀ q, p.a = some q → q.block < w4.heap.size := fun q hq => o4.lt (by simp [Sl.blk, hq])
    have b4 := b3.upd0 u4
    have T4 := T.upd0 (q3.and0 u4)
    have h4T := T.lt
    -- the words behind all blocks
    have key : ∃ w5, ref01_Sum_s0 K ⟨w1.heap.size, 0, none⟩ p ((IntKind.i64.wrap (Int.tdiv ((blk h : Nat) : Int) 16)) == 4) w4 = some ((), w5) ∧
        Bk 80 w5 w1.heap.size (ints .u64 (compsH h C ((xs ++ pads h xs.length).length / blk h) (firstH S h) (xs ++ pads h xs.length))) ∧ Upd (· = w1.heap.size) w4 w5 := by
      have hwhole := pads_whole h hk xs
      have hdm := Nat.div_add_mod (xs ++ pads h xs.length).length (blk h)
      obtain ⟨M, hM⟩ : ∃ M, (xs ++ pads h xs.length).length / blk h = M := ⟨_, rfl⟩
      rw [hwhole, hM, Nat.add_zero] at hdm
      rw [hM]
      have hlt : (xs ++ pads h xs.length).length ≤ 140737488355328 := by rw [List.length_append, hlen]; omega
      rcases hbk with e | e
      · have hn : narrowB h = true := by unfold blk at e; split at e <;> simp_all
        have hd : ((IntKind.i64.wrap (Int.tdiv ((blk h : Nat) : Int) 16)) == 4) = true := by rw [e]; rfl
        rw [e] at hdm
        obtain ⟨m, rfl⟩ : ∃ m, M = m + 1 := ⟨M - 1, by
          have : 0 < (xs ++ pads h xs.length).length := by rw [List.length_append, hlen]; omega
          omega⟩
        have lA := b4.ldA (i := 0) (n := 8) (by rw [hfl]; decide)
        rw [List.drop_zero, List.take_of_length_le (by rw [hfl]; decide)] at lA
        obtain ⟨w5, h5, u5⟩ := refNarrow_ok hK T.to.cl (firstH_len S h) hlt hdm.symm hpl o4.rd T4.rc
        have hcl := comps32_len C (m + 1) (firstH S h) (xs ++ pads h xs.length) (firstH_len S h)
        obtain ⟨w6, s6, b6, u6, _⟩ := lay' (b4.upd0 u5) (vs := ints .u64 (comps32 C (m + 1) (firstH S h) (xs ++ pads h xs.length))) (by rw [hfl, ints_length, hcl]) ints_one
        refine ⟨w6, ?_, ?_, (u5.mono fun _ _ e => e.elim).trans' u6 fun _ _ e => e⟩
        · unfold ref01_Sum_s0
          rw [hd, if_pos rfl, lA, Option.bind_some, h5, bnd_ok, if_pos (by rw [List.size_toArray, ints_length, hcl]), s6, Option.bind_some]
        · have : compsH h C (m + 1) (firstH S h) (xs ++ pads h xs.length) = comps32 C (m + 1) (firstH S h) (xs ++ pads h xs.length) := by unfold compsH; rw [if_pos hn]
          rw [this]; exact b6
      · have hn : ¬ narrowB h = true := by unfold blk at e; split at e <;> simp_all
        have hd : ((IntKind.i64.wrap (Int.tdiv ((blk h : Nat) : Int) 16)) == 4) = false := by rw [e]; rfl
        rw [e] at hdm
        obtain ⟨w5, h5, b5, u5⟩ := refWide_l1 hK hin2 T.to.cl (gh := w1.heap.size) (by omega) hlt hdm.symm hpb M 0 K w4 (firstH S h) (by omega) (by omega) (firstH_len S h) hpl o4.rd b4 T4.rc
        have h5 : ref01_Sum_l1 K K ⟨w1.heap.size, 0, none⟩ p 0 w4 = _ := h5
        rw [Nat.mul_zero, List.drop_zero] at b5
        refine ⟨w5, ?_, ?_, u5⟩
        · unfold ref01_Sum_s0
          rw [hd, if_neg (by decide), h5, bnd_ok]
        · have : compsH h C M (firstH S h) (xs ++ pads h xs.length) = comps64 C M (firstH S h) (xs ++ pads h xs.length) := by unfold compsH; rw [if_neg hn]
          rw [this]; exact b5
    obtain ⟨w5, h5, b5, u5⟩ := key
    have hcl := compsH_len h C ((xs ++ pads h xs.length).length / blk h) (firstH S h) (xs ++ pads h xs.length) (firstH_len S h)
    have hg5 : w1.heap.size < w5.heap.size := b5.lt
    obtain ⟨s6, w6, h6, o6, bl6, f6⟩ := refOut_l2 hK w5.heap.size hcl hg5 (by omega) (by omega) hi0 hi8 hq2 i0 0 K w5 ⟨none, 0, 0⟩ (by omega) (by omega) b5 (by simpa [outW] using Own.nil 5 w5) (Nat.le_refl _) (fun k hk => by cases hk)
    have h6 : ref01_Sum_l2 K K h ⟨w1.heap.size, 0, none⟩ ((wordB h : Nat) : Int) ⟨none, 0, 0⟩ 0 w5 = _ := h6
    have q5 : Upd none_ w w5 := (q3.and0 u4).trans' u5 fun k hk e => by omega
    have hz5 := q5.size
    refine ⟨s6, w6, ?_, ?_, q5.and0 (Upd.of_below bl6), fun k hk => by have := f6 k hk; omega⟩
    · have en : IntKind.i64.wrap (Int.tdiv ((blk h : Nat) : Int) 16) = ((wordB h : Nat) : Int) := by
        rw [show (16 : Int) = ((16 : Nat) : Int) from rfl, tdiv_nat, wn64 (by omega)]; omega
      have hne : (((blk h : Nat) : Int) == 0) = false := by simp; omega
      unfold ref01_Sum
      rw [refBlock_ok, Option.bind_some, hb0]
      dsimp only
      rw [hne, if_neg (by decide), h1, bnd_ok, n2, bnd_ok]
      dsimp only
      rw [if_pos (by rw [List.size_toArray, hfl]), s3, Option.bind_some, h4, bnd_ok, h5, bnd_ok, en, h6, bnd_ok]
    · rw [if_pos rfl]
      unfold digestOf
      rw [hsz, Int.toNat_natCast, outW_take _ _ 8 i0 hi8]; exact o6

end Go.Sh

/- What is lent to the program: copies of parts with marks behind them, and what is left of them; nothing is lost. -/
set_option linter.unusedVariables false
namespace Go.Sh
open Go.Fw Go.Sha Go.RowKit Go.Proofs.Tryd

theorem sliceSS : OneSlice prog 24 25 (.slice none 0 0) 24 := ⟨by kernel_rfl, ⟨t25, by kernel_rfl, by kernel_rfl, by kernel_rfl, by kernel_rfl⟩, by decide, rfl, rfl⟩

/-- one of the copies -/
def LentOne (w : World) (B N : Nat) (l : Sl) (p : Sl × List Int) : Prop :=
  ∃ g cap, p.1 = ⟨some ⟨g, 0, none⟩, p.2.length, cap⟩ ∧ B ≤ g ∧ g < N ∧ l.blk ≠ some g ∧ Own 5 w ⟨some ⟨g, 0, none⟩, p.2.length + 70, cap⟩ (ints .u8 (p.2 ++ marks))

/-- the copies, in blocks from B on up to N -/
structure Lent (w : World) (B N : Nat) (l : Sl) (xss : List (List Int)) : Prop where
  ex : ∃ ps : List (Sl × List Int), ps.map Prod.snd = xss ∧ Own 25 w l (ps.map fun p => slV p.1) ∧ ∀ p ∈ ps, LentOne w B N l p
  fr : ∀ k, l.blk = some k → B ≤ k ∧ k < N
  nn : N ≤ w.heap.size

theorem Lent.upd {w w' : World} {B N : Nat} {l : Sl} {xss : List (List Int)} {X : Nat → Prop} (h : Lent w B N l xss) (u : Upd X w w') (hn : ∀ k, B ≤ k → k < N → ¬ X k) : Lent w' B N l xss := by
  obtain ⟨⟨ps, h1, h2, h3⟩, h4, h5⟩ := h
  refine ⟨⟨ps, h1, h2.upd u fun k hk => hn k (h4 k hk).1 (h4 k hk).2, fun p hp => ?_⟩, h4, Nat.le_trans h5 u.size⟩
  obtain ⟨g, cap, a1, a2, a3, a4, a5⟩ := h3 p hp
  exact ⟨g, cap, a1, a2, a3, a4, a5.upd u fun k hk => by simp [Sl.blk] at hk; subst hk; exact hn _ a2 a3⟩
theorem Lent.upd0 {w w' : World} {B N : Nat} {l : Sl} {xss : List (List Int)} (h : Lent w B N l xss) (u : Upd none_ w w') : Lent w' B N l xss := h.upd u fun _ _ _ => id

theorem take_succ_getD {α : Type} {l : List α} {i : Nat} (hi : i < l.length) (d : α) : l.take (i + 1) = l.take i ++ [l.getD i d] := by
  rw [List.take_add_one, List.getD_eq_getElem?_getD, List.getElem?_eq_getElem hi]; rfl

theorem lent_loop {K : Nat} (hK : 18446744073709551616 ≤ K) {B : Nat} {s : Sl} {xss : List (List Int)} {Q : Nat → Prop} (hQ : ∀ k, Q k → k < B) :
    ∀ (d i n : Nat) (w : World) (l : Sl), i + d = xss.length → d < n → PartsW w s xss Q → Lent w B w.heap.size l (xss.take i) → B ≤ w.heap.size →
      ∃ l' w', law01_lent_l0 K n s l (i : Int) w = some ((l', ()), w') ∧ Lent w' B w'.heap.size l' xss ∧ Below B w w' := by
  intro d
  induction d with
  | zero =>
    intro i n w l hi hn hp hl hB
    obtain ⟨n, rfl⟩ : ∃ m, n = m + 1 := ⟨n - 1, by omega⟩
    have hd : decide ((i : Int) < ((s.len : Nat) : Int)) = false := by rw [hp.len]; simp; omega
    refine ⟨l, w, ?_, by rw [List.take_of_length_le (by omega)] at hl; exact hl, Below.refl B w⟩
    show law01_lent_l0_b K (law01_lent_l0 K n) s l (i : Int) w = _
    unfold law01_lent_l0_b
    rw [hd, if_neg (by decide)]
  | succ d ih =>
    intro i n w l hi hn hp hl hB
    obtain ⟨n, rfl⟩ : ∃ m, n = m + 1 := ⟨n - 1, by omega⟩
    have hm := hp.many
    have hd : decide ((i : Int) < ((s.len : Nat) : Int)) = true := by rw [hp.len]; simp; omega
    obtain ⟨p, t, h1, h2, h3, h5, h6, h7⟩ := hp.at (i := i) (by omega)
    have c : (0 : Int) ≤ (i : Int) ∧ (i : Int) < ((s.len : Nat) : Int) := by rw [hp.len]; omega
    have e1 : IntKind.i64.wrap ((i : Int) + 1) = ((i + 1 : Nat) : Int) := by rw [w64 (by omega) (by omega)]; rfl
    obtain ⟨⟨ps, a1, a2, a3⟩, a4, a5⟩ := hl
    have hpl : ps.length = i := by have := congrArg List.length a1; simp at this; omega
    have hll : l.len = i := by rw [a2.len]; simp [hpl]
    obtain ⟨g, cap, w1, b1, b2, b3, b4⟩ := Bytes_ok hK h3 h6
    obtain ⟨w2, c1, c2, c3, c4⟩ := bldS1_ok sliceSS (.slice (some ⟨g, 0, none⟩) (xss.getD i []).length cap) rfl w1
    have hs1 := b4.size
    have hgl : g < w1.heap.size := b2.lt (by simp [Sl.blk])
    obtain ⟨l3, w3, d1, d2, d3, d4, d5⟩ := apd_ok sliceSS ((a2.upd0 b4).upd0 c3) (c2.src (by simp [Value.oneCell'])) (by show (l.len + 1) * 24 ≤ _; omega)
    have hlb : ∀ k, l.blk = some k → k < w.heap.size := fun k hk => a2.lt hk
    have u3 : Below B w w3 := (((b4.and0 c3).mono (T := fun k => l.blk = some k) fun _ _ e => e.elim).trans' d4 fun _ _ e => e).below hB fun k hk e => by have := a4 k e; omega
    have hone : Lent w3 B w3.heap.size l3 (xss.take (i + 1)) := by
      have hl3 : ∀ k, k < w2.heap.size → l.blk ≠ some k → l3.blk ≠ some k := fun k hk hne e => by
        rcases d5 with d5 | d5
        · exact hne (d5 ▸ e)
        · rw [d5] at e; have := Option.some.inj e; omega
      have hs2 := c3.size
      have hs3 := d4.size
      refine ⟨⟨ps ++ [(⟨some ⟨g, 0, none⟩, (xss.getD i []).length, cap⟩, xss.getD i [])], ?_, ?_, ?_⟩, ?_, Nat.le_refl _⟩
      · rw [List.map_append, a1, take_succ_getD (by omega) []]; rfl
      · rw [List.map_append]; exact d3
      · intro q hq
        rcases List.mem_append.1 hq with hq | hq
        · obtain ⟨g2, cap2, f1, f2, f3, f4, f5⟩ := a3 q hq
          have hg2 : g2 < w.heap.size := by omega
          exact ⟨g2, cap2, f1, f2, by omega, hl3 g2 (by omega) f4, ((f5.upd0 b4).upd0 c3).upd d4 fun k hk e => by simp [Sl.blk] at hk; subst hk; exact f4 e⟩
        · obtain rfl := List.mem_singleton.1 hq
          exact ⟨g, cap, rfl, by omega, by omega, hl3 g (by omega) (fun e => by have := hlb g e; omega), (b2.upd0 c3).upd d4 fun k hk e => by simp [Sl.blk] at hk; subst hk; have := hlb _ e; omega⟩
      · intro k hk
        refine ⟨?_, d3.lt hk⟩
        rcases d5 with d5 | d5
        · exact (a4 k (d5 ▸ hk)).1
        · rw [d5] at hk; have := Option.some.inj hk; omega
    obtain ⟨l4, w4, f1, f2, f3⟩ := ih (i + 1) n w3 l3 (by omega) (by omega) (hp.upd (upd_of_below u3) fun k hk e => by have := hQ k hk; omega) hone (by have := u3.size; omega)
    refine ⟨l4, w4, ?_, f2, u3.trans f3⟩
    show law01_lent_l0_b K (law01_lent_l0 K n) s l (i : Int) w = _
    unfold law01_lent_l0_b
    rw [hd, if_pos rfl, h1, Option.bind_some, if_pos c, Int.toNat_natCast, Nat.mul_one, h2, Option.bind_some, b1, bnd_ok]
    dsimp only
    rw [c1, bnd_ok]
    dsimp only
    rw [d1, bnd_ok, e1, f1]

theorem lent_ok {K : Nat} (hK : 18446744073709551616 ≤ K) {s : Sl} {xss : List (List Int)} {Q : Nat → Prop} {w : World} (hp : PartsW w s xss Q) (hQ : ∀ k, Q k → k < w.heap.size) :
    ∃ l w', law01_lent K s w = some ((l, ()), w') ∧ Lent w' w.heap.size w'.heap.size l xss ∧ Upd none_ w w' := by
  have hm := hp.many
  obtain ⟨l, w', h1, h2, h3⟩ := lent_loop hK hQ xss.length 0 K w nilS (by omega) (by omega) hp ⟨⟨[], rfl, Own.nil .., fun _ h => by simp at h⟩, (fun k hk => by cases hk), Nat.le_refl _⟩ (Nat.le_refl _)
  have h1 : law01_lent_l0 K K s nilS 0 w = _ := h1
  refine ⟨l, w', ?_, h2, Upd.of_below h3⟩
  unfold law01_lent
  rw [h1, bnd_ok]

theorem LentOne.src {w : World} {B N : Nat} {l : Sl} {p : Sl × List Int} (h : LentOne w B N l p) : Src w p.1 (ints .u8 p.2) := by
  obtain ⟨g, cap, a1, a2, a3, a4, a5⟩ := h
  rw [a1]; exact (marked_front a5).src ints_one

theorem Lent.parts {w w0 : World} {B N : Nat} {l s : Sl} {xss : List (List Int)} {Q : Nat → Prop} (h : Lent w B N l xss) (hp : PartsW w0 s xss Q) : Parts w l xss fun k => B ≤ k ∧ k < N := by
  obtain ⟨⟨ps, a1, a2, a3⟩, a4, a5⟩ := h
  have hll : l.len = xss.length := by rw [a2.len, ← a1]; simp
  refine ⟨hll, a2.cap.1, hp.inn, hp.lens, hp.many, ?_⟩
  have hsrc := a2.src (fun v hv => by obtain ⟨x, _, rfl⟩ := List.mem_map.1 hv; rfl)
  rcases hsrc.rd with ⟨b1, b2, b3⟩ | ⟨p, b1, b2⟩
  · left
    have : ps = [] := by simpa using b3
    rw [← a1, this]; rfl
  · right
    refine ⟨p, ps.map Prod.fst, b1, by rw [← a1]; simp, a4 p.block (by simp [Sl.blk, b1]), by rw [List.map_map]; exact b2, fun i hi => ?_⟩
    have hi2 : i < ps.length := by rw [← a1] at hi; simpa using hi
    have e1 : (ps.map Prod.fst).getD i nilS = ps[i].1 := by simp [List.getD_eq_getElem?_getD, hi2]
    have e2 : xss.getD i [] = ps[i].2 := by rw [← a1]; simp [List.getD_eq_getElem?_getD, hi2]
    have h0 := a3 ps[i] (List.getElem_mem hi2)
    rw [e1, e2]
    refine ⟨h0.src, fun q hq => ?_⟩
    obtain ⟨g, cap, f1, f2, f3, f4, f5⟩ := h0
    rw [f1] at hq
    obtain rfl := Option.some.inj hq
    exact ⟨⟨f2, f3⟩, by show g < w.heap.size; omega⟩

theorem Lent.at {w : World} {B N : Nat} {l : Sl} {xss : List (List Int)} (h : Lent w B N l xss) {i : Nat} (hi : i < xss.length) :
    ∃ p g cap, l.a = some p ∧ l.len = xss.length ∧ ldS (p.add i) w = some ⟨some ⟨g, 0, none⟩, (xss.getD i []).length, cap⟩ ∧ B ≤ g ∧ g < N ∧ l.blk ≠ some g ∧ Own 5 w ⟨some ⟨g, 0, none⟩, (xss.getD i []).length + 70, cap⟩ (ints .u8 (xss.getD i [] ++ marks)) := by
  obtain ⟨⟨ps, a1, a2, a3⟩, a4, a5⟩ := h
  have hll : l.len = xss.length := by rw [a2.len, ← a1]; simp
  have hi2 : i < ps.length := by rw [← a1] at hi; simpa using hi
  have e2 : xss.getD i [] = ps[i].2 := by rw [← a1]; simp [List.getD_eq_getElem?_getD, hi2]
  obtain ⟨g, cap, f1, f2, f3, f4, f5⟩ := a3 ps[i] (List.getElem_mem hi2)
  have hsrc := a2.src (fun v hv => by obtain ⟨x, _, rfl⟩ := List.mem_map.1 hv; rfl)
  rcases hsrc.rd with ⟨b1, b2, b3⟩ | ⟨p, b1, b2⟩
  · have : ps = [] := by simpa using b3
    rw [this] at hi2; simp at hi2
  · rw [e2]
    refine ⟨p, g, cap, b1, hll, ?_, f2, f3, f4, f5⟩
    have := b2 i (slV ps[i].1) (by simp [hi2])
    rw [f1] at this
    simp [ldS, this, asS, slV]

theorem whole_loop {K : Nat} (hK : 18446744073709551616 ≤ K) {B N : Nat} {l s : Sl} {xss : List (List Int)} {Q : Nat → Prop} :
    ∀ (d i n : Nat) (w : World), i + d = xss.length → d < n → PartsW w s xss Q → Lent w B N l xss →
      ∃ w', law01_whole_l0 K n l s (i : Int) w = some (.norm (), w') ∧ Upd none_ w w' := by
  intro d
  induction d with
  | zero =>
    intro i n w hi hn hp hl
    obtain ⟨n, rfl⟩ : ∃ m, n = m + 1 := ⟨n - 1, by omega⟩
    have hll : l.len = xss.length := (hl.parts hp).len
    have hd : decide ((i : Int) < ((l.len : Nat) : Int)) = false := by rw [hll]; simp; omega
    refine ⟨w, ?_, Upd.refl _ _⟩
    show law01_whole_l0_b K (law01_whole_l0 K n) l s (i : Int) w = _
    unfold law01_whole_l0_b
    rw [hd, if_neg (by decide)]
  | succ d ih =>
    intro i n w hi hn hp hl
    obtain ⟨n, rfl⟩ : ∃ m, n = m + 1 := ⟨n - 1, by omega⟩
    have hm := hp.many
    have hll : l.len = xss.length := (hl.parts hp).len
    have hd : decide ((i : Int) < ((l.len : Nat) : Int)) = true := by rw [hll]; simp; omega
    have ud : Upd none_ w w.drew := (Upd.refl none_ w).drew
    obtain ⟨p, t, h1, h2, h3, h5, h6, h7⟩ := (hp.upd0 ud).at (i := i) (by omega)
    obtain ⟨q, g, cap, k1, k2, k3, k4, k5, k6, k7⟩ := (hl.upd0 ud).at (i := i) (by omega)
    have c : (0 : Int) ≤ (i : Int) ∧ (i : Int) < ((s.len : Nat) : Int) := by rw [hp.len]; omega
    have c2 : (0 : Int) ≤ (i : Int) ∧ (i : Int) < ((l.len : Nat) : Int) := by rw [hll]; omega
    have e1 : IntKind.i64.wrap ((i : Int) + 1) = ((i + 1 : Nat) : Int) := by rw [w64 (by omega) (by omega)]; rfl
    obtain ⟨w1, b1, u1⟩ := WholeBytes_ok hK k7 h3.rds h6
    rw [decide_eq_true rfl] at b1
    obtain ⟨w2, d1, u2⟩ := ih (i + 1) n w1 (by omega) (by omega) ((hp.upd0 ud).upd0 u1) ((hl.upd0 ud).upd0 u1)
    refine ⟨w2, ?_, (ud.and0 u1).and0 u2⟩
    show law01_whole_l0_b K (law01_whole_l0 K n) l s (i : Int) w = _
    unfold law01_whole_l0_b
    rw [hd, if_pos rfl, k1, Option.bind_some, if_pos c2, h1, Option.bind_some, if_pos c, Int.toNat_natCast, Nat.mul_one, k3, Option.bind_some, h2, Option.bind_some, b1, bnd_ok]
    dsimp only
    rw [if_neg (by decide), e1, d1]

theorem whole_ok {K : Nat} (hK : 18446744073709551616 ≤ K) {B N : Nat} {l s : Sl} {xss : List (List Int)} {Q : Nat → Prop} {w : World} (hp : PartsW w s xss Q) (hl : Lent w B N l xss) :
    ∃ w', law01_whole K l s w = some ((true, ()), w') ∧ Upd none_ w w' := by
  have hm := hp.many
  have hll : l.len = xss.length := (hl.parts hp).len
  obtain ⟨w', h1, u1⟩ := whole_loop hK xss.length 0 K w (by omega) (by omega) hp hl
  have h1 : law01_whole_l0 K K l s 0 w = _ := h1
  refine ⟨w', ?_, u1⟩
  have hd : (((l.len : Nat) : Int) != ((s.len : Nat) : Int)) = false := by rw [hll, hp.len]; simp
  unfold law01_whole
  rw [hd, if_neg (by decide), h1, bnd_ok]

/-- a list of one part -/
theorem one_part {w : World} {b : Sl} {xs : List Int} (hx : Src w b (ints .u8 xs)) (hin : ∀ x ∈ xs, InK .u8 x) (hl : xs.length ≤ 140737488351232) (hb : ∀ q, b.a = some q → q.block < w.heap.size) :
    ∃ w', bldS prog 24 1 #[(0, (.slice b.a b.len b.cap))] w = some (⟨some ⟨w.heap.size, 0, none⟩, 1, 1⟩, w') ∧ Parts w' ⟨some ⟨w.heap.size, 0, none⟩, 1, 1⟩ [xs] (fun k => k < w'.heap.size) ∧ Upd none_ w w' := by
  obtain ⟨w2, c1, c2, c3, c4⟩ := bldS1_ok sliceSS (.slice b.a b.len b.cap) rfl w
  refine ⟨w2, c1, ⟨rfl, Nat.le_refl _, by simpa using hin, by simpa using hl, by simp, .inr ⟨_, [b], rfl, rfl, c2.lt (by simp [Sl.blk]), ?_, fun i hi => ?_⟩⟩, c3⟩
  · rcases (c2.src (by simp [Value.oneCell'])).rd with ⟨b1, _⟩ | ⟨p, b1, b2⟩
    · cases b1
    · obtain rfl := Option.some.inj b1; exact b2
  · have : i = 0 := by simp at hi; omega
    subst this
    exact ⟨hx.upd0 c3, fun q hq => by have := hb q hq; have := c3.size; exact ⟨by omega, by omega⟩⟩

theorem digestOf_len (h : Int) (C H0 xs : List Int) : (digestOf h C H0 xs).length ≤ 64 := by
  have := wordB_blk h
  unfold digestOf
  rw [List.length_take, outW_len]; omega
theorem digestOf_in (h : Int) (C H0 xs : List Int) : ∀ x ∈ digestOf h C H0 xs, InK .u8 x := by
  have key : ∀ (H : List Int) (m i : Nat), ∀ x ∈ outW H m i, InK .u8 x := by
    intro H m i
    induction i with
    | zero => intro x hx; simp [outW] at hx
    | succ i ih =>
      intro x hx
      simp only [outW, List.mem_append] at hx
      rcases hx with hx | hx
      · exact ih x hx
      · exact bigB_in _ m x hx
  intro x hx
  exact key _ _ _ x (List.mem_of_mem_take hx)
theorem sumOf_len (C S : List Int) (h : Int) (xs : List Int) : (sumOf C S h xs).length ≤ 64 := by
  unfold sumOf; split
  · exact digestOf_len ..
  · exact Nat.zero_le _
theorem sumOf_in (C S : List Int) (h : Int) (xs : List Int) : ∀ x ∈ sumOf C S h xs, InK .u8 x := by
  unfold sumOf; split
  · exact digestOf_in h C _ xs
  · intro x hx; simp at hx

/-- Sum, whatever the number -/
theorem Sum_any {K : Nat} (hK : 18446744073709551616 ≤ K) (h : Int) {C S : List Int} {w : World} (T : Tabs w C S) {s : Sl} {xss : List (List Int)} {Q : Nat → Prop} (hp : Parts w s xss Q) (hQ : ∀ k, Q k → k < w.heap.size) (hl : xss.flatten.length ≤ 33554432) :
    ∃ s' w', digest_Sum K h s w = some ((s', (if known h = true then 0 else 10), ()), w') ∧ Vw 5 w' s' (ints .u8 (sumOf C S h xss.flatten)) ∧ Fresh w.heap.size s' ∧ Upd none_ w w' := by
  cases hk : known h with
  | true =>
    obtain ⟨s', w', h1, h2, h3⟩ := Sum_ok hK hk T hp hQ hl
    refine ⟨s', w', h1, ?_, h2.fresh, h3⟩
    unfold sumOf
    rw [if_pos hk]
    exact h2.vw (Nat.le_trans (digestOf_len ..) (by decide))
  | false =>
    obtain ⟨w', h1, h3⟩ := Sum_none hK hk T s
    refine ⟨⟨none, 0, 0⟩, w', h1, ?_, (fun k hk => by cases hk), h3⟩
    unfold sumOf
    rw [hk, if_neg (by decide)]
    exact Vw.nil 5 w'

end Go.Sh

/- DigestSums: every Sum of any parts. -/
set_option linter.unusedVariables false
namespace Go.Sh
open Go.Fw Go.Sha Go.RowKit Go.Proofs.Tryd

theorem size_zero (h : Int) : (sizeOfH h == 0) = !known h := by
  unfold sizeOfH
  cases hk : known h with
  | false => rw [if_neg (by decide)]; rfl
  | true =>
    rw [if_pos rfl]
    rcases known_cases hk with e | e | e | e <;> subst e <;> rfl

theorem known256 : known 256 = true := rfl

theorem lt_of_blk {w : World} {s : Sl} (h : ∀ k, s.blk = some k → k < w.heap.size) : ∀ q, s.a = some q → q.block < w.heap.size := fun q hq => h q.block (by simp [Sl.blk, hq])

abbrev abcB : List Int := [97, 98, 99]
theorem abcB_in : ∀ x ∈ abcB, InK .u8 x := by
  intro x hx
  simp only [List.mem_cons, List.not_mem_nil, or_false] at hx
  rcases hx with rfl | rfl | rfl <;> exact ⟨by decide, by decide⟩

theorem DigestSums_ok {K : Nat} (hK : 18446744073709551616 ≤ K) (h : Int) {C S : List Int} {w : World} (T : TabsR w C S) {s : Sl} {xss : List (List Int)} {Q : Nat → Prop} (hp : PartsW w s xss Q) (hQ : ∀ k, Q k → k < w.heap.size) :
    ∃ w', law01_DigestSums K h s w = some ((true, ()), w') ∧ Upd none_ w w' := by
  obtain ⟨sJ, w1, j1, oJ, u1, fJ⟩ := joined_ok hK hp hQ
  have hjl : sJ.len = (jn [] xss).length := by rw [oJ.len, ints_length]
  unfold law01_DigestSums
  rw [j1, bnd_ok]
  dsimp only
  by_cases hc : (jn [] xss).length ≤ 65536
  case neg =>
    have hd : decide (((sJ.len : Nat) : Int) > 65536) = true := by rw [hjl]; simp only [decide_eq_true_eq]; omega
    rw [hd, if_pos rfl]
    exact ⟨w1, rfl, u1⟩
  have hd : decide (((sJ.len : Nat) : Int) > 65536) = false := by rw [hjl]; simp only [decide_eq_false_iff_not]; omega
  have hj := jn_le xss [] hc
  rw [List.nil_append] at hj
  rw [hj] at oJ hjl hc
  have hxin : ∀ x ∈ xss.flatten, InK .u8 x := fun x hx => by
    obtain ⟨l, hl, hx⟩ := List.mem_flatten.1 hx
    exact hp.inn l hl x hx
  rw [hd, if_neg (by decide)]
  have hs1 := u1.size
  obtain ⟨l, w2, j2, L, u2⟩ := lent_ok hK (hp.upd0 u1) (fun k hk => by have := hQ k hk; omega)
  have hs2 := u2.size
  have hLN := L.nn
  have P2 := L.parts hp
  have T2 := (T.upd0 u1).upd0 u2
  obtain ⟨a, w3, j3, va, fa, u3⟩ := Sum_any hK h T2.to P2 (fun k hk => hk.2) (by omega)
  have hs3 := u3.size
  obtain ⟨w4, w5, j4, j5, s5, u5, z5⟩ := bytesC (P := prog) sliceB (by kernel_rfl) abcB (by decide) (by decide) w3
  have j4 : bldS prog 25 3 #[(0, (.int .u8 97)), (1, (.int .u8 98)), (2, (.int .u8 99))] w3 = _ := j4
  have hs5 := u5.size
  obtain ⟨w6, j6, P6, u6⟩ := one_part s5 abcB_in (by decide) (fun q hq => by obtain rfl := Option.some.inj hq; exact z5)
  have hs6 := u6.size
  have T6 := ((T2.upd0 u3).upd0 u5).upd0 u6
  obtain ⟨c, w7, j7, vc, fc, u7⟩ := Sum_any hK 256 T6.to P6 (fun k hk => hk) (by decide)
  have hs7 := u7.size
  rw [known256, if_pos rfl] at j7
  have ec : ([abcB] : List (List Int)).flatten = abcB := rfl
  rw [ec] at vc
  have q27 : Upd none_ w2 w7 := ((u3.and0 u5).and0 u6).and0 u7
  obtain ⟨b, w8, j8, vb, fb, u8⟩ := Sum_any hK h (T2.upd0 q27).to (P2.upd0 q27) (fun k hk => by omega) (by omega)
  have hs8 := u8.size
  have q28 := q27.and0 u8
  obtain ⟨r, w9, j9, or9, u9, fr⟩ := refSum_ok hK (h := h) (T2.upd0 q28) (((oJ.upd0 u2).upd0 q28).src ints_one) hxin (by omega)
  have hs9 := u9.size
  have hal := sumOf_len C S h xss.flatten
  -- the checks
  obtain ⟨w10, k10, u10⟩ := SameBytes_ok hK ((va.upd0 (((u5.and0 u6).and0 u7).and0 (u8.and0 u9))).rd) or9.rd (by omega)
  obtain ⟨w11, k11, u11⟩ := SameBytes_ok hK ((vb.upd0 u9).upd0 u10).rd (or9.upd0 u10).rd (by omega)
  have q211 := ((q28.and0 u9).and0 u10).and0 u11
  obtain ⟨w12, k12, u12⟩ := whole_ok hK (((hp.upd0 u1).upd0 u2).upd0 q211) (L.upd0 q211)
  rw [decide_eq_true rfl] at k10 k11
  have hs10 := u10.size
  have hs11 := u11.size
  have hs12 := u12.size
  have hs1 : ∀ want : Int, want = (if known h = true then 0 else 10) → law01_DigestSums_s1 K s l a (if known h = true then 0 else 10) 0 b (if known h = true then 0 else 10) r want w9 = some ((false, ()), w12) := by
    intro want hw
    unfold law01_DigestSums_s1 law01_num
    rw [hw, Option.bind_some]
    dsimp only
    rw [bne_self_eq_false, if_neg (by decide), Option.bind_some, bne_self_eq_false, if_neg (by decide), Option.bind_some, if_neg (by decide), k10, bnd_ok]
    dsimp only
    rw [if_neg (by decide), k11, bnd_ok]
    dsimp only
    rw [if_neg (by decide), k12, bnd_ok]
    rfl
  obtain ⟨w13, w14, j13, j14, s14, u14, z14⟩ := bytesC (P := prog) sliceB (by kernel_rfl) abcB (by decide) (by decide) w12
  have j13 : bldS prog 25 3 #[(0, (.int .u8 97)), (1, (.int .u8 98)), (2, (.int .u8 99))] w12 = _ := j13
  have q212 := q211.and0 u12
  have q214 := q212.and0 u14
  have hs14 := u14.size
  obtain ⟨g, w15, j15, og, u15, fg⟩ := refSum_ok hK (h := 256) (T2.upd0 q214) s14 abcB_in (by decide)
  have hs15 := u15.size
  have q315 : Upd none_ w3 w15 := (((((((((u5.and0 u6).and0 u7).and0 u8).and0 u9).and0 u10).and0 u11).and0 u12).and0 u14).and0 u15)
  obtain ⟨w16, j16, u16⟩ := SpoilBytes_ok hK (va.upd0 q315) (by omega)
  have hs16 := u16.size
  have hab : ∀ k, a.blk = some k → w2.heap.size ≤ k ∧ k < w3.heap.size := fun k hk => ⟨fa k hk, va.lt hk⟩
  -- all but a is as it was
  have vb16 := (vb.upd0 ((((((u9.and0 u10).and0 u11).and0 u12).and0 u14).and0 u15))).upd u16 fun k hk e => by have := hab k e; have := fb k hk; omega
  have vc16 := (vc.upd0 (((((((u8.and0 u9).and0 u10).and0 u11).and0 u12).and0 u14).and0 u15))).upd u16 fun k hk e => by have := hab k e; have := fc k hk; omega
  have or16 := (or9.upd0 (((((u10.and0 u11).and0 u12).and0 u14).and0 u15))).upd u16 fun k hk e => by have := hab k e; have := fr k hk; omega
  have og16 := og.upd u16 fun k hk e => by have := hab k e; have := fg k hk; omega
  have q215 := q214.and0 u15
  have T16 := (T2.upd0 q215).upd u16 fun k hk e => by have := hab k e; have := T2.lt; omega
  have P16 := (P2.upd0 q215).upd u16 fun k hk e => by have := hab k e; omega
  obtain ⟨w17, k17, u17⟩ := SameBytes_ok hK vb16.rd or16.rd (by omega)
  have hcl := sumOf_len C S 256 abcB
  obtain ⟨w18, k18, u18⟩ := SameBytes_ok hK (vc16.upd0 u17).rd (og16.upd0 u17).rd (by omega)
  rw [decide_eq_true rfl] at k17 k18
  have hs17 := u17.size
  have hs18 := u18.size
  have hs2' : law01_DigestSums_s2 K c b r g w16 = some ((false, ()), w18) := by
    unfold law01_DigestSums_s2
    rw [k17, bnd_ok]
    dsimp only
    rw [if_neg (by decide), k18, bnd_ok]
    rfl
  obtain ⟨d, w19, j19, vd, fd, u19⟩ := Sum_any hK h ((T16.upd0 u17).upd0 u18).to ((P16.upd0 u17).upd0 u18) (fun k hk => by omega) (by omega)
  have hs19 := u19.size
  obtain ⟨w20, k20, u20⟩ := SameBytes_ok hK vd.rd (((or16.upd0 u17).upd0 u18).upd0 u19).rd (by omega)
  rw [decide_eq_true rfl] at k20
  have q02 : Upd none_ w w2 := u1.and0 u2
  have q015 : Upd none_ w w15 := q02.and0 q215
  have q016 : Upd none_ w w16 := q015.trans' u16 fun k hk e => by have := hab k e; omega
  refine ⟨w20, ?_, ((q016.and0 u17).and0 u18).and0 (u19.and0 u20)⟩
  rw [j2, bnd_ok]
  dsimp only
  rw [j3, bnd_ok, j4, bnd_ok]
  dsimp only
  rw [j5, bnd_ok]
  dsimp only [asS]
  rw [Option.bind_some]
  dsimp only
  rw [j6, bnd_ok, j7, bnd_ok, j8, bnd_ok, j9, bnd_ok, refSize_ok, Option.bind_some]
  dsimp only
  have hs0 : law01_DigestSums_s0 K 0 (sizeOfH h == 0) w9 = some (((if known h = true then 0 else 10), ()), w9) := by
    unfold law01_DigestSums_s0
    rw [size_zero]
    cases known h <;> rfl
  rw [hs0, bnd_ok]
  dsimp only
  rw [hs1 _ rfl, bnd_ok]
  dsimp only
  rw [if_neg (by decide), j13, bnd_ok]
  dsimp only
  rw [j14, bnd_ok]
  dsimp only [asS]
  rw [Option.bind_some, j15, bnd_ok, j16, bnd_ok, hs2', bnd_ok]
  dsimp only
  rw [if_neg (by decide), j19, bnd_ok]
  dsimp only
  unfold law01_num
  rw [Option.bind_some]
  dsimp only
  rw [if_pos (by simp), k20, bnd_ok]

end Go.Sh

/- What a reading of a [][]byte gives. -/
set_option linter.unusedVariables false
namespace Go.Sh
open Go.Fw Go.Sha Go.RowKit Go.Proofs.Tryd Go.Deep Go.ChangeShapes Go.WideShapes

theorem weights_all {H : Type} {P : Program} {e : TypeId} : ∀ {ds : List (DataW H)} {d : DataW H}, d ∈ ds → ∀ n ∈ d.weights P e, n ∈ DataW.weightsAll P e ds
  | [], _, h, _, _ => by simp at h
  | d0 :: r, d, h, n, hn => by
    simp only [DataW.weightsAll, List.mem_append]
    rcases List.mem_cons.1 h with rfl | h
    · exact .inl hn
    · exact .inr (weights_all h n hn)

theorem wf_u8 {n : Int} (h : (Lit.int .u8 n).wf = true) : InK .u8 n := by
  have h2 : 0 ≤ n ∧ n ≤ 255 := by simpa [Lit.wf, IntKind.bits, IntKind.min, IntKind.max, IntKind.signed] using h
  exact ⟨h2.1, by have := h2.2; simp only [IntKind.bits]; omega⟩

theorem bytes_of_B : 1 ≤ prog.bytesOf 5 := of_decide_eq_true (by kernel_rfl)
theorem bytes_of_T : prog.bytesOf 25 = 24 := by kernel_rfl
theorem und_B : prog.underlying 5 = some (.int .u8) := by kernel_rfl
theorem cells_of_B : prog.cellsOf 5 = 1 := by kernel_rfl
theorem cells_of_T : prog.cellsOf 25 = 1 := by kernel_rfl

/-- what is in reach -/
theorem lits_len {H : Type} {κ : IntKind} {zs : List Int} {n : Nat} : (lits (H := H) κ (zs.take n)).length + (lits (H := H) κ (zs.drop n)).length = zs.length := by
  simp only [lits, List.length_map, List.length_take, List.length_drop]; omega

theorem open_parts {H : Type} {enc : TypeId × Value → H} {W : World} {d : DataW H} {p : List MemPlace} {a : Option Addr} {len cap : Nat} (h : DataW.Trod enc prog W 0 (fun _ => true) true 24 (.slice a len cap) d p) (hw : ∀ n ∈ d.weights prog 24, n ≤ reachBytes) :
    ∃ xss, PartsW W ⟨a, len, cap⟩ xss (fun k => k < W.heap.size) := by
  obtain ⟨fuel, hf⟩ := h
  rcases open_int_rows sliceSS.ht sliceB.ht und_B cells_of_T cells_of_B hf with ⟨hcs, hx⟩ | ⟨a', len', cap', A, L, C, Z, hcs, _, hl, hm, hx, hrows⟩
  · simp [Value.cells] at hcs
    obtain ⟨rfl, rfl, rfl⟩ := hcs
    exact ⟨[], rfl, Nat.le_refl _, by simp, by simp, by simp, .inl rfl⟩
  simp [Value.cells] at hcs
  obtain ⟨rfl, rfl, rfl⟩ := hcs
  simp only [Prod.mk.injEq] at hx
  obtain ⟨rfl, rfl⟩ := hx
  have hrb : reachBytes = 140737488351232 := rfl
  have hwt : ∀ n ∈ (len + (cap - len)) * 24 :: (DataW.weightsAll prog 25 ((List.range len).map fun r => intRow (H := H) .u8 (A r) (L r) (Z r))), n ≤ 140737488351232 := by
    intro n hn
    refine hw n ?_
    simp only [DataW.weights, sliceSS.ht, bytes_of_T, List.length_map, List.length_range]
    rcases List.mem_cons.1 hn with rfl | hn
    · exact List.mem_cons_self ..
    · exact List.mem_cons_of_mem _ (List.mem_append_left _ hn)
  have hcap := hwt _ (List.mem_cons_self ..)
  have hzl : ∀ r, r < len → (Z r).length ≤ 140737488351232 := by
    intro r hr
    obtain ⟨h1, h2, h3, h4, h5, h6, h7⟩ := hrows r (by omega)
    cases hA : A r with
    | none => have := h6 hA; omega
    | some x =>
      have hmem : intRow (H := H) .u8 (A r) (L r) (Z r) ∈ (List.range len).map fun r => intRow (H := H) .u8 (A r) (L r) (Z r) := List.mem_map.2 ⟨r, List.mem_range.2 hr, rfl⟩
      have := hwt ((Z r).length * prog.bytesOf 5) (List.mem_cons_of_mem _ (weights_all hmem _ (by
        rw [hA]
        simp only [intRow, DataW.weights, sliceB.ht, lits_len]
        exact List.mem_cons_self ..)))
      exact Nat.le_trans (Nat.le_mul_of_pos_right _ bytes_of_B) this
  have hg : ∀ r, r < len → ((List.range len).map fun r => (Z r).take (L r)).getD r [] = (Z r).take (L r) := fun r hr => by simp [List.getD_eq_getElem?_getD, hr]
  have hg2 : ∀ r, r < len → ((List.range len).map fun r => (⟨A r, L r, C r⟩ : Sl)).getD r nilS = ⟨A r, L r, C r⟩ := fun r hr => by simp [List.getD_eq_getElem?_getD, hr]
  refine ⟨(List.range len).map fun r => (Z r).take (L r), by simp, hl, ?_, ?_, by simp only [List.length_map, List.length_range]; omega, ?_⟩
  · intro xs hxs x hx
    obtain ⟨r, hr, rfl⟩ := List.mem_map.1 hxs
    obtain ⟨h1, h2, h3, h4, h5, h6, h7⟩ := hrows r (by have := List.mem_range.1 hr; omega)
    exact wf_u8 (h5 x (List.mem_of_mem_take hx))
  · intro xs hxs
    obtain ⟨r, hr, rfl⟩ := List.mem_map.1 hxs
    have := hzl r (List.mem_range.1 hr)
    simp; omega
  · by_cases h0 : len = 0
    · left; rw [h0]; rfl
    right
    refine ⟨a', (List.range len).map fun r => ⟨A r, L r, C r⟩, rfl, by simp, World.block_lt_of_cell? W _ (by have := (hrows 0 (by omega)).1; simpa [Addr.add] using this), ?_, fun i hi => ?_⟩
    · intro i v hv
      simp only [List.map_map, List.getElem?_map] at hv
      obtain ⟨r, hr, rfl⟩ := Option.map_eq_some_iff.1 hv
      rw [List.getElem?_range (by have := (List.getElem?_eq_some_iff.1 hr).1; simpa using this)] at hr
      obtain rfl := Option.some.inj hr
      have hi : i < len := by
        by_cases hi : i < len
        · exact hi
        · simp [List.getElem?_eq_none (show (List.range len).length ≤ i by simp; omega)] at hv
      exact (hrows i (by omega)).1
    · have hi : i < len := by simpa using hi
      rw [hg i hi, hg2 i hi]
      obtain ⟨h1, h2, h3, h4, h5, h6, h7⟩ := hrows i (by omega)
      have hrd : ∀ x, A i = some x → Rd W x (ints .u8 ((Z i).take (L i))) := by
        intro x hx j v hv
        have hj : j < L i ∧ j < (Z i).length := by
          have := (List.getElem?_eq_some_iff.1 hv).1
          simp at this; omega
        have := (h7 x hx).2 j (by omega)
        rw [this]
        simp only [ints, List.getElem?_map, List.getElem?_take, if_pos hj.1] at hv
        rw [List.getElem?_eq_getElem hj.2] at hv
        rw [List.getD_eq_getElem?_getD, List.getElem?_eq_getElem hj.2]
        exact hv
      refine ⟨⟨by simp; omega, h2, ?_, ints_one⟩, fun q hq hne => ?_⟩
      · cases hA : A i with
        | none => left; have := h6 hA; exact ⟨rfl, this, by rw [List.eq_nil_of_length_eq_zero (show ((Z i).take (L i)).length = 0 by simp; omega)]; rfl⟩
        | some x => right; exact ⟨x, rfl, hrd x hA⟩
      · exact (hrd q hq).lt (fun e => hne (by cases hz : (Z i).take (L i) with | nil => rfl | cons y r => rw [hz] at e; cases e))

end Go.Sh

/- What the rows lay of the package-level variables: the tables. -/
set_option linter.unusedVariables false
namespace Go.Sh
open Go.Fw Go.Sha Go.RowKit Go.Proofs.Tryd Go.Deep Go.ChangeShapes Go.WideShapes

def cubesC : List Int := [4794697086780616226, 8158064640168781261, 13096744586834688815, 16840607885511220156, 4131703408338449720, 6480981068601479193, 10538285296894168987, 12329834152419229976, 15566598209576043074, 1334009975649890238, 2608012711638119052, 6128411473006802146, 8268148722764581231, 9286055187155687089, 11230858885718282805, 13951009754708518548, 16472876342353939154, 17275323862435702243, 1135362057144423861, 2597628984639134821, 3308224258029322869, 5365058923640841347, 6679025012923562964, 8573033837759648693, 10970295158949994411, 12119686244451234320, 12683024718118986047, 13788192230050041572, 14330467153632333762, 15395433587784984357, 489312712824947311, 1452737877330783856, 2861767655752347644, 3322285676063803686, 5560940570517711597, 5996557281743188959, 7280758554555802590, 8532644243296465576, 9350256976987008742, 10552545826968843579, 11727347734174303076, 12113106623233404929, 14000437183269869457, 14369950271660146224, 15101387698204529176, 15463397548674623760, 17586052441742319658, 1182934255886127544, 1847814050463011016, 2177327727835720531, 2830643537854262169, 3796741975233480872, 4115178125766777443, 5681478168544905931, 6601373596472566643, 7507060721942968483, 8399075790359081724, 8693463985226723168, 9568029438360202098, 10144078919501101548, 10430055236837252648, 11840083180663258601, 13761210420658862357, 14299343276471374635, 14566680578165727644, 15097957966210449927, 16922976911328602910, 17689382322260857208, 500013540394364858, 748580250866718886, 1242879168328830382, 1977374033974150939, 2944078676154940804, 3659926193048069267, 4368137639120453308, 4836135668995329356, 5532061633213252278, 6448918945643986474, 6902733635092675308, 7801388544844847127]
def squaresS : List Int := [7640891576956012808, 13503953896175478587, 4354685564936845355, 11912009170470909681, 5840696475078001361, 11170449401992604703, 2270897969802886507, 6620516959819538809, 14680500436340154072, 7105036623409894663, 10473403895298186519, 1526699215303891257, 7436329637833083697, 10282925794625328401, 15784041429090275239, 5167115440072839076]

theorem tab_in {P : Program} {w : World} : ∀ {laid : List (String × DataW Unit)} {ps : List MemPlace}, DataW.LaidVars P w laid ps → ∀ {name : String} {k : IntKind} {zs : List Int} {g : Nat} {t e : TypeId} {n : Nat},
    (name, Lib.tabData k zs) ∈ laid → P.globalNamed name = some g → (P.globals[g]?).map (·.type) = some t → P.underlying t = some (.array n e) → P.underlying e = some (.int k) → P.cellsOf e = 1 → P.cellsOf t = n → Lib.TabIs P w name k zs
  | [], _, _, _, _, _, _, _, _, _, hm, _, _, _, _, _, _ => by simp at hm
  | x :: rest, ps, h, name, k, zs, g, t, e, n, hm, hg, hty, ht, he, hce, hct => by
    obtain ⟨g', t', cs, fuel, p, q, hg', ht', hvar, hd, h2, _⟩ := h
    rcases List.mem_cons.1 hm with rfl | hm
    · obtain rfl := Option.some.inj (hg.symm.trans hg')
      obtain rfl := Option.some.inj (hty.symm.trans ht')
      unfold Lib.TabIs
      rw [hvar, ← Lib.cells_of_tab ht he hce hct hd]
    · exact tab_in h2 hm hg hty ht he hce hct

theorem tab_rd {P : Program} {w : World} {name : String} {zs : List Int} {g : Nat} (h : Lib.TabIs P w name .u64 zs) (hg : P.globalNamed name = some g) : Rd w ⟨g, 0, none⟩ (ints .u64 zs) := by
  intro i v hv
  rw [add_lit, Nat.zero_add]
  have hi : i < zs.length := by have := (List.getElem?_eq_some_iff.1 hv).1; simpa using this
  rw [h.cell hg i hi]
  simp only [ints, List.getElem?_map, List.getElem?_eq_getElem hi] at hv
  rw [List.getD_eq_getElem?_getD, List.getElem?_eq_getElem hi]
  exact hv

theorem squares_in : ∀ i, InK .u64 (squaresS.getD i 0) := by
  have h : ∀ x ∈ squaresS, 0 ≤ x ∧ x < 18446744073709551616 := by decide +kernel
  intro i
  rw [List.getD_eq_getElem?_getD]
  cases hx : squaresS[i]? with
  | none => exact ⟨by decide, by decide⟩
  | some x => exact h x (List.mem_of_getElem? hx)

def laid2 : List (String × DataW Unit) := [("coffer/digest.cubes", Lib.tabData .u64 cubesC), ("coffer/digest.squares", Lib.tabData .u64 squaresS)]
def laid4 : List (String × DataW Unit) := [("coffer/cofferref01.cubes", Lib.tabData .u64 cubesC), ("coffer/cofferref01.squares", Lib.tabData .u64 squaresS), ("coffer/digest.cubes", Lib.tabData .u64 cubesC), ("coffer/digest.squares", Lib.tabData .u64 squaresS)]

theorem tabs2 {w : World} (h : laidMetH prog laid2 w) : Tabs w cubesC squaresS := by
  obtain ⟨ps, h, _⟩ : laidMet prog laid2 w := h
  exact ⟨rfl, rfl, squares_in,
    tab_rd (tab_in h (name := "coffer/digest.cubes") (zs := cubesC) (g := 2) (t := 125) (e := 57) (n := 80) (by simp [laid2]) (by kernel_rfl) (by kernel_rfl) (by kernel_rfl) (by kernel_rfl) (by kernel_rfl) (by kernel_rfl)) (by kernel_rfl),
    tab_rd (tab_in h (name := "coffer/digest.squares") (zs := squaresS) (g := 3) (t := 122) (e := 57) (n := 16) (by simp [laid2]) (by kernel_rfl) (by kernel_rfl) (by kernel_rfl) (by kernel_rfl) (by kernel_rfl) (by kernel_rfl)) (by kernel_rfl)⟩

theorem tabs4 {w : World} (h : laidMetH prog laid4 w) : TabsR w cubesC squaresS := by
  obtain ⟨ps, h, _⟩ : laidMet prog laid4 w := h
  exact ⟨⟨rfl, rfl, squares_in,
    tab_rd (tab_in h (name := "coffer/digest.cubes") (zs := cubesC) (g := 2) (t := 125) (e := 57) (n := 80) (by simp [laid4]) (by kernel_rfl) (by kernel_rfl) (by kernel_rfl) (by kernel_rfl) (by kernel_rfl) (by kernel_rfl)) (by kernel_rfl),
    tab_rd (tab_in h (name := "coffer/digest.squares") (zs := squaresS) (g := 3) (t := 122) (e := 57) (n := 16) (by simp [laid4]) (by kernel_rfl) (by kernel_rfl) (by kernel_rfl) (by kernel_rfl) (by kernel_rfl) (by kernel_rfl)) (by kernel_rfl)⟩,
    tab_rd (tab_in h (name := "coffer/cofferref01.cubes") (zs := cubesC) (g := 1) (t := 125) (e := 57) (n := 80) (by simp [laid4]) (by kernel_rfl) (by kernel_rfl) (by kernel_rfl) (by kernel_rfl) (by kernel_rfl) (by kernel_rfl)) (by kernel_rfl),
    tab_rd (tab_in h (name := "coffer/cofferref01.squares") (zs := squaresS) (g := 0) (t := 122) (e := 57) (n := 16) (by simp [laid4]) (by kernel_rfl) (by kernel_rfl) (by kernel_rfl) (by kernel_rfl) (by kernel_rfl) (by kernel_rfl)) (by kernel_rfl)⟩

end Go.Sh

/- DigestNone: of a nil Stream and a nil Mac. -/
set_option linter.unusedVariables false
namespace Go.Sh
open Go.Fw Go.Sha Go.RowKit Go.Proofs.Tryd

theorem NewMac_none {K : Nat} {h : Int} (hk : known h = false) (k : Sl) (w : World) : ∃ w', digest_NewMac K h k w = some ((none, 10, ()), w') ∧ Upd none_ w w' := by
  obtain ⟨w1, h1, u1⟩ := Size_ok h w
  refine ⟨w1, ?_, u1⟩
  unfold digest_NewMac
  rw [h1, bnd_ok]
  dsimp only
  rw [size_zero, hk, if_pos (show (!false) = true from rfl)]

theorem DigestNone_ok {K : Nat} (hK : 18446744073709551616 ≤ K) {C S : List Int} {w : World} (T : Tabs w C S) :
    ∃ w', law01_DigestNone K w = some ((true, ()), w') ∧ Upd none_ w w' := by
  have hn : (none : Option Addr).isNone = true := rfl
  obtain ⟨w1, h1, o1, u1, z1⟩ := bldS1_ok sliceB (.int .u8 1) rfl w
  obtain ⟨w2, h2, o2, u2, z2⟩ := bldS1_ok sliceSS (.slice (some ⟨w.heap.size, 0, none⟩) 1 1) rfl w1
  have hs0 : law01_DigestNone_s0 K none w = some ((false, ()), w2) := by
    unfold law01_DigestNone_s0 digest_Stream_Hash digest_Stream_Size digest_Stream_Block digest_Stream_Count digest_Stream_Sum digest_Stream_Copy digest_Stream_Write digest_Stream_Reset law01_num
    rw [if_pos hn, Option.bind_some]
    dsimp only
    rw [if_neg (by decide), if_pos hn, Option.bind_some]
    dsimp only
    rw [if_neg (by decide), if_pos hn, Option.bind_some]
    dsimp only
    rw [if_neg (by decide), if_pos hn, Option.bind_some]
    dsimp only
    rw [if_neg (by decide), if_pos hn, bnd_ok]
    dsimp only
    rw [if_neg (by decide), if_pos hn, bnd_ok]
    dsimp only
    rw [if_neg (by decide), h1, bnd_ok]
    dsimp only
    rw [h2, bnd_ok, if_pos hn, bnd_ok, Option.bind_some]
    dsimp only
    rw [if_neg (by decide), if_pos hn, bnd_ok, Option.bind_some]
    rfl
  have hs1 : law01_DigestNone_s1 K none w2 = some ((false, ()), w2) := by
    unfold law01_DigestNone_s1 digest_Mac_Size digest_Mac_Sum digest_Mac_Copy digest_Mac_Write digest_Mac_Reset law01_num
    rw [if_pos hn, Option.bind_some]
    dsimp only
    rw [if_neg (by decide), if_pos hn, bnd_ok]
    dsimp only
    rw [if_neg (by decide), if_pos hn, bnd_ok]
    dsimp only
    rw [if_neg (by decide), if_pos hn, bnd_ok, Option.bind_some]
    dsimp only
    rw [if_neg (by decide), if_pos hn, bnd_ok, Option.bind_some]
    rfl
  have T2 := (T.upd0 u1).upd0 u2
  obtain ⟨w3, g, h3, u3, hg, _⟩ := New_ok hK 0 T2.sl T2.sin T2.gs
  rw [if_neg (by decide), if_neg (by decide)] at h3
  obtain ⟨w4, h4, u4⟩ := NewMac_none (K := K) (h := -256) (by decide) ⟨none, 0, 0⟩ w3
  obtain ⟨w5, h5, u5⟩ := Size_ok 256 w4
  refine ⟨w5, ?_, (((u1.and0 u2).and0 u3).and0 u4).and0 u5⟩
  unfold law01_DigestNone law01_num
  rw [hs0, bnd_ok]
  dsimp only
  rw [if_neg (by decide), hs1, bnd_ok]
  dsimp only
  rw [if_neg (by decide), h3, bnd_ok, h4, bnd_ok]
  dsimp only
  rw [if_pos hn, if_pos hn, Option.bind_some]
  dsimp only
  rw [if_pos (by decide), Option.bind_some]
  dsimp only
  rw [if_pos (by decide), h5, bnd_ok]
  rfl

end Go.Sh

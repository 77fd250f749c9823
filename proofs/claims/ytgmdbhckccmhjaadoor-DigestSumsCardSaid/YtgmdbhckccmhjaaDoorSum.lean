/- Sum of package digest: Write and Sum of a stream, whole. -/
import Derived.Test.YtgmdbhckccmhjaaDoorParts
set_option linter.unusedVariables false
namespace Go.Sh
open Go.Fw Go.Sha Go.RowKit Go.Proofs.Tryd

/-- The tables of the program. -/
structure Tabs (w : World) (C S : List Int) : Prop where
  cl : C.length = 80
  sl : S.length = 16
  sin : ∀ i, InK .u64 (S.getD i 0)
  gc : Rd w ⟨2, 0, none⟩ (ints .u64 C)
  gs : Rd w ⟨3, 0, none⟩ (ints .u64 S)

theorem Tabs.upd {w w' : World} {C S : List Int} {X : Nat → Prop} (t : Tabs w C S) (u : Upd X w w') (hn : ∀ k, k < 4 → ¬ X k) : Tabs w' C S :=
  ⟨t.cl, t.sl, t.sin, t.gc.upd u fun _ => hn _ (by decide), t.gs.upd u fun _ => hn _ (by decide)⟩
theorem Tabs.upd0 {w w' : World} {C S : List Int} (t : Tabs w C S) (u : Upd none_ w w') : Tabs w' C S := t.upd u fun _ _ => id
theorem Tabs.drew {w : World} {C S : List Int} (t : Tabs w C S) : Tabs w.drew C S := t.upd0 (Upd.refl _ _).drew
theorem Tabs.lt {w : World} {C S : List Int} (t : Tabs w C S) : 4 ≤ w.heap.size := by
  have := t.gs.lt (fun e => by have := congrArg List.length e; simp [t.sl] at this)
  have : 3 < w.heap.size := this
  omega

/-- The tables of the program and of the document's answer. -/
structure TabsR (w : World) (C S : List Int) : Prop where
  to : Tabs w C S
  rc : Rd w ⟨1, 0, none⟩ (ints .u64 C)
  rs : Rd w ⟨0, 0, none⟩ (ints .u64 S)

theorem TabsR.upd {w w' : World} {C S : List Int} {X : Nat → Prop} (t : TabsR w C S) (u : Upd X w w') (hn : ∀ k, k < 4 → ¬ X k) : TabsR w' C S :=
  ⟨t.to.upd u hn, t.rc.upd u fun _ => hn _ (by decide), t.rs.upd u fun _ => hn _ (by decide)⟩
theorem TabsR.upd0 {w w' : World} {C S : List Int} (t : TabsR w C S) (u : Upd none_ w w') : TabsR w' C S := t.upd u fun _ _ => id
theorem TabsR.lt {w : World} {C S : List Int} (t : TabsR w C S) : 4 ≤ w.heap.size := t.to.lt

/-- the digest of bytes; nothing of no such digest -/
def sumOf (C S : List Int) (h : Int) (xs : List Int) : List Int := if known h = true then digestOf h C (firstH S h) xs else []

theorem Write_loop {K : Nat} (hK : 18446744073709551616 ≤ K) {e : TypeId} {g : Nat} {cs0 : List Value} {h : Int} (hk : known h = true) {C H0 : List Int} (hC : C.length = 80) (hgC : g ≠ 2) {s : Sl} {xss : List (List Int)} {Q : Nat → Prop} (hQ : ¬ Q g) :
    ∀ (d i n : Nat) (w : World) (xs H half : List Int), i + d = xss.length → d < n → StAt w e g 0 cs0 h xs.length H half → Fed h C H0 xs H half → Rd w ⟨2, 0, none⟩ (ints .u64 C) → Parts w s xss Q → xs.length + (xss.drop i).flatten.length ≤ 140737488355328 →
      ∃ w' H' half', digest_Stream_Write_l0 K n (some ⟨g, 0, none⟩) s ((s.len : Nat) : Int) (i : Int) w = some ((), w') ∧ StAt w' e g 0 cs0 h (xs ++ (xss.drop i).flatten).length H' half' ∧ Fed h C H0 (xs ++ (xss.drop i).flatten) H' half' ∧ Upd (· = g) w w' := by
  intro d
  induction d with
  | zero =>
    intro i n w xs H half hi hn st f hT hp hl
    obtain ⟨n, rfl⟩ : ∃ m, n = m + 1 := ⟨n - 1, by omega⟩
    have hd : decide ((i : Int) < ((s.len : Nat) : Int)) = false := by rw [hp.len]; simp; omega
    have e0 : xs ++ (xss.drop i).flatten = xs := by rw [List.drop_eq_nil_of_le (by omega)]; simp
    refine ⟨w, H, half, ?_, by rw [e0]; exact st, by rw [e0]; exact f, Upd.refl _ _⟩
    show digest_Stream_Write_l0_b K (digest_Stream_Write_l0 K n) (some ⟨g, 0, none⟩) s ((s.len : Nat) : Int) (i : Int) w = _
    unfold digest_Stream_Write_l0_b
    rw [hd, if_neg (by decide)]
  | succ d ih =>
    intro i n w xs H half hi hn st f hT hp hl
    obtain ⟨n, rfl⟩ : ∃ m, n = m + 1 := ⟨n - 1, by omega⟩
    have hm := hp.many
    have hd : decide ((i : Int) < ((s.len : Nat) : Int)) = true := by rw [hp.len]; simp; omega
    obtain ⟨p, t, h1, h2, h3, h4, h5, h6, h7⟩ := hp.at (i := i) (by omega)
    have c : (0 : Int) ≤ (i : Int) ∧ (i : Int) < ((s.len : Nat) : Int) := by rw [hp.len]; omega
    have e1 : IntKind.i64.wrap ((i : Int) + 1) = ((i + 1 : Nat) : Int) := by rw [w64 (by omega) (by omega)]; rfl
    have hdr : (xss.drop i).flatten = xss.getD i [] ++ (xss.drop (i + 1)).flatten := by rw [drop_getD (by omega) [], List.flatten_cons]
    rw [hdr, List.length_append] at hl
    obtain ⟨w1, H1, half1, a1, a2, a3, a4⟩ := take_ok hK hk st f hC hgC hT h7 (by omega) h3 (fun q hq e => hQ (e ▸ (h4 q hq).1)) (fun q hq => (h4 q hq).2)
    obtain ⟨w2, H2, half2, b1, b2, b3, b4⟩ := ih (i + 1) n w1 (xs ++ xss.getD i []) H1 half1 (by omega) (by omega) a2 a3 (hT.upd a4 fun _ e => hgC e.symm) (hp.upd a4 fun k hk e => hQ (e ▸ hk)) (by rw [List.length_append]; omega)
    rw [List.append_assoc, ← hdr] at b2 b3
    refine ⟨w2, H2, half2, ?_, b2, b3, a4.trans' b4 fun _ _ e => e⟩
    show digest_Stream_Write_l0_b K (digest_Stream_Write_l0 K n) (some ⟨g, 0, none⟩) s ((s.len : Nat) : Int) (i : Int) w = _
    unfold digest_Stream_Write_l0_b
    rw [hd, if_pos rfl, h1, Option.bind_some, if_pos c, Int.toNat_natCast, Nat.mul_one, h2, Option.bind_some, Option.bind_some, add_lit, Nat.add_zero, a1, bnd_ok, e1, b1]

theorem tot_wrap {xss : List (List Int)} (hl : ∀ xs ∈ xss, xs.length ≤ 140737488351232) {n : Nat} (hn : n ≤ 33554432) : IntKind.u64.wrap ((n : Int) + IntKind.u64.wrap ((totB 0 xss : Nat) : Int)) = ((n + totB 0 xss : Nat) : Int) := by
  have := totB_lt xss 0 (by omega) hl
  rw [IntKind.wrap_u64, IntKind.wrap_u64]; omega

theorem Write_ok {K : Nat} (hK : 18446744073709551616 ≤ K) {w : World} {e : TypeId} {g : Nat} {cs0 : List Value} {h : Int} (hk : known h = true) {C H0 xs H half : List Int} (hC : C.length = 80) (hgC : g ≠ 2) (st : StAt w e g 0 cs0 h xs.length H half) (f : Fed h C H0 xs H half)
    (hT : Rd w ⟨2, 0, none⟩ (ints .u64 C)) {s : Sl} {xss : List (List Int)} {Q : Nat → Prop} (hQ : ¬ Q g) (hp : Parts w s xss Q) (hl : xs.length + xss.flatten.length ≤ 33554432) :
    ∃ w' H' half', digest_Stream_Write K (some ⟨g, 0, none⟩) s w = some ((0, ()), w') ∧ StAt w' e g 0 cs0 h (xs ++ xss.flatten).length H' half' ∧ Fed h C H0 (xs ++ xss.flatten) H' half' ∧ Upd (· = g) w w' := by
  obtain ⟨l1, l5, l3⟩ := st.drew.ld hk
  have hpd := hp.upd0 (Upd.refl none_ w).drew
  have ht := total_ok hK hpd
  obtain ⟨w2, H2, half2, b1, b2, b3, b4⟩ := Write_loop hK hk hC hgC hQ xss.length 0 K w.drew xs H half (by omega) (by have := hp.many; omega) st.drew f (hT.upd (S := none_) (Upd.refl _ _).drew fun _ => id) hpd (by rw [List.drop_zero]; omega)
  rw [List.drop_zero] at b2 b3
  have b1 : digest_Stream_Write_l0 K K (some ⟨g, 0, none⟩) s ((s.len : Nat) : Int) 0 w.drew = _ := b1
  have htl := totB_le xss 0 (by omega)
  have h1 : totB 0 xss ≤ 33554432 := htl.1.2 (by omega)
  have h2 := htl.2 h1
  have hd : decide (((xs.length + totB 0 xss : Nat) : Int) > 33554432) = false := by simp only [decide_eq_false_iff_not]; omega
  refine ⟨w2, H2, half2, ?_, b2, b3, b4.predrew⟩
  unfold digest_Stream_Write
  rw [if_neg (by simp), Option.bind_some, add_lit, add_lit, l5, Option.bind_some, ht, Option.bind_some]
  dsimp only
  rw [tot_wrap hp.lens (by omega), hd, if_neg (by decide), b1, bnd_ok]

theorem Write_long {K : Nat} (hK : 18446744073709551616 ≤ K) {w : World} {e : TypeId} {g : Nat} {cs0 : List Value} {h : Int} (hk : known h = true) {n : Nat} {H half : List Int} (st : StAt w e g 0 cs0 h n H half) (hn : n ≤ 33554432)
    {s : Sl} {xss : List (List Int)} {Q : Nat → Prop} (hp : Parts w s xss Q) (hl : ¬ n + xss.flatten.length ≤ 33554432) :
    digest_Stream_Write K (some ⟨g, 0, none⟩) s w = some ((4, ()), w.drew) := by
  obtain ⟨l1, l5, l3⟩ := st.drew.ld hk
  have ht := total_ok hK (hp.upd0 (Upd.refl none_ w).drew)
  have htl := totB_le xss 0 (by omega)
  have h1 : ¬ n + totB 0 xss ≤ 33554432 := fun e => by have := htl.2 (by omega); omega
  have hd : decide (((n + totB 0 xss : Nat) : Int) > 33554432) = true := by simp only [decide_eq_true_eq]; omega
  unfold digest_Stream_Write
  rw [if_neg (by simp), Option.bind_some, add_lit, add_lit, l5, Option.bind_some, ht, Option.bind_some]
  dsimp only
  rw [tot_wrap hp.lens hn, hd, if_pos rfl]

theorem Ans.mono {B B' : Nat} {w : World} {s : Sl} {zs : List Int} (h : Ans B w s zs) (hb : B' ≤ B) : Ans B' w s zs := by
  obtain ⟨⟨g, cs, h1, h2, h3⟩, h4, h5⟩ := h
  exact ⟨⟨g, cs, h1, by omega, h3⟩, h4, h5⟩
theorem Ans.upd {B : Nat} {w w' : World} {s : Sl} {zs : List Int} {X : Nat → Prop} (h : Ans B w s zs) (u : Upd X w w') (hn : ∀ k, s.blk = some k → ¬ X k) : Ans B w' s zs := by
  obtain ⟨⟨g, cs, h1, h2, h3, h6⟩, h4, h5⟩ := h
  exact ⟨⟨g, cs, h1, h2, h3.upd u (hn g (by simp [Sl.blk, h1])), h6⟩, h4, h5⟩
theorem Ans.upd0 {B : Nat} {w w' : World} {s : Sl} {zs : List Int} (h : Ans B w s zs) (u : Upd none_ w w') : Ans B w' s zs := h.upd u fun _ _ => id
theorem Ans.src {B : Nat} {w : World} {s : Sl} {zs : List Int} (h : Ans B w s zs) : Src w s (ints .u8 zs) := by
  obtain ⟨⟨g, cs, h1, h2, h3, h4, h5⟩, h6, h7⟩ := h
  refine ⟨by rw [ints_length]; exact h6, by omega, .inr ⟨_, h1, h3.rd 0 _ fun i v hv => ?_⟩, ints_one⟩
  rw [← h4, List.getElem?_take] at hv
  split at hv
  · rw [Nat.zero_add]; exact hv
  · cases hv
theorem Ans.rd {B : Nat} {w : World} {s : Sl} {zs : List Int} (h : Ans B w s zs) : RdS .u8 w s zs := h.src.rds
theorem Ans.vw {B : Nat} {w : World} {s : Sl} {zs : List Int} (h : Ans B w s zs) (hm : zs.length ≤ 65536) : Vw 5 w s (ints .u8 zs) := by
  obtain ⟨⟨g, cs, h1, h2, h3, h4, h5⟩, h6, h7⟩ := h
  refine ⟨by rw [ints_length]; exact h6.symm, .inr ⟨g, 0, cs, h1, h3, by omega, by simp only [maxLen]; omega, by omega, ?_⟩⟩
  rw [List.drop_zero, h6]; exact h4
theorem Ans.fresh {B : Nat} {w : World} {s : Sl} {zs : List Int} (h : Ans B w s zs) : Fresh B s := by
  obtain ⟨⟨g, cs, h1, h2, h3⟩, _⟩ := h
  intro k hk
  simp [Sl.blk, h1] at hk; omega
theorem Ans.lt {B : Nat} {w : World} {s : Sl} {zs : List Int} (h : Ans B w s zs) {k : Nat} (hk : s.blk = some k) : k < w.heap.size := by
  obtain ⟨⟨g, cs, h1, h2, h3, _⟩, _⟩ := h
  simp [Sl.blk, h1] at hk; have := h3.lt; omega

theorem StreamSum_ok {K : Nat} (hK : 18446744073709551616 ≤ K) {w : World} {e : TypeId} {g : Nat} {cs0 : List Value} {h : Int} (hk : known h = true) {C H0 xs H half : List Int} (hC : C.length = 80) (st : StAt w e g 0 cs0 h xs.length H half) (f : Fed h C H0 xs H half)
    (hT : Rd w ⟨2, 0, none⟩ (ints .u64 C)) (hl : xs.length ≤ 1099511627776) :
    ∃ s' w', digest_Stream_Sum K (some ⟨g, 0, none⟩) w = some ((s', ()), w') ∧ Ans w.heap.size w' s' (digestOf h C H0 xs) ∧ Upd none_ w w' := by
  have hsl := stCells_len h xs.length st.words st.len
  have hrm := st.room
  have lA := st.bk.ldA (i := 0) (n := 142) (by rw [seg_length (by omega)]; omega)
  have e0 : ((seg cs0 0 (stCells h xs.length H half)).drop 0).take 142 = stCells h xs.length H half := by
    unfold seg
    rw [List.drop_zero, List.take_zero, List.nil_append, List.take_append_of_le_length (by omega), List.take_of_length_le (by omega)]
  rw [e0] at lA
  obtain ⟨s', w', h1, h2, h3⟩ := end_ok hK hk f st.words st.inn hC hT hl
  refine ⟨s', w', ?_, h2, h3⟩
  unfold digest_Stream_Sum
  rw [if_neg (by simp), Option.bind_some, add_lit, lA, Option.bind_some, h1, bnd_ok]

theorem half0_in : ∀ x ∈ half0, InK .u8 x := by
  intro x hx
  rw [(List.mem_replicate.1 hx).2]; exact ⟨by decide, by decide⟩

/-- a stream that was begun here -/
theorem New_st {K : Nat} (hK : 18446744073709551616 ≤ K) {h : Int} (hk : known h = true) {C S : List Int} {w : World} (T : Tabs w C S) :
    ∃ w' g, digest_New K h w = some ((some ⟨g, 0, none⟩, 0, ()), w') ∧ Upd none_ w w' ∧ w.heap.size ≤ g ∧ StAt w' 99 g 0 (stCells h 0 (firstH S h) half0) h ([] : List Int).length (firstH S h) half0 ∧ Fed h C (firstH S h) [] (firstH S h) half0 := by
  obtain ⟨w1, g, h1, h2, h3, h4⟩ := New_ok hK h T.sl T.sin T.gs
  rw [if_pos hk, if_pos hk] at h1
  refine ⟨w1, g, h1, h2, h3, ⟨?_, by rw [stCells_len h 0 (firstH_len S h) (List.length_replicate ..)]; decide, firstH_len S h, List.length_replicate .., half0_in⟩, Fed.start ..⟩
  have : seg (stCells h 0 (firstH S h) half0) 0 (stCells h ([] : List Int).length (firstH S h) half0) = stCells h 0 (firstH S h) half0 := seg_self
  rw [this]; exact h4 hk

theorem Sum_ok {K : Nat} (hK : 18446744073709551616 ≤ K) {h : Int} (hk : known h = true) {C S : List Int} {w : World} (T : Tabs w C S) {s : Sl} {xss : List (List Int)} {Q : Nat → Prop} (hp : Parts w s xss Q) (hQ : ∀ k, Q k → k < w.heap.size) (hl : xss.flatten.length ≤ 33554432) :
    ∃ s' w', digest_Sum K h s w = some ((s', 0, ()), w') ∧ Ans w.heap.size w' s' (digestOf h C (firstH S h) xss.flatten) ∧ Upd none_ w w' := by
  have h4 := T.lt
  obtain ⟨w1, g, h1, u1, hg, st, f⟩ := New_st hK hk T
  have T1 := T.upd0 u1
  obtain ⟨w2, H2, half2, h2, st2, f2, u2⟩ := Write_ok hK hk T.cl (by omega) st f T1.gc (fun e => by have := hQ g e; omega) (hp.upd0 u1) (by simpa using hl)
  have T2 := T1.upd u2 (fun k hk e => by omega)
  rw [List.nil_append] at st2 f2
  obtain ⟨s3, w3, h3, a3, u3⟩ := StreamSum_ok hK hk T.cl st2 f2 T2.gc (by omega)
  have hs1 := u1.size
  have hs2 := u2.size
  refine ⟨s3, w3, ?_, a3.mono (by omega), (u1.trans' u2 fun k hk e => by omega).and0 u3⟩
  unfold digest_Sum digest_Sum_s0
  rw [h1, bnd_ok]
  dsimp only
  rw [if_pos (by decide), h2, bnd_ok, bnd_ok]
  dsimp only
  rw [if_neg (by decide), h3, bnd_ok]

theorem Sum_none {K : Nat} (hK : 18446744073709551616 ≤ K) {h : Int} (hk : known h = false) {C S : List Int} {w : World} (T : Tabs w C S) (s : Sl) :
    ∃ w', digest_Sum K h s w = some ((⟨none, 0, 0⟩, 10, ()), w') ∧ Upd none_ w w' := by
  obtain ⟨w1, g, h1, h2, h3, h4⟩ := New_ok hK h T.sl T.sin T.gs
  rw [hk, if_neg (by decide), if_neg (by decide)] at h1
  refine ⟨w1, ?_, h2⟩
  unfold digest_Sum digest_Sum_s0
  rw [h1, bnd_ok]
  dsimp only
  rw [if_neg (by decide), bnd_ok]
  dsimp only
  rw [if_pos (by decide)]

end Go.Sh

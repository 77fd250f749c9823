/- What is lent to the program: copies of parts with marks behind them, and what is left of them; nothing is lost. -/
import Derived.Test.YtgmdbhckccmhjaaDoorRefSum
import Derived.Test.YtgmdbhckccmhjaaDoorFwR
set_option linter.unusedVariables false
namespace Go.Sh
open Go.Fw Go.Sha Go.RowKit Go.Proofs.Tryd

theorem sliceSS : OneSlice prog 24 25 (.slice none 0 0) 24 := ⟨by kernel_rfl, ⟨t25, by kernel_rfl, by kernel_rfl, by kernel_rfl, by kernel_rfl⟩, by decide, rfl, rfl⟩

/-- one of the copies -/
def LentOne (w : World) (B N : Nat) (l : Sl) (p : Sl × List Int) : Prop :=
  ∃ g cap, p.1 = ⟨some ⟨g, 0, none⟩, p.2.length, cap⟩ ∧ B ≤ g ∧ g < N ∧ l.blk ≠ some g ∧ Own 5 w ⟨some ⟨g, 0, none⟩, p.2.length + 70, cap⟩ (ints .u8 (p.2 ++ marks))

/-- the copies, in blocks from B on up to N -/
structure Lent (w : World) (B N : Nat) (l : Sl) (xss : List (List Int)) : Prop where
  ex : ∃ ps : List (Sl × List Int), ps.map Prod.snd = xss ∧ Own 25 w l (ps.map fun p => slV p.1) ∧ ∀ p ∈ ps, LentOne w B N l p
  fr : ∀ k, l.blk = some k → B ≤ k ∧ k < N
  nn : N ≤ w.heap.size

theorem Lent.upd {w w' : World} {B N : Nat} {l : Sl} {xss : List (List Int)} {X : Nat → Prop} (h : Lent w B N l xss) (u : Upd X w w') (hn : ∀ k, B ≤ k → k < N → ¬ X k) : Lent w' B N l xss := by
  obtain ⟨⟨ps, h1, h2, h3⟩, h4, h5⟩ := h
  refine ⟨⟨ps, h1, h2.upd u fun k hk => hn k (h4 k hk).1 (h4 k hk).2, fun p hp => ?_⟩, h4, Nat.le_trans h5 u.size⟩
  obtain ⟨g, cap, a1, a2, a3, a4, a5⟩ := h3 p hp
  exact ⟨g, cap, a1, a2, a3, a4, a5.upd u fun k hk => by simp [Sl.blk] at hk; subst hk; exact hn _ a2 a3⟩
theorem Lent.upd0 {w w' : World} {B N : Nat} {l : Sl} {xss : List (List Int)} (h : Lent w B N l xss) (u : Upd none_ w w') : Lent w' B N l xss := h.upd u fun _ _ _ => id

theorem take_succ_getD {α : Type} {l : List α} {i : Nat} (hi : i < l.length) (d : α) : l.take (i + 1) = l.take i ++ [l.getD i d] := by
  rw [List.take_add_one, List.getD_eq_getElem?_getD, List.getElem?_eq_getElem hi]; rfl

theorem lent_loop {K : Nat} (hK : 18446744073709551616 ≤ K) {B : Nat} {s : Sl} {xss : List (List Int)} {Q : Nat → Prop} (hQ : ∀ k, Q k → k < B) :
    ∀ (d i n : Nat) (w : World) (l : Sl), i + d = xss.length → d < n → PartsW w s xss Q → Lent w B w.heap.size l (xss.take i) → B ≤ w.heap.size →
      ∃ l' w', law01_lent_l0 K n s l (i : Int) w = some ((l', ()), w') ∧ Lent w' B w'.heap.size l' xss ∧ Below B w w' := by
  intro d
  induction d with
  | zero =>
    intro i n w l hi hn hp hl hB
    obtain ⟨n, rfl⟩ : ∃ m, n = m + 1 := ⟨n - 1, by omega⟩
    have hd : decide ((i : Int) < ((s.len : Nat) : Int)) = false := by rw [hp.len]; simp; omega
    refine ⟨l, w, ?_, by rw [List.take_of_length_le (by omega)] at hl; exact hl, Below.refl B w⟩
    show law01_lent_l0_b K (law01_lent_l0 K n) s l (i : Int) w = _
    unfold law01_lent_l0_b
    rw [hd, if_neg (by decide)]
  | succ d ih =>
    intro i n w l hi hn hp hl hB
    obtain ⟨n, rfl⟩ : ∃ m, n = m + 1 := ⟨n - 1, by omega⟩
    have hm := hp.many
    have hd : decide ((i : Int) < ((s.len : Nat) : Int)) = true := by rw [hp.len]; simp; omega
    obtain ⟨p, t, h1, h2, h3, h5, h6, h7⟩ := hp.at (i := i) (by omega)
    have c : (0 : Int) ≤ (i : Int) ∧ (i : Int) < ((s.len : Nat) : Int) := by rw [hp.len]; omega
    have e1 : IntKind.i64.wrap ((i : Int) + 1) = ((i + 1 : Nat) : Int) := by rw [w64 (by omega) (by omega)]; rfl
    obtain ⟨⟨ps, a1, a2, a3⟩, a4, a5⟩ := hl
    have hpl : ps.length = i := by have := congrArg List.length a1; simp at this; omega
    have hll : l.len = i := by rw [a2.len]; simp [hpl]
    obtain ⟨g, cap, w1, b1, b2, b3, b4⟩ := Bytes_ok hK h3 h6
    obtain ⟨w2, c1, c2, c3, c4⟩ := bldS1_ok sliceSS (.slice (some ⟨g, 0, none⟩) (xss.getD i []).length cap) rfl w1
    have hs1 := b4.size
    have hgl : g < w1.heap.size := b2.lt (by simp [Sl.blk])
    obtain ⟨l3, w3, d1, d2, d3, d4, d5⟩ := apd_ok sliceSS ((a2.upd0 b4).upd0 c3) (c2.src (by simp [Value.oneCell'])) (by show (l.len + 1) * 24 ≤ _; omega)
    have hlb : ∀ k, l.blk = some k → k < w.heap.size := fun k hk => a2.lt hk
    have u3 : Below B w w3 := (((b4.and0 c3).mono (T := fun k => l.blk = some k) fun _ _ e => e.elim).trans' d4 fun _ _ e => e).below hB fun k hk e => by have := a4 k e; omega
    have hone : Lent w3 B w3.heap.size l3 (xss.take (i + 1)) := by
      have hl3 : ∀ k, k < w2.heap.size → l.blk ≠ some k → l3.blk ≠ some k := fun k hk hne e => by
        rcases d5 with d5 | d5
        · exact hne (d5 ▸ e)
        · rw [d5] at e; have := Option.some.inj e; omega
      have hs2 := c3.size
      have hs3 := d4.size
      refine ⟨⟨ps ++ [(⟨some ⟨g, 0, none⟩, (xss.getD i []).length, cap⟩, xss.getD i [])], ?_, ?_, ?_⟩, ?_, Nat.le_refl _⟩
      · rw [List.map_append, a1, take_succ_getD (by omega) []]; rfl
      · rw [List.map_append]; exact d3
      · intro q hq
        rcases List.mem_append.1 hq with hq | hq
        · obtain ⟨g2, cap2, f1, f2, f3, f4, f5⟩ := a3 q hq
          have hg2 : g2 < w.heap.size := by omega
          exact ⟨g2, cap2, f1, f2, by omega, hl3 g2 (by omega) f4, ((f5.upd0 b4).upd0 c3).upd d4 fun k hk e => by simp [Sl.blk] at hk; subst hk; exact f4 e⟩
        · obtain rfl := List.mem_singleton.1 hq
          exact ⟨g, cap, rfl, by omega, by omega, hl3 g (by omega) (fun e => by have := hlb g e; omega), (b2.upd0 c3).upd d4 fun k hk e => by simp [Sl.blk] at hk; subst hk; have := hlb _ e; omega⟩
      · intro k hk
        refine ⟨?_, d3.lt hk⟩
        rcases d5 with d5 | d5
        · exact (a4 k (d5 ▸ hk)).1
        · rw [d5] at hk; have := Option.some.inj hk; omega
    obtain ⟨l4, w4, f1, f2, f3⟩ := ih (i + 1) n w3 l3 (by omega) (by omega) (hp.upd (upd_of_below u3) fun k hk e => by have := hQ k hk; omega) hone (by have := u3.size; omega)
    refine ⟨l4, w4, ?_, f2, u3.trans f3⟩
    show law01_lent_l0_b K (law01_lent_l0 K n) s l (i : Int) w = _
    unfold law01_lent_l0_b
    rw [hd, if_pos rfl, h1, Option.bind_some, if_pos c, Int.toNat_natCast, Nat.mul_one, h2, Option.bind_some, b1, bnd_ok]
    dsimp only
    rw [c1, bnd_ok]
    dsimp only
    rw [d1, bnd_ok, e1, f1]

theorem lent_ok {K : Nat} (hK : 18446744073709551616 ≤ K) {s : Sl} {xss : List (List Int)} {Q : Nat → Prop} {w : World} (hp : PartsW w s xss Q) (hQ : ∀ k, Q k → k < w.heap.size) :
    ∃ l w', law01_lent K s w = some ((l, ()), w') ∧ Lent w' w.heap.size w'.heap.size l xss ∧ Upd none_ w w' := by
  have hm := hp.many
  obtain ⟨l, w', h1, h2, h3⟩ := lent_loop hK hQ xss.length 0 K w nilS (by omega) (by omega) hp ⟨⟨[], rfl, Own.nil .., fun _ h => by simp at h⟩, (fun k hk => by cases hk), Nat.le_refl _⟩ (Nat.le_refl _)
  have h1 : law01_lent_l0 K K s nilS 0 w = _ := h1
  refine ⟨l, w', ?_, h2, Upd.of_below h3⟩
  unfold law01_lent
  rw [h1, bnd_ok]

theorem LentOne.src {w : World} {B N : Nat} {l : Sl} {p : Sl × List Int} (h : LentOne w B N l p) : Src w p.1 (ints .u8 p.2) := by
  obtain ⟨g, cap, a1, a2, a3, a4, a5⟩ := h
  rw [a1]; exact (marked_front a5).src ints_one

theorem Lent.parts {w w0 : World} {B N : Nat} {l s : Sl} {xss : List (List Int)} {Q : Nat → Prop} (h : Lent w B N l xss) (hp : PartsW w0 s xss Q) : Parts w l xss fun k => B ≤ k ∧ k < N := by
  obtain ⟨⟨ps, a1, a2, a3⟩, a4, a5⟩ := h
  have hll : l.len = xss.length := by rw [a2.len, ← a1]; simp
  refine ⟨hll, a2.cap.1, hp.inn, hp.lens, hp.many, ?_⟩
  have hsrc := a2.src (fun v hv => by obtain ⟨x, _, rfl⟩ := List.mem_map.1 hv; rfl)
  rcases hsrc.rd with ⟨b1, b2, b3⟩ | ⟨p, b1, b2⟩
  · left
    have : ps = [] := by simpa using b3
    rw [← a1, this]; rfl
  · right
    refine ⟨p, ps.map Prod.fst, b1, by rw [← a1]; simp, a4 p.block (by simp [Sl.blk, b1]), by rw [List.map_map]; exact b2, fun i hi => ?_⟩
    have hi2 : i < ps.length := by rw [← a1] at hi; simpa using hi
    have e1 : (ps.map Prod.fst).getD i nilS = ps[i].1 := by simp [List.getD_eq_getElem?_getD, hi2]
    have e2 : xss.getD i [] = ps[i].2 := by rw [← a1]; simp [List.getD_eq_getElem?_getD, hi2]
    have h0 := a3 ps[i] (List.getElem_mem hi2)
    rw [e1, e2]
    refine ⟨h0.src, fun q hq => ?_⟩
    obtain ⟨g, cap, f1, f2, f3, f4, f5⟩ := h0
    rw [f1] at hq
    obtain rfl := Option.some.inj hq
    exact ⟨⟨f2, f3⟩, by show g < w.heap.size; omega⟩

theorem Lent.at {w : World} {B N : Nat} {l : Sl} {xss : List (List Int)} (h : Lent w B N l xss) {i : Nat} (hi : i < xss.length) :
    ∃ p g cap, l.a = some p ∧ l.len = xss.length ∧ ldS (p.add i) w = some ⟨some ⟨g, 0, none⟩, (xss.getD i []).length, cap⟩ ∧ B ≤ g ∧ g < N ∧ l.blk ≠ some g ∧ Own 5 w ⟨some ⟨g, 0, none⟩, (xss.getD i []).length + 70, cap⟩ (ints .u8 (xss.getD i [] ++ marks)) := by
  obtain ⟨⟨ps, a1, a2, a3⟩, a4, a5⟩ := h
  have hll : l.len = xss.length := by rw [a2.len, ← a1]; simp
  have hi2 : i < ps.length := by rw [← a1] at hi; simpa using hi
  have e2 : xss.getD i [] = ps[i].2 := by rw [← a1]; simp [List.getD_eq_getElem?_getD, hi2]
  obtain ⟨g, cap, f1, f2, f3, f4, f5⟩ := a3 ps[i] (List.getElem_mem hi2)
  have hsrc := a2.src (fun v hv => by obtain ⟨x, _, rfl⟩ := List.mem_map.1 hv; rfl)
  rcases hsrc.rd with ⟨b1, b2, b3⟩ | ⟨p, b1, b2⟩
  · have : ps = [] := by simpa using b3
    rw [this] at hi2; simp at hi2
  · rw [e2]
    refine ⟨p, g, cap, b1, hll, ?_, f2, f3, f4, f5⟩
    have := b2 i (slV ps[i].1) (by simp [hi2])
    rw [f1] at this
    simp [ldS, this, asS, slV]

theorem whole_loop {K : Nat} (hK : 18446744073709551616 ≤ K) {B N : Nat} {l s : Sl} {xss : List (List Int)} {Q : Nat → Prop} :
    ∀ (d i n : Nat) (w : World), i + d = xss.length → d < n → PartsW w s xss Q → Lent w B N l xss →
      ∃ w', law01_whole_l0 K n l s (i : Int) w = some (.norm (), w') ∧ Upd none_ w w' := by
  intro d
  induction d with
  | zero =>
    intro i n w hi hn hp hl
    obtain ⟨n, rfl⟩ : ∃ m, n = m + 1 := ⟨n - 1, by omega⟩
    have hll : l.len = xss.length := (hl.parts hp).len
    have hd : decide ((i : Int) < ((l.len : Nat) : Int)) = false := by rw [hll]; simp; omega
    refine ⟨w, ?_, Upd.refl _ _⟩
    show law01_whole_l0_b K (law01_whole_l0 K n) l s (i : Int) w = _
    unfold law01_whole_l0_b
    rw [hd, if_neg (by decide)]
  | succ d ih =>
    intro i n w hi hn hp hl
    obtain ⟨n, rfl⟩ : ∃ m, n = m + 1 := ⟨n - 1, by omega⟩
    have hm := hp.many
    have hll : l.len = xss.length := (hl.parts hp).len
    have hd : decide ((i : Int) < ((l.len : Nat) : Int)) = true := by rw [hll]; simp; omega
    have ud : Upd none_ w w.drew := (Upd.refl none_ w).drew
    obtain ⟨p, t, h1, h2, h3, h5, h6, h7⟩ := (hp.upd0 ud).at (i := i) (by omega)
    obtain ⟨q, g, cap, k1, k2, k3, k4, k5, k6, k7⟩ := (hl.upd0 ud).at (i := i) (by omega)
    have c : (0 : Int) ≤ (i : Int) ∧ (i : Int) < ((s.len : Nat) : Int) := by rw [hp.len]; omega
    have c2 : (0 : Int) ≤ (i : Int) ∧ (i : Int) < ((l.len : Nat) : Int) := by rw [hll]; omega
    have e1 : IntKind.i64.wrap ((i : Int) + 1) = ((i + 1 : Nat) : Int) := by rw [w64 (by omega) (by omega)]; rfl
    obtain ⟨w1, b1, u1⟩ := WholeBytes_ok hK k7 h3.rds h6
    rw [decide_eq_true rfl] at b1
    obtain ⟨w2, d1, u2⟩ := ih (i + 1) n w1 (by omega) (by omega) ((hp.upd0 ud).upd0 u1) ((hl.upd0 ud).upd0 u1)
    refine ⟨w2, ?_, (ud.and0 u1).and0 u2⟩
    show law01_whole_l0_b K (law01_whole_l0 K n) l s (i : Int) w = _
    unfold law01_whole_l0_b
    rw [hd, if_pos rfl, k1, Option.bind_some, if_pos c2, h1, Option.bind_some, if_pos c, Int.toNat_natCast, Nat.mul_one, k3, Option.bind_some, h2, Option.bind_some, b1, bnd_ok]
    dsimp only
    rw [if_neg (by decide), e1, d1]

theorem whole_ok {K : Nat} (hK : 18446744073709551616 ≤ K) {B N : Nat} {l s : Sl} {xss : List (List Int)} {Q : Nat → Prop} {w : World} (hp : PartsW w s xss Q) (hl : Lent w B N l xss) :
    ∃ w', law01_whole K l s w = some ((true, ()), w') ∧ Upd none_ w w' := by
  have hm := hp.many
  have hll : l.len = xss.length := (hl.parts hp).len
  obtain ⟨w', h1, u1⟩ := whole_loop hK xss.length 0 K w (by omega) (by omega) hp hl
  have h1 : law01_whole_l0 K K l s 0 w = _ := h1
  refine ⟨w', ?_, u1⟩
  have hd : (((l.len : Nat) : Int) != ((s.len : Nat) : Int)) = false := by rw [hll, hp.len]; simp
  unfold law01_whole
  rw [hd, if_neg (by decide), h1, bnd_ok]

/-- a list of one part -/
theorem one_part {w : World} {b : Sl} {xs : List Int} (hx : Src w b (ints .u8 xs)) (hin : ∀ x ∈ xs, InK .u8 x) (hl : xs.length ≤ 140737488351232) (hb : ∀ q, b.a = some q → q.block < w.heap.size) :
    ∃ w', bldS prog 24 1 #[(0, (.slice b.a b.len b.cap))] w = some (⟨some ⟨w.heap.size, 0, none⟩, 1, 1⟩, w') ∧ Parts w' ⟨some ⟨w.heap.size, 0, none⟩, 1, 1⟩ [xs] (fun k => k < w'.heap.size) ∧ Upd none_ w w' := by
  obtain ⟨w2, c1, c2, c3, c4⟩ := bldS1_ok sliceSS (.slice b.a b.len b.cap) rfl w
  refine ⟨w2, c1, ⟨rfl, Nat.le_refl _, by simpa using hin, by simpa using hl, by simp, .inr ⟨_, [b], rfl, rfl, c2.lt (by simp [Sl.blk]), ?_, fun i hi => ?_⟩⟩, c3⟩
  · rcases (c2.src (by simp [Value.oneCell'])).rd with ⟨b1, _⟩ | ⟨p, b1, b2⟩
    · cases b1
    · obtain rfl := Option.some.inj b1; exact b2
  · have : i = 0 := by simp at hi; omega
    subst this
    exact ⟨hx.upd0 c3, fun q hq => by have := hb q hq; have := c3.size; exact ⟨by omega, by omega⟩⟩

theorem digestOf_len (h : Int) (C H0 xs : List Int) : (digestOf h C H0 xs).length ≤ 64 := by
  have := wordB_blk h
  unfold digestOf
  rw [List.length_take, outW_len]; omega
theorem digestOf_in (h : Int) (C H0 xs : List Int) : ∀ x ∈ digestOf h C H0 xs, InK .u8 x := by
  have key : ∀ (H : List Int) (m i : Nat), ∀ x ∈ outW H m i, InK .u8 x := by
    intro H m i
    induction i with
    | zero => intro x hx; simp [outW] at hx
    | succ i ih =>
      intro x hx
      simp only [outW, List.mem_append] at hx
      rcases hx with hx | hx
      · exact ih x hx
      · exact bigB_in _ m x hx
  intro x hx
  exact key _ _ _ x (List.mem_of_mem_take hx)
theorem sumOf_len (C S : List Int) (h : Int) (xs : List Int) : (sumOf C S h xs).length ≤ 64 := by
  unfold sumOf; split
  · exact digestOf_len ..
  · exact Nat.zero_le _
theorem sumOf_in (C S : List Int) (h : Int) (xs : List Int) : ∀ x ∈ sumOf C S h xs, InK .u8 x := by
  unfold sumOf; split
  · exact digestOf_in h C _ xs
  · intro x hx; simp at hx

/-- Sum, whatever the number -/
theorem Sum_any {K : Nat} (hK : 18446744073709551616 ≤ K) (h : Int) {C S : List Int} {w : World} (T : Tabs w C S) {s : Sl} {xss : List (List Int)} {Q : Nat → Prop} (hp : Parts w s xss Q) (hQ : ∀ k, Q k → k < w.heap.size) (hl : xss.flatten.length ≤ 33554432) :
    ∃ s' w', digest_Sum K h s w = some ((s', (if known h = true then 0 else 10), ()), w') ∧ Vw 5 w' s' (ints .u8 (sumOf C S h xss.flatten)) ∧ Fresh w.heap.size s' ∧ Upd none_ w w' := by
  cases hk : known h with
  | true =>
    obtain ⟨s', w', h1, h2, h3⟩ := Sum_ok hK hk T hp hQ hl
    refine ⟨s', w', h1, ?_, h2.fresh, h3⟩
    unfold sumOf
    rw [if_pos hk]
    exact h2.vw (Nat.le_trans (digestOf_len ..) (by decide))
  | false =>
    obtain ⟨w', h1, h3⟩ := Sum_none hK hk T s
    refine ⟨⟨none, 0, 0⟩, w', h1, ?_, (fun k hk => by cases hk), h3⟩
    unfold sumOf
    rw [hk, if_neg (by decide)]
    exact Vw.nil 5 w'

end Go.Sh

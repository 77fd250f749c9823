/- Texts of this claim, put together: SprU, SprW, SprV, SprX, SprZ, SprY, PlyA, PlyB -/
import Derived.Test.YtgdoljnhhabghaaDoorAllLawhfihhd
/- The statement SpringPlays: the parts of a step. -/
set_option linter.unusedVariables false
namespace Go.Sh
open Go.Fw Go.Sha Go.RowKit Go.Proofs.Tryd

/-! ### no spring at all -/
theorem draw_nil {K : Nat} {n : Int} {p : Sl} {w : World} : spring_Spring_Draw K none n p w = some ((nilS, 1, ()), w) := by
  have e : spring_Spring_Draw_s0 K none n p w = some (.ret (⟨none, 0, 0⟩, 1, ()), w) := by unfold spring_Spring_Draw_s0; rw [if_pos (show (none : Option Addr).isNone = true from rfl)]
  unfold spring_Spring_Draw
  rw [e, bnd_ok]
theorem refDraw_nil {K : Nat} (hK : 18446744073709551616 ≤ K) {w : World} {p : Sl} {xss : List (List Int)} {Q : Nat → Prop} (hp : PartsW w p xss Q) (hQ : ∀ k, Q k → k < w.heap.size) (hlim : xss.flatten.length ≤ 33553408) {n : Int} :
    ∃ w', ref06_Spring_Draw K none n p w = some ((nilS, 1, ()), w') ∧ Upd none_ w w' := by
  obtain ⟨x, w1, a1, a2, a3, a4⟩ := rjoined_ok hK hp hQ (by omega)
  have e : ref06_Spring_Draw_s0 K none n x w1 = some (.ret (⟨none, 0, 0⟩, 1, ()), w1) := by unfold ref06_Spring_Draw_s0; rw [if_pos (show (none : Option Addr).isNone = true from rfl)]
  refine ⟨w1, ?_, a3⟩
  unfold ref06_Spring_Draw
  rw [a1, bnd_ok, e, bnd_ok]
theorem feed_nil {K : Nat} {e p : Sl} {w : World} : spring_Spring_Feed K none e p w = some ((1, ()), w) := by
  unfold spring_Spring_Feed; rw [if_pos (show (none : Option Addr).isNone = true from rfl)]
theorem refFeed_nil {K : Nat} (hK : 18446744073709551616 ≤ K) {w : World} {e p : Sl} {xss : List (List Int)} {Q : Nat → Prop} (hp : PartsW w p xss Q) (hQ : ∀ k, Q k → k < w.heap.size) (hlim : xss.flatten.length ≤ 33553408) :
    ∃ w', ref06_Spring_Feed K none e p w = some ((1, ()), w') ∧ Upd none_ w w' := by
  obtain ⟨x, w1, a1, a2, a3, a4⟩ := rjoined_ok hK hp hQ (by omega)
  have e0 : ref06_Spring_Feed_s0 K none e x w1 = some (.ret (1, ()), w1) := by unfold ref06_Spring_Feed_s0; rw [if_pos (show (none : Option Addr).isNone = true from rfl)]
  refine ⟨w1, ?_, a3⟩
  unfold ref06_Spring_Feed
  rw [a1, bnd_ok, e0, bnd_ok]
theorem left_nil {w : World} : spring_Spring_Left none w = some ((0, ()), w) := by unfold spring_Spring_Left; rw [if_pos (show (none : Option Addr).isNone = true from rfl)]
theorem refLeft_nil {w : World} : ref06_Spring_Left none w = some ((0, ()), w) := by unfold ref06_Spring_Left; rw [if_pos (show (none : Option Addr).isNone = true from rfl)]
theorem copy_nil {w : World} : spring_Spring_Copy none w = some ((none, ()), w) := by unfold spring_Spring_Copy; rw [if_pos (show (none : Option Addr).isNone = true from rfl)]
theorem refCopy_nil {w : World} : ref06_Spring_Copy none w = some ((none, ()), w) := by unfold ref06_Spring_Copy; rw [if_pos (show (none : Option Addr).isNone = true from rfl)]

/-! ### the document's spring: fed, copied, what is left -/
theorem refFeed_s0 {K : Nat} {g : Nat} {e x : Sl} {w : World} {n t : Nat} (hn : e.len = n) (hx : x.len = t) :
    ref06_Spring_Feed_s0 K (some ⟨g, 0, none⟩) e x w = some (if feedErr n t = 0 then .norm () else .ret (feedErr n t, ()), w) := by
  subst hn hx
  have e1 : ref06_Spring_Feed_s1 K e w = some ((decide (¬ (16 ≤ e.len ∧ e.len ≤ 65536)), ()), w) := by
    unfold ref06_Spring_Feed_s1
    by_cases h1 : e.len < 16
    · rw [if_pos (decide_eq_true (by omega)), decide_eq_true (show ¬ (16 ≤ e.len ∧ e.len ≤ 65536) by omega)]
    · rw [if_neg (fun h => h1 (by have := of_decide_eq_true h; omega))]
      congr 4; exact propext (by omega)
  unfold ref06_Spring_Feed_s0 feedErr
  rw [if_neg (show ¬ (some (⟨g, 0, none⟩ : Addr)).isNone = true from Bool.noConfusion), e1, bnd_ok]
  by_cases h1 : ¬ (16 ≤ e.len ∧ e.len ≤ 65536)
  · rw [decide_eq_true h1, if_pos rfl, if_pos h1, if_neg (by decide)]
  · rw [decide_eq_false h1, if_neg (by decide), if_neg h1]
    by_cases h2 : x.len > 65536
    · rw [if_pos (decide_eq_true (by omega)), if_pos h2, if_neg (by decide)]
    · rw [if_neg (fun h => h2 (by have := of_decide_eq_true h; omega)), if_neg h2, if_pos rfl]

theorem refFeed_err {K : Nat} (hK : 18446744073709551616 ≤ K) {w : World} {g : Nat} {e : Sl} {n : Nat} (hn : e.len = n) {p : Sl} {xss : List (List Int)} {Q : Nat → Prop} (hp : PartsW w p xss Q) (hQ : ∀ k, Q k → k < w.heap.size) (hlim : xss.flatten.length ≤ 33553408) (he : feedErr n xss.flatten.length ≠ 0) :
    ∃ w', ref06_Spring_Feed K (some ⟨g, 0, none⟩) e p w = some ((feedErr n xss.flatten.length, ()), w') ∧ Upd none_ w w' := by
  obtain ⟨x, w1, a1, a2, a3, a4⟩ := rjoined_ok hK hp hQ (by omega)
  have hxl : x.len = xss.flatten.length := by rw [a2.len, ints_length]
  refine ⟨w1, ?_, a3⟩
  unfold ref06_Spring_Feed
  rw [a1, bnd_ok, refFeed_s0 hn hxl, if_neg he, bnd_ok]

theorem refFeed_ok {K : Nat} (hK : 18446744073709551616 ≤ K) {C S : List Int} {w : World} (T : TabsR w C S) {g : Nat} (hg : 5 ≤ g) {h lim d : Int} {ks vs : List Int} {R : Nat → Prop} (s : SprAt R 84 w g h lim d ks vs) {e : Sl} {es : List Int} (pe : PartOk w (e, es)) {p : Sl} {xss : List (List Int)} {Q : Nat → Prop} (hp : PartsW w p xss Q) (hQ : ∀ k, Q k → k < w.heap.size) (he : feedErr es.length xss.flatten.length = 0) :
    ∃ w', ref06_Spring_Feed K (some ⟨g, 0, none⟩) e p w = some ((0, ()), w') ∧ SprAt (fun k => w.heap.size ≤ k) 84 w' g h lim 0 (updS C S h (ks, vs) (es ++ xss.flatten)).1 (updS C S h (ks, vs) (es ++ xss.flatten)).2 ∧ Upd (· = g) w w' := by
  have hel : e.len = es.length := by rw [pe.1.len, ints_length]
  have hb : 16 ≤ es.length ∧ es.length ≤ 65536 ∧ xss.flatten.length ≤ 65536 := by
    unfold feedErr at he
    split at he
    · cases he
    · split at he
      · cases he
      · omega
  obtain ⟨x, w1, a1, a2, a3, a4⟩ := rjoined_ok hK hp hQ (by omega)
  have hxl : x.len = xss.flatten.length := by rw [a2.len, ints_length]
  have hxi : ∀ z ∈ xss.flatten, InK .u8 z := fun z hz => by
    obtain ⟨l, hl, hzl⟩ := List.mem_flatten.1 hz
    exact hp.inn l hl z hzl
  have px : PartOk w1 (x, xss.flatten) := ⟨a2.src ints_one, hxi, by show xss.flatten.length ≤ _; omega, fun q hq _ => a2.lt (by rw [Sl.blk, hq]; rfl)⟩
  obtain ⟨w4, d1, d2, d3⟩ := some_parts (w := w1) [(e, es), (x, xss.flatten)] (fun q hq => by
    simp only [List.mem_cons, List.not_mem_nil, or_false] at hq
    rcases hq with rfl | rfl
    · exact up6 pe a3
    · exact px) (by simp) (by simp)
  have d1 : bldS prog 32 2 #[(0, (.slice e.a e.len e.cap)), (1, (.slice x.a x.len x.cap))] w1 = some (⟨some ⟨w1.heap.size, 0, none⟩, 2, 2⟩, w4) := d1
  have d2 : Parts w4 ⟨some ⟨w1.heap.size, 0, none⟩, 2, 2⟩ [es, xss.flatten] (fun k => k < w4.heap.size) := d2
  have hfl : ([es, xss.flatten] : List (List Int)).flatten = es ++ xss.flatten := by simp
  obtain ⟨y, w5, f1, f2, f3, f4⟩ := rjoined_ok hK d2.weak (fun k hk => hk) (by rw [hfl, List.length_append]; omega)
  rw [hfl] at f2
  have q5 := (a3.and0 d3).and0 f3
  have s5 := s.upd0 q5
  have hz1 := a3.size
  have hz4 := d3.size
  have hlt := s.lt
  have hin : ∀ z ∈ es ++ xss.flatten, InK .u8 z := fun z hz => (List.mem_append.1 hz).elim (pe.2.1 z) (hxi z)
  obtain ⟨w6, g1, g2, g3⟩ := ref_update hK (T.upd0 q5) hg s5 (f2.src ints_one) hin (fun q hq => ⟨f2.lt (by rw [Sl.blk, hq]; rfl), fun e => by have := f4 q.block (by rw [Sl.blk, hq]; rfl); omega⟩) (by rw [List.length_append]; omega)
  obtain ⟨sk, sv, b, v1, v2, v3⟩ := g2.ex
  have hz5 := q5.size
  obtain ⟨w7, i1, i2, i3⟩ := b.stC (i := 2) (by simp) (.int .i64 0)
  have k2 : stC ((⟨g, 0, none⟩ : Addr).add 2) (.int .i64 0) w6 = some w7 := by rw [add_lit]; exact i1
  refine ⟨w7, ?_, ⟨⟨sk, sv, i2, v1.upd i3 fun k hk e => vw_ne v1 b (by decide) k hk e, v2.upd i3 fun k hk e => vw_ne v2 b (by decide) k hk e, fun k hk => by have := v3 k hk; omega⟩, g2.kin, g2.vin, g2.kl, g2.vl⟩, ((q5.mono (T := (· = g)) fun _ _ e => e.elim).trans' g3 fun _ _ e => e).trans' i3 fun _ _ e => e⟩
  unfold ref06_Spring_Feed
  rw [a1, bnd_ok, refFeed_s0 hel hxl, if_pos he, bnd_ok]
  dsimp only
  rw [d1, bnd_ok, f1, bnd_ok, g1, bnd_ok, Option.bind_some, k2, Option.bind_some]

theorem refLeft_ok {w : World} {g : Nat} {h lim d : Int} {ks vs : List Int} {R : Nat → Prop} (s : SprAt R 84 w g h lim d ks vs) (hl : 0 ≤ d ∧ d ≤ lim ∧ lim ≤ 16777216) : ref06_Spring_Left (some ⟨g, 0, none⟩) w = some ((lim - d, ()), w.drew) := by
  obtain ⟨sk, sv, b, _⟩ := s.ex
  have l2 : ldI .i64 ((⟨g, 0, none⟩ : Addr).add 2) w.drew = some d := by rw [add_lit]; exact b.drew.ldI rfl
  have l1 : ldI .i64 ((⟨g, 0, none⟩ : Addr).add 1) w.drew = some lim := by rw [add_lit]; exact b.drew.ldI rfl
  unfold ref06_Spring_Left
  rw [if_neg (show ¬ (some (⟨g, 0, none⟩ : Addr)).isNone = true from Bool.noConfusion), Option.bind_some, Option.bind_some, l1, Option.bind_some, l2, Option.bind_some, w64 (by omega) (by omega)]

theorem built_RP (h lim d : Int) : prog.built 84 [(0, (.int .i64 h)), (1, (.int .i64 lim)), (2, (.int .i64 d))] = some #[.int .i64 h, .int .i64 lim, .int .i64 d, slV nilS, slV nilS] := by kernel_rfl

theorem refCopy_ok {w : World} {g : Nat} {h lim d : Int} {ks vs : List Int} {R : Nat → Prop} (s : SprAt R 84 w g h lim d ks vs) :
    ∃ g' w', ref06_Spring_Copy (some ⟨g, 0, none⟩) w = some ((some ⟨g', 0, none⟩, ()), w') ∧ SprAt (fun k => w.heap.size ≤ k) 84 w' g' h lim d ks vs ∧ w.heap.size ≤ g' ∧ Upd none_ w w' := by
  obtain ⟨sk, sv, b, v1, v2, v3⟩ := s.ex
  have hlt := s.lt
  have kl := s.kl
  have vl := s.vl
  have skl : sk.len = ks.length := by rw [v1.len, ints_length]
  have svl : sv.len = vs.length := by rw [v2.len, ints_length]
  have l0 : ldI .i64 ((⟨g, 0, none⟩ : Addr).add 0) w.drew = some h := by rw [add_lit]; exact b.drew.ldI rfl
  have l1 : ldI .i64 ((⟨g, 0, none⟩ : Addr).add 1) w.drew = some lim := by rw [add_lit]; exact b.drew.ldI rfl
  have l2 : ldI .i64 ((⟨g, 0, none⟩ : Addr).add 2) w.drew = some d := by rw [add_lit]; exact b.drew.ldI rfl
  have l3 : ∀ {w' : World}, Upd none_ w w' → ldS ((⟨g, 0, none⟩ : Addr).add 3) w' = some sk := fun u => by rw [add_lit]; exact (b.upd0 u).ldS rfl
  have l4 : ∀ {w' : World}, Upd none_ w w' → ldS ((⟨g, 0, none⟩ : Addr).add 4) w' = some sv := fun u => by rw [add_lit]; exact (b.upd0 u).ldS rfl
  obtain ⟨w1, n1, b1, u1, z1⟩ := newB_ok #[.int .i64 h, .int .i64 lim, .int .i64 d, slV nilS, slV nilS] 84 w.drew
  have b1 : Bk 84 w1 w.heap.size [.int .i64 h, .int .i64 lim, .int .i64 d, slV nilS, slV nilS] := b1
  have n1 : newB #[.int .i64 h, .int .i64 lim, .int .i64 d, slV nilS, slV nilS] 84 w.drew = some (⟨w.heap.size, 0, none⟩, w1) := n1
  have q1 : Upd none_ w w1 := u1.predrew
  have q1d : Upd none_ w w1.drew := q1.drew
  have hz1 := q1.size
  have hlt1 := b1.lt
  obtain ⟨s3, w2, a1, al, o1, u2, k2⟩ := apd_ok sliceB (Own.nil 5 w1.drew) ((v1.upd0 q1d).src ints_one) (by show (0 + sk.len) * 1 ≤ _; omega)
  have u2 : Upd none_ w1 w2 := (u2.mono (T := none_) fun k _ e => by cases e).predrew
  have q2 := q1.and0 u2
  have b2 := b1.upd0 u2
  have hz2 := u2.size
  have f3 : ∀ k, s3.blk = some k → w1.heap.size ≤ k := fun k hk => by
    rcases k2 with e | e
    · rw [e] at hk; cases hk
    · rw [e] at hk; exact Nat.le_of_eq (Option.some.inj hk)
  obtain ⟨w3, c1, c2, c3⟩ := b2.stC (i := 3) (by simp) (slV s3)
  have c1 : stC ((⟨w.heap.size, 0, none⟩ : Addr).add 3) (.slice s3.a s3.len s3.cap) w2 = some w3 := by rw [add_lit]; exact c1
  have q3 : Upd none_ w w3 := q2.trans' c3 fun k hk e => by omega
  have o3 : Own 5 w3 s3 (ints .u8 ks) := o1.upd c3 fun k hk e => by have := f3 k hk; omega
  have b3 : Bk 84 w3 w.heap.size [.int .i64 h, .int .i64 lim, .int .i64 d, slV s3, slV nilS] := c2
  have q3d : Upd none_ w w3.drew := q3.drew
  have hz3 := c3.size
  obtain ⟨s4, w4, d1, dl, o4, u4, k4⟩ := apd_ok sliceB (Own.nil 5 w3.drew) ((v2.upd0 q3d).src ints_one) (by show (0 + sv.len) * 1 ≤ _; omega)
  have u4 : Upd none_ w3 w4 := (u4.mono (T := none_) fun k _ e => by cases e).predrew
  have b4 := b3.upd0 u4
  have q4 := q3.and0 u4
  have f4 : ∀ k, s4.blk = some k → w3.heap.size ≤ k := fun k hk => by
    rcases k4 with e | e
    · rw [e] at hk; cases hk
    · rw [e] at hk; exact Nat.le_of_eq (Option.some.inj hk)
  obtain ⟨w5, e1, e2, e3⟩ := b4.stC (i := 4) (by simp) (slV s4)
  have e1 : stC ((⟨w.heap.size, 0, none⟩ : Addr).add 4) (.slice s4.a s4.len s4.cap) w4 = some w5 := by rw [add_lit]; exact e1
  have b5 : Bk 84 w5 w.heap.size [.int .i64 h, .int .i64 lim, .int .i64 d, slV s3, slV s4] := e2
  have m3 : ldS ((⟨w.heap.size, 0, none⟩ : Addr).add 3) w1.drew = some nilS := by rw [add_lit]; exact b1.drew.ldS rfl
  have m4 : ldS ((⟨w.heap.size, 0, none⟩ : Addr).add 4) w3.drew = some nilS := by rw [add_lit]; exact b3.drew.ldS rfl
  refine ⟨w.heap.size, w5, ?_, ⟨⟨s3, s4, b5, (o3.vw.upd0 u4).upd e3 fun k hk e => by have := f3 k hk; omega, o4.vw.upd e3 fun k hk e => by have := f4 k hk; omega, fun k hk => ?_⟩, s.kin, s.vin, kl, vl⟩, Nat.le_refl _, q4.trans' e3 fun k hk e => by omega⟩
  · unfold ref06_Spring_Copy
    rw [if_neg (show ¬ (some (⟨g, 0, none⟩ : Addr)).isNone = true from Bool.noConfusion), Option.bind_some, Option.bind_some, Option.bind_some, l0, Option.bind_some, l1, Option.bind_some, l2, Option.bind_some, built_RP, Option.bind_some, n1, bnd_ok, Option.bind_some, m3, Option.bind_some, l3 q1d, Option.bind_some]
    show bnd (apd prog 22 22 (.slice none 0 0) _ w1.drew) _ = _
    rw [a1, bnd_ok, c1, Option.bind_some, Option.bind_some, m4, Option.bind_some, l4 q3d, Option.bind_some]
    show bnd (apd prog 22 22 (.slice none 0 0) _ w3.drew) _ = _
    rw [d1, bnd_ok, e1, Option.bind_some]
  · rcases hk with hk | hk
    · have := f3 k hk; omega
    · have := f4 k hk; omega

/-! ### copies that are lent lie in blocks of their own -/

def LentD (w : World) (B N : Nat) (l : Sl) (ps : List (Sl × List Int)) : Prop := Own 22 w l (ps.map fun p => slV p.1) ∧ (∀ p ∈ ps, LentOne w B N l p) ∧ ps.Pairwise fun p q => p.1.blk ≠ q.1.blk

theorem LentD.upd {w w' : World} {B N : Nat} {l : Sl} {ps : List (Sl × List Int)} {X : Nat → Prop} (h : LentD w B N l ps) (hf : ∀ k, l.blk = some k → B ≤ k ∧ k < N) (u : Upd X w w') (hn : ∀ k, B ≤ k → k < N → ¬ X k) : LentD w' B N l ps := by
  obtain ⟨h1, h2, h3⟩ := h
  refine ⟨h1.upd u fun k hk => hn k (hf k hk).1 (hf k hk).2, fun p hp => ?_, h3⟩
  obtain ⟨g, cap, a1, a2, a3, a4, a5⟩ := h2 p hp
  exact ⟨g, cap, a1, a2, a3, a4, a5.upd u fun k hk => by simp [Sl.blk] at hk; subst hk; exact hn _ a2 a3⟩

theorem lentD_loop {K : Nat} (hK : 18446744073709551616 ≤ K) {B : Nat} {s : Sl} {xss : List (List Int)} {Q : Nat → Prop} (hQ : ∀ k, Q k → k < B) :
    ∀ (d i n : Nat) (w : World) (l : Sl) (ps : List (Sl × List Int)), i + d = xss.length → d < n → PartsW w s xss Q → ps.map Prod.snd = xss.take i → LentD w B w.heap.size l ps → (∀ k, l.blk = some k → B ≤ k) → B ≤ w.heap.size →
      ∃ l' w' ps', law06_lent_l0 K n s l (i : Int) w = some ((l', ()), w') ∧ ps'.map Prod.snd = xss ∧ LentD w' B w'.heap.size l' ps' ∧ (∀ k, l'.blk = some k → B ≤ k) ∧ Below B w w' := by
  intro d
  induction d with
  | zero =>
    intro i n w l ps hi hn hp hps hl hlb hB
    obtain ⟨n, rfl⟩ : ∃ m, n = m + 1 := ⟨n - 1, by omega⟩
    have hd : decide ((i : Int) < ((s.len : Nat) : Int)) = false := by rw [hp.len]; simp; omega
    refine ⟨l, w, ps, ?_, by rw [hps, List.take_of_length_le (by omega)], hl, hlb, Below.refl B w⟩
    show law06_lent_l0_b K (law06_lent_l0 K n) s l (i : Int) w = _
    unfold law06_lent_l0_b
    rw [hd, if_neg (by decide)]
  | succ d ih =>
    intro i n w l ps hi hn hp a1 hl a4 hB
    obtain ⟨n, rfl⟩ : ∃ m, n = m + 1 := ⟨n - 1, by omega⟩
    have hm := hp.many
    have hd : decide ((i : Int) < ((s.len : Nat) : Int)) = true := by rw [hp.len]; simp; omega
    obtain ⟨p, t, h1, h2, h3, h5, h6, h7⟩ := hp.at (i := i) (by omega)
    have c : (0 : Int) ≤ (i : Int) ∧ (i : Int) < ((s.len : Nat) : Int) := by rw [hp.len]; omega
    have e1 : IntKind.i64.wrap ((i : Int) + 1) = ((i + 1 : Nat) : Int) := by rw [w64 (by omega) (by omega)]; rfl
    obtain ⟨a2, a3, a6⟩ := hl
    have hpl : ps.length = i := by have := congrArg List.length a1; simp at this; omega
    have hll : l.len = i := by rw [a2.len]; simp [hpl]
    obtain ⟨g, cap, w1, b1, b2, b3, b4⟩ := Bytes_ok hK h3 h6
    obtain ⟨w2, c1, c2, c3, c4⟩ := bldS1_ok sliceSS (.slice (some ⟨g, 0, none⟩) (xss.getD i []).length cap) rfl w1
    have hs1 := b4.size
    have hgl : g < w1.heap.size := b2.lt (by simp [Sl.blk])
    obtain ⟨l3, w3, d1, d2, d3, d4, d5⟩ := apd_ok sliceSS ((a2.upd0 b4).upd0 c3) (c2.src (by simp [Value.oneCell'])) (by show (l.len + 1) * 24 ≤ _; omega)
    have hlb : ∀ k, l.blk = some k → k < w.heap.size := fun k hk => a2.lt hk
    have u3 : Below B w w3 := (((b4.and0 c3).mono (T := fun k => l.blk = some k) fun _ _ e => e.elim).trans' d4 fun _ _ e => e).below hB fun k hk e => by have := a4 k e; omega
    have hl3 : ∀ k, k < w2.heap.size → l.blk ≠ some k → l3.blk ≠ some k := fun k hk hne e => by
      rcases d5 with d5 | d5
      · exact hne (d5 ▸ e)
      · rw [d5] at e; have := Option.some.inj e; omega
    have hs2 := c3.size
    have hs3 := d4.size
    have hone : LentD w3 B w3.heap.size l3 (ps ++ [(⟨some ⟨g, 0, none⟩, (xss.getD i []).length, cap⟩, xss.getD i [])]) := by
      refine ⟨by rw [List.map_append]; exact d3, ?_, ?_⟩
      · intro q hq
        rcases List.mem_append.1 hq with hq | hq
        · obtain ⟨g2, cap2, f1, f2, f3, f4, f5⟩ := a3 q hq
          have hg2 : g2 < w.heap.size := by omega
          exact ⟨g2, cap2, f1, f2, by omega, hl3 g2 (by omega) f4, ((f5.upd0 b4).upd0 c3).upd d4 fun k hk e => by simp [Sl.blk] at hk; subst hk; exact f4 e⟩
        · obtain rfl := List.mem_singleton.1 hq
          exact ⟨g, cap, rfl, by omega, by omega, hl3 g (by omega) (fun e => by have := hlb g e; omega), (b2.upd0 c3).upd d4 fun k hk e => by simp [Sl.blk] at hk; subst hk; have := hlb _ e; omega⟩
      · rw [List.pairwise_append]
        refine ⟨a6, List.pairwise_singleton .., fun q hq r hr => ?_⟩
        obtain rfl := List.mem_singleton.1 hr
        obtain ⟨g2, cap2, f1, f2, f3, f4, f5⟩ := a3 q hq
        rw [f1]
        intro e
        have : g2 = g := by simpa [Sl.blk] using e
        omega
    have hfr : ∀ k, l3.blk = some k → B ≤ k := by
      intro k hk
      rcases d5 with d5 | d5
      · exact a4 k (d5 ▸ hk)
      · rw [d5] at hk; have := Option.some.inj hk; omega
    obtain ⟨l4, w4, ps4, f1, f2, f3, f4, f5⟩ := ih (i + 1) n w3 l3 _ (by omega) (by omega) (hp.upd (upd_of_below u3) fun k hk e => by have := hQ k hk; omega) (by rw [List.map_append, a1, take_succ_getD (by omega) []]; rfl) hone hfr (by have := u3.size; omega)
    refine ⟨l4, w4, ps4, ?_, f2, f3, f4, u3.trans f5⟩
    show law06_lent_l0_b K (law06_lent_l0 K n) s l (i : Int) w = _
    unfold law06_lent_l0_b
    rw [hd, if_pos rfl, h1, Option.bind_some, if_pos c, Int.toNat_natCast, Nat.mul_one, h2, Option.bind_some, b1, bnd_ok]
    dsimp only
    rw [c1, bnd_ok]
    dsimp only
    rw [d1, bnd_ok, e1, f1]

theorem lentD_ok {K : Nat} (hK : 18446744073709551616 ≤ K) {s : Sl} {xss : List (List Int)} {Q : Nat → Prop} {w : World} (hp : PartsW w s xss Q) (hQ : ∀ k, Q k → k < w.heap.size) :
    ∃ l w' ps, law06_lent K s w = some ((l, ()), w') ∧ ps.map Prod.snd = xss ∧ LentD w' w.heap.size w'.heap.size l ps ∧ (∀ k, l.blk = some k → w.heap.size ≤ k ∧ k < w'.heap.size) ∧ Upd none_ w w' := by
  have hm := hp.many
  obtain ⟨l, w', ps, h1, h2, h3, h4, h5⟩ := lentD_loop hK hQ xss.length 0 K w nilS [] (by omega) (by omega) hp rfl ⟨Own.nil .., (fun _ h => by simp at h), List.Pairwise.nil⟩ (fun k hk => by cases hk) (Nat.le_refl _)
  have h1 : law06_lent_l0 K K s nilS 0 w = _ := h1
  refine ⟨l, w', ps, ?_, h2, h3, fun k hk => ⟨h4 k hk, h3.1.lt hk⟩, Upd.of_below h5⟩
  unfold law06_lent
  rw [h1, bnd_ok]

theorem LentD.parts {w : World} {B N : Nat} {l : Sl} {ps : List (Sl × List Int)} (h : LentD w B N l ps) (hf : ∀ k, l.blk = some k → B ≤ k ∧ k < N) (hin : ∀ p ∈ ps, ∀ x ∈ p.2, InK .u8 x) (hl : ∀ p ∈ ps, p.2.length ≤ 140737488351232) : PartsL w l ps fun k => B ≤ k ∧ k < N := by
  obtain ⟨h1, h2, h3⟩ := h
  refine ⟨h1.src (fun v hv => by obtain ⟨x, _, rfl⟩ := List.mem_map.1 hv; rfl), fun p hp => ?_, fun a ha _ => hf a.block (by rw [Sl.blk, ha]; rfl)⟩
  have h0 := h2 p hp
  obtain ⟨g, cap, a1, a2, a3, a4, a5⟩ := h2 p hp
  refine ⟨⟨h0.src, hin p hp, hl p hp, fun a ha _ => ?_⟩, fun a ha _ => ?_⟩
  · rw [a1] at ha; obtain rfl := Option.some.inj ha; exact a5.lt rfl
  · rw [a1] at ha; obtain rfl := Option.some.inj ha; exact ⟨a2, a3⟩

/-- each of the copies is whole, and spoiled then -/
theorem kept_loop {K : Nat} (hK : 18446744073709551616 ≤ K) {l s : Sl} {B N : Nat} {xss : List (List Int)} {Q : Nat → Prop} {ps : List (Sl × List Int)} (hx : ps.map Prod.snd = xss) (hQ : ∀ k, Q k → k < B) (hpw : ps.Pairwise fun p q => p.1.blk ≠ q.1.blk) :
    ∀ (d i n : Nat) (w : World), i + d = ps.length → d < n → PartsW w s xss Q → Own 22 w l (ps.map fun p => slV p.1) → (∀ j p, i ≤ j → ps[j]? = some p → LentOne w B N l p) →
      ∃ w', law06_kept_l0 K n l s (i : Int) w = some (.norm (), w') ∧ Upd (fun k => B ≤ k ∧ k < N) w w' := by
  have hpl : xss.length = ps.length := by rw [← hx]; simp
  intro d
  induction d with
  | zero =>
    intro i n w hi hn hp ho hl
    obtain ⟨n, rfl⟩ : ∃ m, n = m + 1 := ⟨n - 1, by omega⟩
    have hll : l.len = ps.length := by rw [ho.len]; simp
    have hd : decide ((i : Int) < ((l.len : Nat) : Int)) = false := by rw [hll]; simp; omega
    refine ⟨w, ?_, Upd.refl _ _⟩
    show law06_kept_l0_b K (law06_kept_l0 K n) l s (i : Int) w = _
    unfold law06_kept_l0_b
    rw [hd, if_neg (by decide)]
  | succ d ih =>
    intro i n w hi hn hp ho hl
    obtain ⟨n, rfl⟩ : ∃ m, n = m + 1 := ⟨n - 1, by omega⟩
    have hll : l.len = ps.length := by rw [ho.len]; simp
    have hi2 : i < ps.length := by omega
    have hm := hp.many
    have hd : decide ((i : Int) < ((l.len : Nat) : Int)) = true := by rw [hll]; simp; omega
    have c : (0 : Int) ≤ (i : Int) ∧ (i : Int) < ((l.len : Nat) : Int) := by rw [hll]; omega
    have c2 : (0 : Int) ≤ (i : Int) ∧ (i : Int) < ((s.len : Nat) : Int) := by rw [hp.len]; omega
    have e1 : IntKind.i64.wrap ((i : Int) + 1) = ((i + 1 : Nat) : Int) := by rw [w64 (by omega) (by omega)]; rfl
    have hget : ps[i]? = some ps[i] := List.getElem?_eq_getElem hi2
    obtain ⟨g, cap, f1, f2, f3, f4, f5⟩ := hl i ps[i] (Nat.le_refl _) hget
    have hgd : xss.getD i [] = ps[i].2 := by rw [← hx]; simp [List.getD_eq_getElem?_getD, hi2]
    have ud : Upd none_ w w.drew := (Upd.refl none_ w).drew
    obtain ⟨q, t, h1, h2, h3, h5, h6, h7⟩ := (hp.upd0 ud).at (i := i) (by omega)
    rw [hgd] at h3 h6
    have hsrc := ho.src (fun v hv => by obtain ⟨x, _, rfl⟩ := List.mem_map.1 hv; rfl)
    rcases hsrc.rd with ⟨b1, b2, b3⟩ | ⟨p, b1, b2⟩
    · have : ps = [] := by simpa using b3
      rw [this] at hi2; simp at hi2
    have hrd : ∀ {w' : World}, Own 22 w' l (ps.map fun p => slV p.1) → ldS (p.add i) w' = some ps[i].1 := by
      intro w' ho'
      rcases (ho'.src (fun v hv => by obtain ⟨x, _, rfl⟩ := List.mem_map.1 hv; rfl)).rd with ⟨k1, _⟩ | ⟨p', k1, k2⟩
      · rw [b1] at k1; cases k1
      · rw [b1] at k1; obtain rfl := Option.some.inj k1
        have hrd : Rd w' p ((ps.map Prod.fst).map slV) := by rw [List.map_map]; exact k2
        have hld := ldS_rd hrd (i := i) (by simpa using hi2)
        have e2 : (ps.map Prod.fst).getD i nilS = ps[i].1 := by simp [List.getD_eq_getElem?_getD, hi2]
        rw [e2] at hld; exact hld
    obtain ⟨w1, g1, u1⟩ := WholeBytes_ok hK (f5.upd0 ud) h3.rds h6
    rw [decide_eq_true rfl, ← f1] at g1
    have ho1 := (ho.upd0 ud).upd0 u1
    obtain ⟨w2, s1, u2⟩ := SpoilBytes_ok hK ((marked_front f5).vw.upd0 (ud.and0 u1)) h6
    rw [← f1] at s1 u2
    have hb1 : ps[i].1.blk = some g := by rw [f1]; rfl
    have u2' : Upd (fun k => B ≤ k ∧ k < N) w w2 := ((ud.and0 u1).mono (T := fun k => B ≤ k ∧ k < N) fun _ _ e => e.elim).trans' u2 fun k _ e => by rw [hb1] at e; have := Option.some.inj e; omega
    have v2 : Upd (fun k => ps[i].1.blk = some k) w w2 := ((ud.and0 u1).mono (T := fun k => ps[i].1.blk = some k) fun _ _ e => e.elim).trans' u2 fun k _ e => e
    obtain ⟨w3, g3, g4⟩ := ih (i + 1) n w2 (by omega) (by omega) (hp.upd u2' fun k hk e => by have := hQ k hk; omega) (ho.upd v2 fun k hk e => by rw [hb1] at e; exact f4 (e ▸ hk)) fun j q hj hq => by
      obtain ⟨g', cap', k1, k2, k3, k4, k5⟩ := hl j q (by omega) hq
      have hj2 := (List.getElem?_eq_some_iff.1 hq).1
      have hqe := (List.getElem?_eq_some_iff.1 hq).2
      have hne := (List.pairwise_iff_getElem.1 hpw) i j hi2 hj2 (by omega)
      rw [hqe, hb1, k1] at hne
      exact ⟨g', cap', k1, k2, k3, k4, k5.upd v2 fun k hk e => by rw [hb1] at e; simp only [Sl.blk, Option.map_some] at hk hne; exact hne (e.trans hk.symm)⟩
    refine ⟨w3, ?_, u2'.trans' g4 fun _ _ e => e⟩
    show law06_kept_l0_b K (law06_kept_l0 K n) l s (i : Int) w = _
    unfold law06_kept_l0_b
    rw [hd, if_pos rfl, b1, Option.bind_some, if_pos c, h1, Option.bind_some, if_pos c2, Int.toNat_natCast, Nat.mul_one, hrd (ho.upd0 ud), Option.bind_some, h2, Option.bind_some, g1, bnd_ok]
    dsimp only
    rw [if_neg (by decide), Option.bind_some, if_pos c, hrd ho1, Option.bind_some, s1, bnd_ok, e1, g3]

theorem kept_ok {K : Nat} (hK : 18446744073709551616 ≤ K) {l s : Sl} {B N : Nat} {xss : List (List Int)} {Q : Nat → Prop} {ps : List (Sl × List Int)} {w : World} (hx : ps.map Prod.snd = xss) (hQ : ∀ k, Q k → k < B) (hp : PartsW w s xss Q) (h : LentD w B N l ps) :
    ∃ w', law06_kept K l s w = some ((true, ()), w') ∧ Upd (fun k => B ≤ k ∧ k < N) w w' := by
  have hm := hp.many
  have hpl : xss.length = ps.length := by rw [← hx]; simp
  obtain ⟨h1, h2, h3⟩ := h
  obtain ⟨w', a1, a2⟩ := kept_loop hK hx hQ h3 ps.length 0 K w (by omega) (by omega) hp h1 fun j p _ hj => h2 p (List.mem_of_getElem? hj)
  have a1 : law06_kept_l0 K K l s 0 w = _ := a1
  refine ⟨w', ?_, a2⟩
  have hll : l.len = ps.length := by rw [h1.len]; simp
  have hd : (((l.len : Nat) : Int) == ((s.len : Nat) : Int)) = true := by rw [hll, hp.len, hpl]; simp
  unfold law06_kept
  rw [a1, bnd_ok]
  dsimp only
  rw [hd]

/-! ### are they long? -/
theorem llong_loop {K : Nat} {s : Sl} {xss : List (List Int)} {Q : Nat → Prop} {w : World} (hp : PartsW w s xss Q) :
    ∀ (d i n acc : Nat), i + d = xss.length → d < n → acc + (xss.drop i).flatten.length ≤ 262144 → law06_long_l0 K n s (acc : Int) (i : Int) w = some (.norm (((acc + (xss.drop i).flatten.length : Nat) : Int), ())) := by
  intro d
  have hpl := hp.len
  have hmany := hp.many
  induction d with
  | zero =>
    intro i n acc hi hn ha
    obtain ⟨n, rfl⟩ : ∃ m, n = m + 1 := ⟨n - 1, by omega⟩
    have e : law06_long_s1 K s (acc : Int) (i : Int) w = some (.norm (false, ())) := by unfold law06_long_s1; rw [if_neg (by simp; omega)]
    show law06_long_l0_b K w _ s (acc : Int) (i : Int) = _
    unfold law06_long_l0_b
    rw [e, Option.bind_some, List.drop_of_length_le (by omega)]
    rfl
  | succ d ih =>
    intro i n acc hi hn ha
    obtain ⟨n, rfl⟩ : ∃ m, n = m + 1 := ⟨n - 1, by omega⟩
    obtain ⟨p, t, h1, h2, h3, h5, h6, h7⟩ := hp.at (i := i) (by omega)
    have hdr : xss.drop i = xss.getD i [] :: xss.drop (i + 1) := drop_getD (by omega) []
    rw [hdr, List.flatten_cons, List.length_append] at ha ⊢
    have e : law06_long_s1 K s (acc : Int) (i : Int) w = some (.norm (true, ())) := by
      unfold law06_long_s1; rw [if_pos (by simp; omega), decide_eq_true (show (acc : Int) ≤ 262144 by omega)]
    have e1 : IntKind.i64.wrap ((i : Int) + 1) = ((i + 1 : Nat) : Int) := by rw [w64 (by omega) (by omega)]; rfl
    have e2 : IntKind.i64.wrap ((acc : Int) + ((t.len : Nat) : Int)) = ((acc + (xss.getD i []).length : Nat) : Int) := by rw [w64 (by omega) (by omega)]; omega
    show law06_long_l0_b K w (law06_long_l0 K n · · · w) s (acc : Int) (i : Int) = _
    unfold law06_long_l0_b
    rw [e, Option.bind_some]
    dsimp only
    rw [if_pos rfl, h1, Option.bind_some, if_pos (show (0 : Int) ≤ (i : Int) ∧ (i : Int) < ((s.len : Nat) : Int) by rw [hpl]; omega), Int.toNat_natCast, Nat.mul_one, h2, Option.bind_some, e2, e1]
    have := ih (i + 1) n (acc + (xss.getD i []).length) (by omega) (by omega) (by omega)
    rw [Nat.add_assoc] at this
    exact this

theorem llong_ok {K : Nat} (hK : 18446744073709551616 ≤ K) {s : Sl} {xss : List (List Int)} {Q : Nat → Prop} {w : World} (hp : PartsW w s xss Q) (hl : xss.flatten.length ≤ 262144) : law06_long K s w = some (false, ()) := by
  have hm := hp.many
  have h := llong_loop (K := K) hp xss.length 0 K 0 (by omega) (by omega) (by simpa using hl)
  rw [List.drop_zero, Nat.zero_add] at h
  have h : law06_long_l0 K K s 0 0 w = _ := h
  unfold law06_long
  rw [h, Option.bind_some]
  dsimp only
  rw [decide_eq_false (by omega)]

/-- one more in a list of lists -/
theorem push_ok {w : World} {o : Sl} {xs : List Value} (a : Sl) (h : Own 22 w o xs) (hl : xs.length ≤ 1000) :
    ∃ s w1 o' w2, bldS prog 32 1 #[(0, (.slice a.a a.len a.cap))] w = some (s, w1) ∧ apd prog 32 32 (.slice o.a o.len o.cap) (.slice s.a s.len s.cap) w1 = some (o', w2) ∧ Own 22 w2 o' (xs ++ [slV a]) ∧ Upd (fun k => o.blk = some k) w w2 ∧ ∀ k, o'.blk = some k → o.blk = some k ∨ w.heap.size ≤ k := by
  obtain ⟨w1, c1, c2, c3, c4⟩ := bldS1_ok sliceSS (slV a) rfl w
  have ol := h.len
  obtain ⟨o', w2, d1, d2, d3, d4, d5⟩ := apd_ok sliceSS (h.upd0 c3) (c2.src (fun v hv => by rw [List.mem_singleton.1 hv]; rfl)) (by show (o.len + 1) * 24 ≤ _; omega)
  refine ⟨_, w1, o', w2, c1, d1, d3, (c3.mono (T := fun k => o.blk = some k) fun _ _ e => e.elim).trans' d4 fun _ _ e => e, fun k hk => ?_⟩
  rcases d5 with e | e
  · exact .inl (e ▸ hk)
  · rw [e] at hk
    have := Option.some.inj hk
    have := c3.size
    right; omega

end Go.Sh

/- The program's spring and the document's, in one step. -/
set_option linter.unusedVariables false
namespace Go.Sh
open Go.Fw Go.Sha Go.RowKit Go.Proofs.Tryd

/-- no block of X holds bytes -/
def NoEB (w : World) (X : Nat → Prop) : Prop := ∀ k cs fz, X k → w.heap[k]? ≠ some (.cells cs 5 fz)

theorem noEB_bk {t : TypeId} {w : World} {g : Nat} {cs : List Value} (b : Bk t w g cs) (ht : t ≠ 5) : NoEB w (· = g) := by
  rintro k cs' fz rfl e
  unfold Bk at b
  rw [b] at e
  simp only [Option.some.injEq, Obj.cells.injEq] at e
  exact ht e.2.1
theorem noEB_own {w : World} {s : Sl} {xs : List Value} (o : Own 22 w s xs) : NoEB w (fun k => s.blk = some k) := by
  intro k cs fz hk e
  rcases o.2 with ⟨a1, _⟩ | ⟨g, cur, a1, a2, _⟩
  · simp [Sl.blk, a1] at hk
  · have : g = k := by simpa [Sl.blk, a1] using hk
    subst this
    rw [a2] at e
    simp only [Option.some.injEq, Obj.cells.injEq] at e
    exact absurd e.2.1 (by decide)
theorem NoEB.or {w : World} {X Y : Nat → Prop} (h : NoEB w X) (h' : NoEB w Y) : NoEB w (fun k => X k ∨ Y k) := fun k cs fz hk => hk.elim (h k cs fz) (h' k cs fz)
theorem vw_updT {w w' : World} {s : Sl} {xs : List Value} {X : Nat → Prop} (h : Vw 5 w s xs) (u : Upd X w w') (hX : NoEB w X) : Vw 5 w' s xs := by
  refine h.upd u fun k hk hx => ?_
  rcases h.2 with ⟨a1, _⟩ | ⟨g, o, cs, a1, a2, _⟩
  · simp [Sl.blk, a1] at hk
  · have : g = k := by simpa [Sl.blk, a1] using hk
    subst this
    exact hX g _ _ hx a2
/-- a block of bytes -/
theorem vw_bk {w : World} {s : Sl} {xs : List Value} (h : Vw 5 w s xs) {k : Nat} (hk : s.blk = some k) : ∃ cs, Bk 5 w k cs := by
  rcases h.2 with ⟨a1, _⟩ | ⟨g, o, cs, a1, a2, _⟩
  · simp [Sl.blk, a1] at hk
  · have : g = k := by simpa [Sl.blk, a1] using hk
    subst this
    exact ⟨cs, a2⟩

theorem SprAt.updT {R X : Nat → Prop} {t : TypeId} {w w' : World} {g : Nat} {h lim d : Int} {ks vs : List Int} (s : SprAt R t w g h lim d ks vs) (u : Upd X w w') (hg : ¬ X g) (hX : NoEB w X) : SprAt R t w' g h lim d ks vs := by
  obtain ⟨sk, sv, h1, h2, h3, h4⟩ := s.ex
  exact ⟨⟨sk, sv, h1.upd u hg, vw_updT h2 u hX, vw_updT h3 u hX, h4⟩, s.kin, s.vin, s.kl, s.vl⟩
theorem SprAt.lts {R : Nat → Prop} {t : TypeId} {w : World} {g : Nat} {h lim d : Int} {ks vs : List Int} (s : SprAt R t w g h lim d ks vs) : SprAt (fun k => R k ∧ k < w.heap.size) t w g h lim d ks vs := by
  obtain ⟨sk, sv, h1, h2, h3, h4⟩ := s.ex
  exact ⟨⟨sk, sv, h1, h2, h3, fun k hk => ⟨h4 k hk, hk.elim (fun e => h2.lt e) fun e => h3.lt e⟩⟩, s.kin, s.vin, s.kl, s.vl⟩

/-- both springs are none, or both are there and in the same state -/
def Side (R : Nat → Prop) (B : Nat) (w : World) (h lim : Int) (p q : Option Addr) : Prop :=
  (p = none ∧ q = none) ∨ ∃ (a b : Nat) (d : Int) (kv : List Int × List Int), p = some ⟨a, 0, none⟩ ∧ q = some ⟨b, 0, none⟩ ∧ SprAt R 56 w a h lim d kv.1 kv.2 ∧ SprAt R 84 w b h lim d kv.1 kv.2 ∧ known h = true ∧ 0 ≤ d ∧ d ≤ lim ∧ lim ≤ 16777216 ∧ B ≤ a ∧ B ≤ b

/-- the blocks of the two -/
def PQ (p q : Option Addr) (k : Nat) : Prop := (∃ a, p = some a ∧ a.block = k) ∨ ∃ b, q = some b ∧ b.block = k

theorem PQ.elim2 {a b k : Nat} (h : PQ (some ⟨a, 0, none⟩) (some ⟨b, 0, none⟩) k) : k = a ∨ k = b := by
  rcases h with ⟨x, h1, h2⟩ | ⟨x, h1, h2⟩
  · obtain rfl := Option.some.inj h1; exact .inl h2.symm
  · obtain rfl := Option.some.inj h1; exact .inr h2.symm
theorem PQ.l {a : Nat} {q : Option Addr} : PQ (some ⟨a, 0, none⟩) q a := .inl ⟨_, rfl, rfl⟩
theorem PQ.r {b : Nat} {p : Option Addr} : PQ p (some ⟨b, 0, none⟩) b := .inr ⟨_, rfl, rfl⟩
theorem PQ.elim0 {k : Nat} (h : PQ none none k) : False := by
  rcases h with ⟨x, h1, _⟩ | ⟨x, h1, _⟩ <;> cases h1

theorem Side.mono {R R' : Nat → Prop} {B : Nat} {w : World} {h lim : Int} {p q : Option Addr} (s : Side R B w h lim p q) (hR : ∀ k, R k → R' k) : Side R' B w h lim p q :=
  s.imp id fun ⟨a, b, d, kv, e1, e2, s1, s2, r⟩ => ⟨a, b, d, kv, e1, e2, s1.mono hR, s2.mono hR, r⟩
theorem Side.lts {R : Nat → Prop} {B : Nat} {w : World} {h lim : Int} {p q : Option Addr} (s : Side R B w h lim p q) : Side (fun k => R k ∧ k < w.heap.size) B w h lim p q :=
  s.imp id fun ⟨a, b, d, kv, e1, e2, s1, s2, r⟩ => ⟨a, b, d, kv, e1, e2, s1.lts, s2.lts, r⟩
theorem Side.upd0 {R : Nat → Prop} {B : Nat} {w w' : World} {h lim : Int} {p q : Option Addr} (s : Side R B w h lim p q) (u : Upd none_ w w') : Side R B w' h lim p q :=
  s.imp id fun ⟨a, b, d, kv, e1, e2, s1, s2, r⟩ => ⟨a, b, d, kv, e1, e2, s1.upd0 u, s2.upd0 u, r⟩
theorem Side.updT {R X : Nat → Prop} {B : Nat} {w w' : World} {h lim : Int} {p q : Option Addr} (s : Side R B w h lim p q) (u : Upd X w w') (hp : ∀ k, PQ p q k → ¬ X k) (hX : NoEB w X) : Side R B w' h lim p q := by
  rcases s with e | ⟨a, b, d, kv, rfl, rfl, s1, s2, r⟩
  · exact .inl e
  · exact .inr ⟨a, b, d, kv, rfl, rfl, s1.updT u (hp a PQ.l) hX, s2.updT u (hp b PQ.r) hX, r⟩
theorem Side.updR {R X : Nat → Prop} {B : Nat} {w w' : World} {h lim : Int} {p q : Option Addr} (s : Side R B w h lim p q) (u : Upd X w w') (hp : ∀ k, PQ p q k → ¬ X k) (hR : ∀ k, R k → ¬ X k) : Side R B w' h lim p q := by
  rcases s with e | ⟨a, b, d, kv, rfl, rfl, s1, s2, r⟩
  · exact .inl e
  · exact .inr ⟨a, b, d, kv, rfl, rfl, s1.upd u (hp a PQ.l) hR, s2.upd u (hp b PQ.r) hR, r⟩
theorem Side.lt {R : Nat → Prop} {B : Nat} {w : World} {h lim : Int} {p q : Option Addr} (s : Side R B w h lim p q) {k : Nat} (hk : PQ p q k) : B ≤ k ∧ k < w.heap.size := by
  rcases s with ⟨rfl, rfl⟩ | ⟨a, b, d, kv, rfl, rfl, s1, s2, _, _, _, _, r1, r2⟩
  · exact hk.elim0.elim
  · rcases hk.elim2 with rfl | rfl
    · exact ⟨r1, s1.lt⟩
    · exact ⟨r2, s2.lt⟩
theorem Side.noEB {R : Nat → Prop} {B : Nat} {w : World} {h lim : Int} {p q : Option Addr} (s : Side R B w h lim p q) : NoEB w (PQ p q) := by
  rcases s with ⟨rfl, rfl⟩ | ⟨a, b, d, kv, rfl, rfl, s1, s2, _⟩
  · intro k cs fz hk; exact hk.elim0.elim
  · intro k cs fz hk
    obtain ⟨_, _, b1, _⟩ := s1.ex
    obtain ⟨_, _, b2, _⟩ := s2.ex
    rcases hk.elim2 with e | e
    · exact noEB_bk b1 (by decide) k cs fz e
    · exact noEB_bk b2 (by decide) k cs fz e
/-- a block of another type is none of the two -/
theorem Side.ne {R : Nat → Prop} {B : Nat} {w : World} {h lim : Int} {p q : Option Addr} (s : Side R B w h lim p q) {t : TypeId} {g : Nat} {cs : List Value} (b : Bk t w g cs) (h1 : t ≠ 56) (h2 : t ≠ 84) : ¬ PQ p q g := by
  rcases s with ⟨rfl, rfl⟩ | ⟨x, y, d, kv, rfl, rfl, s1, s2, _⟩
  · exact PQ.elim0
  · intro hk
    obtain ⟨_, _, b1, _⟩ := s1.ex
    obtain ⟨_, _, b2, _⟩ := s2.ex
    rcases hk.elim2 with rfl | rfl
    · exact bk_ne b b1 h1 rfl
    · exact bk_ne b b2 h2 rfl

theorem snd_in {ps : List (Sl × List Int)} {xss : List (List Int)} (h : ps.map Prod.snd = xss) {P : List Int → Prop} (hx : ∀ xs ∈ xss, P xs) : ∀ p ∈ ps, P p.2 := fun p hp => hx p.2 (by rw [← h]; exact List.mem_map.2 ⟨p, hp, rfl⟩)

/-- a draw of both -/
theorem pair_draw {K : Nat} (hK : 18446744073709551616 ≤ K) {C S : List Int} {w : World} (T : TabsR w C S) {R : Nat → Prop} {B : Nat} (hB : 5 ≤ B) (hBw : B ≤ w.heap.size) {h lim : Int} {p q : Option Addr} (sd : Side R B w h lim p q)
    {l : Sl} {ps : List (Sl × List Int)} {B1 N : Nat} (L : PartsL w l ps fun k => B1 ≤ k ∧ k < N) (hB1 : ∀ k, PQ p q k → k < B1) (hN : N ≤ w.heap.size) {s : Sl} {xss : List (List Int)} {Q : Nat → Prop} (hps : ps.map Prod.snd = xss) (hp : PartsW w s xss Q) (hQ : ∀ k, Q k → k < B) (hm : xss.length ≤ 1048576) (hl : xss.flatten.length ≤ 262144) (n : Int) :
    ∃ x y er zs w1 w2, spring_Spring_Draw K p n l w = some ((x, er, ()), w1) ∧ ref06_Spring_Draw K q n s w1.drew = some ((y, er, ()), w2) ∧
      Vw 5 w2 x (ints .u8 zs) ∧ Vw 5 w2 y (ints .u8 zs) ∧ zs.length ≤ 65536 ∧ (zs = [] ∨ ((zs.length : Nat) : Int) = n) ∧ Fresh w.heap.size x ∧ Fresh w.heap.size y ∧ (∀ k, x.blk = some k → y.blk ≠ some k) ∧
      Side (fun k => (R k ∨ w.heap.size ≤ k) ∧ x.blk ≠ some k) B w2 h lim p q ∧ Upd (PQ p q) w w1 ∧ Upd (PQ p q) w w2 := by
  subst hps
  have hlen : (ps.map Prod.snd).length = ps.length := List.length_map ..
  rcases sd with ⟨rfl, rfl⟩ | ⟨a, b, d, kv, rfl, rfl, s1, s2, hk, hd0, hd1, hl1, hBa, hBb⟩
  · have ud : Upd none_ w w.drew := (Upd.refl none_ w).drew
    obtain ⟨w2, r1, r2⟩ := refDraw_nil hK (w := w.drew) (n := n) (hp.upd0 ud) (fun k hk => by have := hQ k hk; show k < w.heap.size; omega) (by omega)
    exact ⟨nilS, nilS, 1, [], w, w2, draw_nil, r1, Vw.nil _ _, Vw.nil _ _, Nat.zero_le _, .inl rfl, (fun k hk => by cases hk), (fun k hk => by cases hk), (fun k hk => by cases hk), .inl ⟨rfl, rfl⟩, Upd.refl _ w, (ud.and0 r2).mono fun _ _ e => e.elim⟩
  have hab : a ≠ b := s1.ne s2 (by decide)
  have hla := s1.lt
  have hlb := s2.lt
  by_cases he : drawErr lim d n (ps.map Prod.snd).flatten.length = 0
  · obtain ⟨m, rfl, hm1, ht⟩ := drawErr_zero he
    have hne : d ≠ lim := by
      intro e
      unfold drawErr at he
      rw [if_neg (by omega), if_neg (by omega), if_pos e] at he
      cases he
    obtain ⟨x, w1, c1, c2, c3, c4, c5, c6⟩ := draw_ok hK T.to (g := a) (by omega) hk hd0 (by omega) s1 (fun e => by have := hB1 a PQ.l; omega) L (by omega) (n := m) he
    have ud : Upd (· = a) w w1.drew := c6.drew
    have s2' := (s2.other s1 (by decide) (fun e => hab e.symm) ud)
    have hz1 := c6.size
    obtain ⟨y, w2, d1, d2, d3, d4, d5⟩ := refDraw_ok hK (T.upd ud fun k hk e => by omega) (g := b) (by omega) hk hd0 (by omega) s2' (hp.upd ud fun k hk e => by have := hQ k hk; omega) (fun k hk => by have := hQ k hk; show k < w1.heap.size; omega) (n := m) he
    have d4 : Fresh w1.heap.size y := d4
    have d2 : SprAt (fun k => w1.heap.size ≤ k ∧ y.blk ≠ some k) 84 w2 b h lim (d + 1) _ _ := d2
    have s1' := (c2.upd0 (Upd.refl none_ w1).drew).other s2' (by decide) hab d5
    have hbw1 : b < w1.heap.size := by omega
    have x2 : Vw 5 w2 x (ints .u8 (outS C S h (kv.1, kv.2) m (ps.map Prod.snd).flatten)) := (c3.upd0 (Upd.refl none_ w1).drew).upd d5 fun k hk e => by have := c5 k hk; omega
    refine ⟨x, y, 0, _, w1, w2, c1, d1, x2, d3, by rw [outS_len hk]; exact hm1, .inr (by rw [outS_len hk]), c5, fun k hk => by have := d4 k hk; omega, fun k hk e => ?_, .inr ⟨a, b, d + 1, _, rfl, rfl, s1'.mono fun k hk => ⟨.inr hk.1, hk.2⟩, d2.mono fun k hk => ⟨.inr (by omega), fun e => ?_⟩, hk, by omega, by omega, hl1, hBa, hBb⟩, c6.mono fun k _ e => .inl ⟨_, rfl, e.symm⟩, (c6.drew.mono (T := PQ (some ⟨a, 0, none⟩) (some ⟨b, 0, none⟩)) fun k _ e => .inl ⟨_, rfl, e.symm⟩).trans' d5 fun k _ e => .inr ⟨_, rfl, e.symm⟩⟩
    · have h1 := c3.lt hk
      have h2 := d4 k e
      omega
    · have h1 := c3.lt e
      have h2 := hk.1
      omega
  · obtain ⟨w1, c1, c2⟩ := draw_err (K := K) hK s1 (L.parts (by omega)) (n := n) he
    have ud : Upd none_ w w1.drew := c2.drew
    have hz1 := c2.size
    obtain ⟨w2, d1, d2⟩ := refDraw_err (K := K) hK (s2.upd0 ud) (hp.upd0 ud) (fun k hk => by have := hQ k hk; show k < w1.heap.size; omega) (by omega) (n := n) he
    have q2 := ud.and0 d2
    refine ⟨nilS, nilS, _, [], w1, w2, c1, d1, Vw.nil _ _, Vw.nil _ _, Nat.zero_le _, .inl rfl, (fun k hk => by cases hk), (fun k hk => by cases hk), (fun k hk => by cases hk), .inr ⟨a, b, d, kv, rfl, rfl, (s1.upd0 q2).mono fun k hk => ⟨.inl hk, fun e => by cases e⟩, (s2.upd0 q2).mono fun k hk => ⟨.inl hk, fun e => by cases e⟩, hk, hd0, hd1, hl1, hBa, hBb⟩, c2.mono fun _ _ e => e.elim, q2.mono fun _ _ e => e.elim⟩

/-- both are fed -/
theorem pair_feed {K : Nat} (hK : 18446744073709551616 ≤ K) {C S : List Int} {w : World} (T : TabsR w C S) {R : Nat → Prop} {B : Nat} (hB : 5 ≤ B) (hBw : B ≤ w.heap.size) {h lim : Int} {p q : Option Addr} (sd : Side R B w h lim p q)
    {l : Sl} {ps : List (Sl × List Int)} {B1 N : Nat} (L : PartsL w l ps fun k => B1 ≤ k ∧ k < N) (hB1 : ∀ k, PQ p q k → k < B1) (hN : N ≤ w.heap.size) {s : Sl} {xss : List (List Int)} {Q : Nat → Prop} (hps : ps.map Prod.snd = xss) (hp : PartsW w s xss Q) (hQ : ∀ k, Q k → k < B) (hm : xss.length ≤ 1048575) (hl : xss.flatten.length ≤ 262144)
    {c e : Sl} {es : List Int} (pc : PartOk w (c, es)) (hc : ∀ r, c.a = some r → es ≠ [] → ¬ PQ p q r.block) (pe : PartOk w (e, es)) (hev : ∀ r, e.a = some r → es ≠ [] → r.block < B) :
    ∃ er w1 w2, spring_Spring_Feed K p c l w = some ((er, ()), w1) ∧ ref06_Spring_Feed K q e s w1.drew = some ((er, ()), w2) ∧
      Side (fun k => R k ∨ w.heap.size ≤ k) B w2 h lim p q ∧ Upd (PQ p q) w w1 ∧ Upd (PQ p q) w w2 := by
  subst hps
  have hlen : (ps.map Prod.snd).length = ps.length := List.length_map ..
  have hcl : c.len = es.length := by rw [pc.1.len, ints_length]
  have hel : e.len = es.length := by rw [pe.1.len, ints_length]
  rcases sd with ⟨rfl, rfl⟩ | ⟨a, b, d, kv, rfl, rfl, s1, s2, hk, hd0, hd1, hl1, hBa, hBb⟩
  · have ud : Upd none_ w w.drew := (Upd.refl none_ w).drew
    obtain ⟨w2, r1, r2⟩ := refFeed_nil (e := e) hK (w := w.drew) (hp.upd0 ud) (fun k hk => by have := hQ k hk; show k < w.heap.size; omega) (by omega)
    exact ⟨1, w, w2, feed_nil, r1, .inl ⟨rfl, rfl⟩, Upd.refl _ w, (ud.and0 r2).mono fun _ _ e => e.elim⟩
  have hab : a ≠ b := s1.ne s2 (by decide)
  have hla := s1.lt
  have hlb := s2.lt
  by_cases he : feedErr es.length (ps.map Prod.snd).flatten.length = 0
  · obtain ⟨w1, c1, c2, c3⟩ := feed_ok hK T.to (g := a) (by omega) s1 pc (fun r hr hn e => hc r hr hn (e ▸ PQ.l)) (fun e => by have := hB1 a PQ.l; omega) L (by omega) he
    have ud : Upd (· = a) w w1.drew := c3.drew
    have s2' := (s2.other s1 (by decide) (fun e => hab e.symm) ud)
    have hz1 := c3.size
    obtain ⟨w2, d1, d2, d3⟩ := refFeed_ok hK (T.upd ud fun k hk e => by omega) (g := b) (by omega) s2' (up6' pe ud fun r hr hn e => by have := hev r hr hn; omega) (hp.upd ud fun k hk e => by have := hQ k hk; omega) (fun k hk => by have := hQ k hk; show k < w1.heap.size; omega) he
    have d2 : SprAt (fun k => w1.heap.size ≤ k) 84 w2 b h lim 0 _ _ := d2
    have s1' := (c2.upd0 (Upd.refl none_ w1).drew).other s2' (by decide) hab d3
    refine ⟨0, w1, w2, c1, d1, .inr ⟨a, b, 0, _, rfl, rfl, s1'.mono fun k hk => .inr hk, d2.mono fun k hk => .inr (by omega), hk, by omega, by omega, hl1, hBa, hBb⟩, c3.mono fun k _ e => .inl ⟨_, rfl, e.symm⟩, (c3.drew.mono (T := PQ (some ⟨a, 0, none⟩) (some ⟨b, 0, none⟩)) fun k _ e => .inl ⟨_, rfl, e.symm⟩).trans' d3 fun k _ e => .inr ⟨_, rfl, e.symm⟩⟩
  · have c1 := feed_err (K := K) (g := a) hK (w := w) hcl (L.parts (by omega)) he
    have ud : Upd none_ w w.drew := (Upd.refl none_ w).drew
    obtain ⟨w2, d1, d2⟩ := refFeed_err (K := K) (g := b) hK (w := w.drew) hel (hp.upd0 ud) (fun k hk => by have := hQ k hk; show k < w.heap.size; omega) (by omega) he
    have q2 := ud.and0 d2
    refine ⟨_, w, w2, c1, d1, .inr ⟨a, b, d, kv, rfl, rfl, (s1.upd0 q2).mono fun k hk => .inl hk, (s2.upd0 q2).mono fun k hk => .inl hk, hk, hd0, hd1, hl1, hBa, hBb⟩, Upd.refl _ w, q2.mono fun _ _ e => e.elim⟩

/-- what is left of both -/
theorem pair_left {R : Nat → Prop} {B : Nat} {w : World} {h lim : Int} {p q : Option Addr} (sd : Side R B w h lim p q) : ∃ v w1 w2, spring_Spring_Left p w = some ((v, ()), w1) ∧ ref06_Spring_Left q w1 = some ((v, ()), w2) ∧ Upd none_ w w1 ∧ Upd none_ w w2 := by
  rcases sd with ⟨rfl, rfl⟩ | ⟨a, b, d, kv, rfl, rfl, s1, s2, hk, hd0, hd1, hl1, hBa, hBb⟩
  · exact ⟨0, w, w, left_nil, refLeft_nil, Upd.refl _ w, Upd.refl _ w⟩
  · have ud : Upd none_ w w.drew := (Upd.refl none_ w).drew
    exact ⟨lim - d, w.drew, w.drew.drew, left_ok s1 ⟨hd0, hd1, hl1⟩, refLeft_ok (s2.upd0 ud) ⟨hd0, hd1, hl1⟩, ud, ud.drew⟩

end Go.Sh

/- The statement SpringRepeats, whole. -/
set_option linter.unusedVariables false
namespace Go.Sh
open Go.Fw Go.Sha Go.RowKit Go.Proofs.Tryd

/-- three springs alike -/
structure Three (w : World) (ga gb gd : Nat) (h lim d : Int) (kv : List Int × List Int) : Prop where
  a : SprAt (fun _ => True) 56 w ga h lim d kv.1 kv.2
  b : SprAt (fun _ => True) 56 w gb h lim d kv.1 kv.2
  d : SprAt (fun _ => True) 56 w gd h lim d kv.1 kv.2
  ab : ga < gb
  bd : gb < gd

theorem Three.upd0 {w w' : World} {ga gb gd : Nat} {h lim d : Int} {kv : List Int × List Int} (t : Three w ga gb gd h lim d kv) (u : Upd none_ w w') : Three w' ga gb gd h lim d kv :=
  ⟨t.a.upd0 u, t.b.upd0 u, t.d.upd0 u, t.ab, t.bd⟩

theorem op_cells {o : OpD} : ∀ v ∈ (opC o.kind o.at_ o.n o.ent o.extra).toList, v.oneCell' = true := by
  intro v hv
  have hv : v ∈ [Value.int .i64 o.kind, .int .i64 o.at_, .int .i64 o.n, slV o.ent, slV o.extra] := hv
  simp only [List.mem_cons, List.not_mem_nil, or_false] at hv
  rcases hv with rfl | rfl | rfl | rfl | rfl <;> rfl

theorem op_lds {w : World} {g : Nat} {o : OpD} (b : Bk 34 w g (opC o.kind o.at_ o.n o.ent o.extra).toList) :
    ldI .i64 ((⟨g, 0, none⟩ : Addr).add 0) w = some o.kind ∧ ldI .i64 ((⟨g, 0, none⟩ : Addr).add 1) w = some o.at_ ∧ ldI .i64 ((⟨g, 0, none⟩ : Addr).add 2) w = some o.n ∧ ldS ((⟨g, 0, none⟩ : Addr).add 3) w = some o.ent ∧ ldS ((⟨g, 0, none⟩ : Addr).add 4) w = some o.extra := by
  rw [add_lit, add_lit, add_lit, add_lit, add_lit]
  exact ⟨b.ldI rfl, b.ldI rfl, b.ldI rfl, b.ldS rfl, b.ldS rfl⟩

theorem repeats_loop {K : Nat} (hK : 18446744073709551616 ≤ K) {C S : List Int} {h : Int} (hk : known h = true) {B ga gb gd : Nat} (hg : 5 ≤ B) (hBg : B ≤ ga) {sc : Sl} {ops : List OpD} :
    ∀ (r i f : Nat) (w : World) (left d : Int) (kv : List Int × List Int), i + r = 30 → r < f → 0 ≤ left → left ≤ 8192 → 0 ≤ d → d ≤ i → Tabs w C S → Script w B sc ops → Three w ga gb gd h 16777216 d kv →
      ∃ w', law06_SpringRepeats_l2 K f sc (some ⟨ga, 0, none⟩) (some ⟨gb, 0, none⟩) (some ⟨gd, 0, none⟩) left (i : Int) w = some (.norm (), w') ∧ Upd (fun k => k = ga ∨ k = gb ∨ k = gd) w w' := by
  intro r
  induction r with
  | zero =>
    intro i f w left d kv hi hf hl0 hl1 hd0 hd1 T hs t
    obtain ⟨f, rfl⟩ : ∃ q, f = q + 1 := ⟨f - 1, by omega⟩
    have eu : law06_SpringRepeats_l2 K (f + 1) = law06_SpringRepeats_l2_b K (law06_SpringRepeats_l2 K f) := rfl
    refine ⟨w, ?_, Upd.refl _ w⟩
    rw [eu]
    have hs3 : law06_SpringRepeats_s3 K sc (i : Int) w = some ((false, ()), w) := by
      unfold law06_SpringRepeats_s3
      split
      · rw [decide_eq_false (show ¬ (i : Int) < 30 by omega)]
      · rfl
    unfold law06_SpringRepeats_l2_b
    rw [hs3, bnd_ok, if_neg (by decide)]
  | succ r ih =>
    intro i f w left d kv hi hf hl0 hl1 hd0 hd1 T hs t
    obtain ⟨f, rfl⟩ : ∃ q, f = q + 1 := ⟨f - 1, by omega⟩
    have eu : law06_SpringRepeats_l2 K (f + 1) = law06_SpringRepeats_l2_b K (law06_SpringRepeats_l2 K f) := rfl
    by_cases c : i < ops.length
    case neg =>
      refine ⟨w, ?_, Upd.refl _ w⟩
      have hs3 : law06_SpringRepeats_s3 K sc (i : Int) w = some ((false, ()), w) := by
        unfold law06_SpringRepeats_s3
        rw [if_neg (fun e => by have := of_decide_eq_true e; rw [hs.len] at this; omega)]
      rw [eu]
      unfold law06_SpringRepeats_l2_b
      rw [hs3, bnd_ok, if_neg (by decide)]
    have hs3 : law06_SpringRepeats_s3 K sc (i : Int) w = some ((true, ()), w) := by
      unfold law06_SpringRepeats_s3
      rw [if_pos (decide_eq_true (by rw [hs.len]; omega)), decide_eq_true (show (i : Int) < 30 by omega)]
    rcases hs.rd with e | ⟨p, h1, h2, h3⟩
    · rw [e] at c; simp at c
    obtain ⟨o, ho⟩ : ∃ o, ops[i] = o := ⟨_, rfl⟩
    obtain ⟨r1, ok⟩ := h3 i ops[i] (List.getElem?_eq_getElem c)
    rw [ho] at r1 ok
    have hld := ldA_at r1 (by simp [opC])
    have hld : ldA 5 (p.add (i * 5)) w = some (opC o.kind o.at_ o.n o.ent o.extra) := hld
    obtain ⟨w1, n1, b1, u1, z1⟩ := newB_ok z34 34 w
    obtain ⟨w2, s2, b2, u2, _⟩ := lay b1 (vs := (opC o.kind o.at_ o.n o.ent o.extra).toList) rfl op_cells
    have q2 : Upd none_ w w2 := u1.trans' u2 fun k hk e => by omega
    have hz2 := q2.size
    have hla := t.a.lt
    have hlb := t.b.lt
    have hld' := t.d.lt
    have tab := t.ab
    have tbd := t.bd
    have T2 := T.upd0 q2
    have hs2 := hs.upd q2 fun _ _ => id
    have ok2 := ok.upd q2 fun _ _ => id
    have t2 := t.upd0 q2
    have X : ∀ k, k < B → ¬ (k = ga ∨ k = gb ∨ k = gd) := fun k hk e => by omega
    have c0 : (0 : Int) ≤ (i : Int) ∧ (i : Int) < ((sc.len : Nat) : Int) := by rw [hs.len]; omega
    have e1 : IntKind.i64.wrap ((i : Int) + 1) = ((i + 1 : Nat) : Int) := by rw [w64 (by omega) (by omega)]; rfl
    have hT : ∀ {w' : World}, Upd (fun k => k = ga ∨ k = gb ∨ k = gd) w2 w' → Tabs w' C S := fun u => T2.upd u fun k hk e => by omega
    obtain ⟨l0, _, l2, l3, l4⟩ := op_lds b2
    by_cases hkd : o.kind = 2
    · -- a feed
      obtain ⟨w3, a1, a2, a3⟩ := op_feed hK T2 (g := ga) (by omega) t2.a hBg ok2
      have U3 : Upd (fun k => k = ga ∨ k = gb ∨ k = gd) w2 w3 := a3.mono fun k _ e => .inl e
      have b3 := b2.upd a3 (by omega)
      obtain ⟨_, _, _, m3, m4⟩ := op_lds b3
      obtain ⟨w4, c1, c2, c3⟩ := op_feed hK (hT U3) (g := gb) (by omega) (t2.b.other t2.a (by decide) (by omega) a3) (show B ≤ gb by omega) (ok2.upd U3 X)
      have U4 : Upd (fun k => k = ga ∨ k = gb ∨ k = gd) w2 w4 := U3.trans' c3 fun k _ e => .inr (.inl e)
      have b4 := b3.upd c3 (by omega)
      obtain ⟨_, _, _, n3, n4⟩ := op_lds b4
      have tb3 := t2.b.other t2.a (by decide) (by omega) a3
      obtain ⟨w5, d1, d2, d3⟩ := op_feed hK (hT U4) (g := gd) (by omega) ((t2.d.other t2.a (by decide) (by omega) a3).other tb3 (by decide) (by omega) c3) (show B ≤ gd by omega) (ok2.upd U4 X)
      have U5 : Upd (fun k => k = ga ∨ k = gb ∨ k = gd) w2 w5 := U4.trans' d3 fun k _ e => .inr (.inr e)
      have ta5 := (a2.other tb3 (by decide) (by omega) c3).other ((t2.d.other t2.a (by decide) (by omega) a3).other tb3 (by decide) (by omega) c3) (by decide) (by omega) d3
      have tb5 := c2.other ((t2.d.other t2.a (by decide) (by omega) a3).other tb3 (by decide) (by omega) c3) (by decide) (by omega) d3
      have hfd : 0 ≤ fedD d o.es o.xss.flatten ∧ fedD d o.es o.xss.flatten ≤ ((i + 1 : Nat) : Int) := by
        unfold fedD; split <;> constructor <;> omega
      obtain ⟨w6, g1, g2⟩ := ih (i + 1) f w5 left (fedD d o.es o.xss.flatten) (fedS C S h kv o.es o.xss.flatten) (by omega) (by omega) hl0 hl1 hfd.1 hfd.2 (hT U5) (hs2.upd U5 X) ⟨ta5, tb5, d2, tab, tbd⟩
      refine ⟨w6, ?_, ((q2.mono (T := fun k => k = ga ∨ k = gb ∨ k = gd) fun _ _ e => e.elim).trans' U5 fun _ _ e => e).trans' g2 fun _ _ e => e⟩
      have hs4 : law06_SpringRepeats_s4 K (some ⟨gb, 0, none⟩) (some ⟨gd, 0, none⟩) ⟨w.heap.size, 0, none⟩ (feedErr o.es.length o.xss.flatten.length) w3 = some ((false, ()), w5) := by
        unfold law06_SpringRepeats_s4
        rw [m3, Option.bind_some, m4, Option.bind_some, c1, bnd_ok]
        dsimp only
        rw [if_neg (by simp), n3, Option.bind_some, n4, Option.bind_some, d1, bnd_ok]
        simp
      rw [eu]
      unfold law06_SpringRepeats_l2_b
      rw [hs3, bnd_ok]
      dsimp only
      rw [if_pos rfl, h1, Option.bind_some, if_pos c0, Int.toNat_natCast, hld, Option.bind_some, n1, bnd_ok, if_pos (show (opC o.kind o.at_ o.n o.ent o.extra).size = 5 from rfl), s2, Option.bind_some, l0, Option.bind_some, if_pos (by rw [hkd]; rfl), l3, Option.bind_some, l4, Option.bind_some, a1, bnd_ok]
      dsimp only
      rw [hs4, bnd_ok, if_neg (by decide), e1, g1]
    · -- a draw
      have hb := lbytes_ok hK (s := o.extra) ok2.parts (by have := ok.tot; omega)
      have hs5 : law06_SpringRepeats_s5 K left ⟨w.heap.size, 0, none⟩ w2 = some ((decide (o.n < 0 ∨ o.n > left ∨ o.xss.flatten.length > 65536), ()), w2) := by
        unfold law06_SpringRepeats_s5
        rw [l2, Option.bind_some]
        by_cases k1 : o.n < 0
        · rw [if_pos (decide_eq_true k1), decide_eq_true (show o.n < 0 ∨ _ from .inl k1)]
        · rw [if_neg (fun e => k1 (of_decide_eq_true e)), Option.bind_some]
          by_cases k2 : o.n > left
          · rw [if_pos (decide_eq_true k2), decide_eq_true (show o.n < 0 ∨ o.n > left ∨ _ from .inr (.inl k2))]
          · rw [if_neg (fun e => k2 (of_decide_eq_true e)), l4, Option.bind_some, hb, Option.bind_some]
            congr 4
            exact propext ⟨fun h => .inr (.inr (by omega)), fun h => by omega⟩
      by_cases hno : o.n < 0 ∨ o.n > left ∨ o.xss.flatten.length > 65536
      · rw [decide_eq_true hno] at hs5
        obtain ⟨w6, g1, g2⟩ := ih (i + 1) f w2 left d kv (by omega) (by omega) hl0 hl1 hd0 (by omega) T2 hs2 t2
        refine ⟨w6, ?_, (q2.mono (T := fun k => k = ga ∨ k = gb ∨ k = gd) fun _ _ e => e.elim).trans' g2 fun _ _ e => e⟩
        rw [eu]
        unfold law06_SpringRepeats_l2_b
        rw [hs3, bnd_ok]
        dsimp only
        rw [if_pos rfl, h1, Option.bind_some, if_pos c0, Int.toNat_natCast, hld, Option.bind_some, n1, bnd_ok, if_pos (show (opC o.kind o.at_ o.n o.ent o.extra).size = 5 from rfl), s2, Option.bind_some, l0, Option.bind_some, if_neg (by simpa using hkd), hs5, bnd_ok, if_pos rfl, e1, g1]
      · rw [decide_eq_false hno] at hs5
        obtain ⟨n, hn⟩ : ∃ n : Nat, o.n = (n : Int) := ⟨o.n.toNat, by omega⟩
        have hde : drawErr 16777216 d (n : Int) o.xss.flatten.length = 0 := by
          unfold drawErr; rw [if_neg (by omega), if_neg (by omega), if_neg (by omega)]
        obtain ⟨x, w3, a1, a2, ax, al, af, a3⟩ := op_draw hK T2 (g := ga) (by omega) hk hd0 (by omega) t2.a hBg ok2 hde
        have U3 : Upd (fun k => k = ga ∨ k = gb ∨ k = gd) w2 w3 := a3.mono fun k _ e => .inl e
        have b3 := b2.upd a3 (by omega)
        obtain ⟨_, _, m2, _, m4⟩ := op_lds b3
        have tb3 := t2.b.other t2.a (by decide) (by omega) a3
        have td3 := t2.d.other t2.a (by decide) (by omega) a3
        obtain ⟨y, w4, c1, c2, cx, cl, cf, c3⟩ := op_draw hK (hT U3) (g := gb) (by omega) hk hd0 (by omega) tb3 (show B ≤ gb by omega) (ok2.upd U3 X) hde
        have U4 : Upd (fun k => k = ga ∨ k = gb ∨ k = gd) w2 w4 := U3.trans' c3 fun k _ e => .inr (.inl e)
        have b4 := b3.upd c3 (by omega)
        obtain ⟨_, _, n2, _, n4⟩ := op_lds b4
        have td4 := td3.other tb3 (by decide) (by omega) c3
        obtain ⟨z, w5, d1, d2, dx, dl, df, d3⟩ := op_draw hK (hT U4) (g := gd) (by omega) hk hd0 (by omega) td4 (show B ≤ gd by omega) (ok2.upd U4 X) hde
        have U5 : Upd (fun k => k = ga ∨ k = gb ∨ k = gd) w2 w5 := U4.trans' d3 fun k _ e => .inr (.inr e)
        have b5 := b4.upd d3 (by omega)
        obtain ⟨_, _, p2, _, _⟩ := op_lds b5
        have ta5 := (a2.any.other tb3 (by decide) (by omega) c3).other td4 (by decide) (by omega) d3
        have tb5 := c2.any.other td4 (by decide) (by omega) d3
        have hz3 := U3.size
        have x5 := (ax.upd c3 fun k hk e => by have := af k hk; omega).upd d3 fun k hk e => by have := af k hk; omega
        have y5 := cx.upd d3 fun k hk e => by have := cf k hk; omega
        obtain ⟨w6, r1, v6⟩ := SameBytes_ok hK x5.rd y5.rd (by rw [outS_len hk]; omega)
        obtain ⟨w7, r2, v7⟩ := SameBytes_ok hK (x5.upd0 v6).rd (dx.upd0 v6).rd (by rw [outS_len hk]; omega)
        rw [decide_eq_true rfl] at r1 r2
        have v67 := v6.and0 v7
        have U7 : Upd (fun k => k = ga ∨ k = gb ∨ k = gd) w2 w7 := U5.trans' (v67.mono (T := fun k => k = ga ∨ k = gb ∨ k = gd) fun _ _ e => e.elim) fun _ _ e => e
        have e2 : IntKind.i64.wrap (left - o.n) = left - o.n := w64 (by omega) (by omega)
        obtain ⟨w8, g1, g2⟩ := ih (i + 1) f w7 (left - o.n) (d + 1) (nxtS C S h kv n o.xss.flatten) (by omega) (by omega) (by omega) (by omega) (by omega) (by omega) (hT U7) (hs2.upd U7 X) ⟨ta5.upd0 v67, tb5.upd0 v67, d2.any.upd0 v67, tab, tbd⟩
        refine ⟨w8, ?_, ((q2.mono (T := fun k => k = ga ∨ k = gb ∨ k = gd) fun _ _ e => e.elim).trans' U7 fun _ _ e => e).trans' g2 fun _ _ e => e⟩
        rw [hn] at l2 m2 n2 p2
        rw [eu]
        unfold law06_SpringRepeats_l2_b law06_num
        rw [hs3, bnd_ok]
        dsimp only
        rw [if_pos rfl, h1, Option.bind_some, if_pos c0, Int.toNat_natCast, hld, Option.bind_some, n1, bnd_ok, if_pos (show (opC o.kind o.at_ o.n o.ent o.extra).size = 5 from rfl), s2, Option.bind_some, l0, Option.bind_some, if_neg (by simpa using hkd), hs5, bnd_ok, if_neg (by decide), l2, Option.bind_some, Option.bind_some, l4, Option.bind_some, a1, bnd_ok, m2, Option.bind_some, m4, Option.bind_some, c1, bnd_ok, n2, Option.bind_some, n4, Option.bind_some, d1, bnd_ok]
        dsimp only
        rw [Option.bind_some, if_neg (show ¬ ((0 : Int) != 0) = true by decide), Option.bind_some, if_neg (show ¬ ((0 : Int) != 0) = true by decide), Option.bind_some, if_neg (show ¬ ((0 : Int) != 0) = true by decide), p2, Option.bind_some, al, if_neg (by simp), r1, bnd_ok, if_neg (by decide), r2, bnd_ok, if_neg (by decide), ← hn, e2, e1, g1]

end Go.Sh

/- The statement SpringPlays: one step. -/
set_option linter.unusedVariables false
namespace Go.Sh
open Go.Fw Go.Sha Go.RowKit Go.Proofs.Tryd

structure St where
  p : Bool → Option Addr
  q : Bool → Option Addr
  out : Sl
  was : Sl
  left : Int
  os : List Sl
  ws : List Sl

def St.cells (st : St) : List Value := [.pointer (st.p false), .pointer (st.p true), .pointer (st.q false), .pointer (st.q true), slV st.out, slV st.was, .int .i64 st.left]

def freeOf (os : List Sl) (k : Nat) : Prop := ∀ o ∈ os, o.blk ≠ some k

structure Two (w : World) (B : Nat) (h lim : Int) (g : Nat) (st : St) : Prop where
  b : Bk 47 w g st.cells
  gB : B ≤ g
  side : ∀ i, Side (freeOf st.os) B w h lim (st.p i) (st.q i)
  sp : ∀ k, PQ (st.p false) (st.q false) k → ¬ PQ (st.p true) (st.q true) k
  o : Own 22 w st.out (st.os.map slV)
  v : Own 22 w st.was (st.ws.map slV)
  ov : ∀ k, st.out.blk = some k → st.was.blk ≠ some k
  ob : ∀ k, st.out.blk = some k → B ≤ k
  vb : ∀ k, st.was.blk = some k → B ≤ k
  ol : ∀ o ∈ st.os, ∀ k, o.blk = some k → k < w.heap.size
  len : st.ws.length = st.os.length
  l0 : 0 ≤ st.left
  l1 : st.left ≤ 8192

structure Outs (w : World) (B : Nat) (os ws : List Sl) : Prop where
  ex : ∀ (i : Nat) (o t : Sl), os[i]? = some o → ws[i]? = some t → ∃ zs : List Int, zs.length ≤ 65536 ∧ Vw 5 w o (ints .u8 zs) ∧ Vw 5 w t (ints .u8 zs)
  pw : os.Pairwise fun a b => ∀ k, a.blk = some k → b.blk ≠ some k
  ow : ∀ o ∈ os, ∀ t ∈ ws, ∀ k, o.blk = some k → t.blk ≠ some k
  ob : ∀ o ∈ os, ∀ k, o.blk = some k → B ≤ k
  tl : ∀ t ∈ ws, ∀ k, t.blk = some k → k < w.heap.size

theorem Two.upd0 {w w' : World} {B : Nat} {h lim : Int} {g : Nat} {st : St} (t : Two w B h lim g st) (u : Upd none_ w w') : Two w' B h lim g st :=
  ⟨t.b.upd0 u, t.gB, fun i => (t.side i).upd0 u, t.sp, t.o.upd0 u, t.v.upd0 u, t.ov, t.ob, t.vb, fun o ho k hk => Nat.lt_of_lt_of_le (t.ol o ho k hk) u.size, t.len, t.l0, t.l1⟩

theorem Two.sp' {w : World} {B : Nat} {h lim : Int} {g : Nat} {st : St} (t : Two w B h lim g st) (i : Bool) : ∀ k, PQ (st.p i) (st.q i) k → ¬ PQ (st.p (!i)) (st.q (!i)) k := by
  cases i
  · exact t.sp
  · exact fun k h1 h2 => t.sp k h2 h1
theorem Two.gne {w : World} {B : Nat} {h lim : Int} {g : Nat} {st : St} (t : Two w B h lim g st) (i : Bool) : ¬ PQ (st.p i) (st.q i) g := (t.side i).ne t.b (by decide) (by decide)
theorem Two.one {w : World} {st : St} {xs : List Sl} {s : Sl} (o : Own 22 w s (xs.map slV)) : ∀ v ∈ xs.map slV, v.oneCell' = true := fun v hv => by obtain ⟨x, _, rfl⟩ := List.mem_map.1 hv; rfl

theorem Outs.updT {w w' : World} {B : Nat} {os ws : List Sl} {X : Nat → Prop} (s : Outs w B os ws) (u : Upd X w w') (hX : NoEB w X) : Outs w' B os ws :=
  ⟨fun i o t ho ht => by
    obtain ⟨zs, h1, h2, h3⟩ := s.ex i o t ho ht
    exact ⟨zs, h1, vw_updT h2 u hX, vw_updT h3 u hX⟩, s.pw, s.ow, s.ob, fun t ht k hk => Nat.lt_of_lt_of_le (s.tl t ht k hk) u.size⟩

def bI (i : Bool) : Int := if i then 1 else 0
theorem bI_ok (i : Bool) : (0 : Int) ≤ bI i ∧ bI i < ((2 : Nat) : Int) := by cases i <;> decide
theorem bI_not (i : Bool) : IntKind.i64.wrap (1 - bI i) = bI (!i) := by cases i <;> rfl

theorem idx_ok {K : Nat} (v : Int) (w : World) : ∃ i : Bool, law06_two_plays_s0 K (Int.tmod v 2) (decide (Int.tmod v 2 < 0)) w = some ((bI i, ()), w) := by
  have h1 := Int.tmod_lt_of_pos v (show (0 : Int) < 2 by decide)
  have h2 := Int.lt_tmod_of_pos v (show (0 : Int) < 2 by decide)
  unfold law06_two_plays_s0
  by_cases h : Int.tmod v 2 < 0
  · refine ⟨true, ?_⟩
    have e : Int.tmod v 2 = -1 := by omega
    rw [e]; rfl
  · rw [if_neg (fun e => h (of_decide_eq_true e))]
    by_cases h0 : Int.tmod v 2 = 0
    · exact ⟨false, by rw [h0]; rfl⟩
    · exact ⟨true, by rw [show Int.tmod v 2 = 1 by omega]; rfl⟩

theorem ldp_ok {w : World} {g : Nat} {st : St} (b : Bk 47 w g st.cells) (i : Bool) : ldP (((⟨g, 0, none⟩ : Addr).add 0).add ((Int.toNat (bI i)) * 1)) w = some (st.p i) := by
  rw [add_lit, add_lit]; cases i
  · exact b.ldP (i := 0) rfl
  · exact b.ldP (i := 1) rfl
theorem ldq_ok {w : World} {g : Nat} {st : St} (b : Bk 47 w g st.cells) (i : Bool) : ldP (((⟨g, 0, none⟩ : Addr).add 2).add ((Int.toNat (bI i)) * 1)) w = some (st.q i) := by
  rw [add_lit, add_lit]; cases i
  · exact b.ldP (i := 2) rfl
  · exact b.ldP (i := 3) rfl
theorem stp_ok {w : World} {g : Nat} {st : St} (b : Bk 47 w g st.cells) (i : Bool) (x : Option Addr) : ∃ w', stC (((⟨g, 0, none⟩ : Addr).add 0).add ((Int.toNat (bI i)) * 1)) (.pointer x) w = some w' ∧ Bk 47 w' g ({ st with p := fun j => if j = i then x else st.p j } : St).cells ∧ Upd (· = g) w w' := by
  rw [add_lit, add_lit]; cases i
  · exact b.stC (i := 0) (by simp [St.cells]) (.pointer x)
  · exact b.stC (i := 1) (by simp [St.cells]) (.pointer x)
theorem stq_ok {w : World} {g : Nat} {st : St} (b : Bk 47 w g st.cells) (i : Bool) (x : Option Addr) : ∃ w', stC (((⟨g, 0, none⟩ : Addr).add 2).add ((Int.toNat (bI i)) * 1)) (.pointer x) w = some w' ∧ Bk 47 w' g ({ st with q := fun j => if j = i then x else st.q j } : St).cells ∧ Upd (· = g) w w' := by
  rw [add_lit, add_lit]; cases i
  · exact b.stC (i := 2) (by simp [St.cells]) (.pointer x)
  · exact b.stC (i := 3) (by simp [St.cells]) (.pointer x)
theorem ldo_ok {w : World} {g : Nat} {st : St} (b : Bk 47 w g st.cells) : ldS ((⟨g, 0, none⟩ : Addr).add 4) w = some st.out := by rw [add_lit]; exact b.ldS (i := 4) rfl
theorem ldw_ok {w : World} {g : Nat} {st : St} (b : Bk 47 w g st.cells) : ldS ((⟨g, 0, none⟩ : Addr).add 5) w = some st.was := by rw [add_lit]; exact b.ldS (i := 5) rfl
theorem ldl_ok {w : World} {g : Nat} {st : St} (b : Bk 47 w g st.cells) : ldI .i64 ((⟨g, 0, none⟩ : Addr).add 6) w = some st.left := by rw [add_lit]; exact b.ldI (i := 6) rfl
theorem stl_ok {w : World} {g : Nat} {st : St} (b : Bk 47 w g st.cells) (x : Int) : ∃ w', stC ((⟨g, 0, none⟩ : Addr).add 6) (.int .i64 x) w = some w' ∧ Bk 47 w' g ({ st with left := x } : St).cells ∧ Upd (· = g) w w' := by
  rw [add_lit]; exact b.stC (i := 6) (by simp [St.cells]) (.int .i64 x)
theorem sto_ok {w : World} {g : Nat} {st : St} (b : Bk 47 w g st.cells) (x : Sl) : ∃ w', stC ((⟨g, 0, none⟩ : Addr).add 4) (.slice x.a x.len x.cap) w = some w' ∧ Bk 47 w' g ({ st with out := x } : St).cells ∧ Upd (· = g) w w' := by
  rw [add_lit]; exact b.stC (i := 4) (by simp [St.cells]) (.slice x.a x.len x.cap)
theorem stw_ok {w : World} {g : Nat} {st : St} (b : Bk 47 w g st.cells) (x : Sl) : ∃ w', stC ((⟨g, 0, none⟩ : Addr).add 5) (.slice x.a x.len x.cap) w = some w' ∧ Bk 47 w' g ({ st with was := x } : St).cells ∧ Upd (· = g) w w' := by
  rw [add_lit]; exact b.stC (i := 5) (by simp [St.cells]) (.slice x.a x.len x.cap)

/-- what was drawn is kept in mind -/
theorem draw_tail {w : World} {g : Nat} {st : St} (b : Bk 47 w g st.cells) (ho : Own 22 w st.out (st.os.map slV)) (hv : Own 22 w st.was (st.ws.map slV)) (hov : ∀ k, st.out.blk = some k → st.was.blk ≠ some k) (hl : st.ws.length = st.os.length) (hn : st.os.length ≤ 1000) (x y : Sl) {lf : Int} (hlf : IntKind.i64.wrap (st.left - ((y.len : Nat) : Int)) = lf) :
    ∃ w' ox oy, ((ldI .i64 ((⟨g, 0, none⟩ : Addr).add 6) w).bind fun v_39 =>
  (some (⟨g, 0, none⟩ : Addr)).bind fun p_40 =>
  (stC (p_40.add 6) (.int .i64 (IntKind.i64.wrap (v_39 - ((y.len : Nat) : Int)))) w).bind fun w_41 =>
  (some (⟨g, 0, none⟩ : Addr)).bind fun p_42 =>
  (ldS (p_42.add 4) w_41).bind fun v_43 =>
  bnd (bldS prog 32 1 #[(0, (.slice x.a x.len x.cap))] w_41) fun s_44 w_45 =>
  bnd (apd prog 32 32 (.slice v_43.a v_43.len v_43.cap) (.slice s_44.a s_44.len s_44.cap) w_45) fun s_46 w_47 =>
  (some (⟨g, 0, none⟩ : Addr)).bind fun p_48 =>
  (stC (p_48.add 4) (.slice s_46.a s_46.len s_46.cap) w_47).bind fun w_49 =>
  (some (⟨g, 0, none⟩ : Addr)).bind fun p_50 =>
  (ldS (p_50.add 5) w_49).bind fun v_51 =>
  bnd (bldS prog 32 1 #[(0, (.slice y.a y.len y.cap))] w_49) fun s_52 w_53 =>
  bnd (apd prog 32 32 (.slice v_51.a v_51.len v_51.cap) (.slice s_52.a s_52.len s_52.cap) w_53) fun s_54 w_55 =>
  (some (⟨g, 0, none⟩ : Addr)).bind fun p_56 =>
  (stC (p_56.add 5) (.slice s_54.a s_54.len s_54.cap) w_55).bind fun w_57 =>
  some (((true, ()), w_57) : (Bool × Unit) × World)) = some ((true, ()), w') ∧
      Bk 47 w' g (St.cells { st with out := ox, was := oy, left := lf }) ∧ Own 22 w' ox ((st.os ++ [x]).map slV) ∧ Own 22 w' oy ((st.ws ++ [y]).map slV) ∧ (∀ k, ox.blk = some k → oy.blk ≠ some k) ∧
      (∀ k, ox.blk = some k → st.out.blk = some k ∨ w.heap.size ≤ k) ∧ (∀ k, oy.blk = some k → st.was.blk = some k ∨ w.heap.size ≤ k) ∧ Upd (fun k => k = g ∨ st.out.blk = some k ∨ st.was.blk = some k) w w' := by
  subst hlf
  have hgo : ∀ {w' : World} {s : Sl} {xs : List Value} {cs : List Value}, Bk 47 w' g cs → Own 22 w' s xs → ∀ k, s.blk = some k → k ≠ g := fun b' o' k hk e => by
    rcases o'.2 with ⟨a1, _⟩ | ⟨r, cur, a1, a2, _⟩
    · simp [Sl.blk, a1] at hk
    · have : r = k := by simpa [Sl.blk, a1] using hk
      subst this; subst e
      unfold Bk at b'
      rw [b'] at a2
      simp only [Option.some.injEq, Obj.cells.injEq] at a2
      exact absurd a2.2.1 (by decide)
  obtain ⟨w1, a1, b1, u1⟩ := stl_ok b (IntKind.i64.wrap (st.left - ((y.len : Nat) : Int)))
  have o1 := ho.upd u1 (hgo b ho)
  have v1 := hv.upd u1 (hgo b hv)
  obtain ⟨sx, w2, ox, w3, c1, c2, o3, u3, k3⟩ := push_ok x o1 (by simp; omega)
  have hz1 := u1.size
  have hz3 := u3.size
  have hog := hgo b1 o1
  have b3 := b1.upd u3 fun e => hog g e rfl
  have v3 := v1.upd u3 fun k hk e => hov k e hk
  have o3 : Own 22 w3 ox ((st.os ++ [x]).map slV) := by rw [List.map_append]; exact o3
  obtain ⟨w4, d1, b4, u4⟩ := sto_ok b3 ox
  have o4 := o3.upd u4 (hgo b3 o3)
  have v4 := v3.upd u4 (hgo b3 v3)
  have hz4 := u4.size
  obtain ⟨sy, w5, oy, w6, e1, e2, o6, u6, k6⟩ := push_ok y v4 (by simp; omega)
  have o6 : Own 22 w6 oy ((st.ws ++ [y]).map slV) := by rw [List.map_append]; exact o6
  have hvg := hgo b4 v4
  have b6 := b4.upd u6 fun e => hvg g e rfl
  have hoxl : ∀ k, ox.blk = some k → k < w4.heap.size := fun k hk => o4.lt hk
  have hvl : ∀ k, st.was.blk = some k → k < w.heap.size := fun k hk => hv.lt hk
  have hoy : ∀ k, ox.blk = some k → st.was.blk ≠ some k := fun k hk e => by
    rcases k3 k hk with h | h
    · exact hov k h e
    · have := hvl k e; omega
  have x6 := o4.upd u6 fun k hk e => hoy k hk e
  obtain ⟨w7, f1, b7, u7⟩ := stw_ok b6 oy
  refine ⟨w7, ox, oy, ?_, b7, x6.upd u7 (hgo b6 x6), o6.upd u7 (hgo b6 o6), fun k hk e => ?_, fun k hk => (k3 k hk).imp id fun h => by omega, fun k hk => (k6 k hk).imp id fun h => by omega, ?_⟩
  · rw [ldl_ok b, Option.bind_some, Option.bind_some, a1, Option.bind_some, Option.bind_some, ldo_ok b1, Option.bind_some, c1, bnd_ok]
    dsimp only
    rw [c2, bnd_ok, Option.bind_some, d1, Option.bind_some, Option.bind_some, ldw_ok b4, Option.bind_some, e1, bnd_ok]
    dsimp only
    rw [e2, bnd_ok, Option.bind_some, f1, Option.bind_some]
  · rcases k6 k e with h | h
    · exact hoy k hk h
    · have := hoxl k hk; omega
  · have t1 : Upd (fun k => k = g ∨ st.out.blk = some k ∨ st.was.blk = some k) w w1 := u1.mono fun k _ e => .inl e
    have t3 := t1.trans' u3 fun k _ e => .inr (.inl e)
    have t4 := t3.trans' u4 fun k _ e => .inl e
    have t6 := t4.trans' u6 fun k _ e => .inr (.inr e)
    exact t6.trans' u7 fun k _ e => .inl e

theorem OpOk.partsL {w : World} {B : Nat} {o : OpD} (ok : OpOk w B o) {ps : List (Sl × List Int)} (h : ps.map Prod.snd = o.xss) : (∀ p ∈ ps, ∀ x ∈ p.2, InK .u8 x) ∧ ∀ p ∈ ps, p.2.length ≤ 140737488351232 :=
  ⟨snd_in h (P := fun xs => ∀ x ∈ xs, InK .u8 x) ok.parts.inn, snd_in h (P := fun xs => xs.length ≤ 140737488351232) ok.parts.lens⟩

/-- what a step leaves behind -/
structure Stepped (w w' : World) (B : Nat) (h lim : Int) (g : Nat) (st st' : St) : Prop where
  t : Two w' B h lim g st'
  outs : Outs w B st.os st.ws → Outs w' B st'.os st'.ws
  n : st'.os.length ≤ st.os.length + 1
  u : Upd (fun k => B ≤ k) w w'

/-- nothing but the two of one side is changed -/
theorem stepped_of {w w' : World} {B : Nat} {h lim : Int} {g : Nat} {st : St} (t : Two w B h lim g st) {i : Bool} (u : Upd (PQ (st.p i) (st.q i)) w w') (sd : Side (freeOf st.os) B w' h lim (st.p i) (st.q i)) : Stepped w w' B h lim g st st := by
  have nb := (t.side i).noEB
  have hlt : ∀ k, PQ (st.p i) (st.q i) k → B ≤ k ∧ k < w.heap.size := fun k hk => (t.side i).lt hk
  have hrow : ∀ {s : Sl} {xs : List Value}, Own 22 w s xs → Own 22 w' s xs := fun o => o.upd u fun k hk e => by
    rcases o.2 with ⟨a1, _⟩ | ⟨r, cur, a1, a2, _⟩
    · simp [Sl.blk, a1] at hk
    · have : r = k := by simpa [Sl.blk, a1] using hk
      subst this
      exact (t.side i).ne (t := 22) (cs := cur.toList) (by unfold Bk; simpa using a2) (by decide) (by decide) e
  have hother : Side (freeOf st.os) B w' h lim (st.p (!i)) (st.q (!i)) := (t.side (!i)).updT u (fun k h1 h2 => t.sp' i k h2 h1) nb
  refine ⟨⟨t.b.upd u (t.gne i), t.gB, fun j => ?_, t.sp, hrow t.o, hrow t.v, t.ov, t.ob, t.vb, fun o ho k hk => Nat.lt_of_lt_of_le (t.ol o ho k hk) u.size, t.len, t.l0, t.l1⟩, fun s => s.updT u nb, Nat.le_succ _, u.mono fun k _ e => (hlt k e).1⟩
  by_cases e : j = i
  · rw [e]; exact sd
  · have : j = !i := by cases j <;> cases i <;> simp_all
    rw [this]; exact hother

end Go.Sh

/- The statement SpringPlays: a step, whatever it is. -/
set_option linter.unusedVariables false
namespace Go.Sh
open Go.Fw Go.Sha Go.RowKit Go.Proofs.Tryd

theorem Two.row {w w' : World} {B : Nat} {h lim : Int} {g : Nat} {st : St} (t : Two w B h lim g st) {i : Bool} (u : Upd (PQ (st.p i) (st.q i)) w w') {s : Sl} {xs : List Value} (o : Own 22 w s xs) : Own 22 w' s xs := o.upd u fun k hk e => by
  rcases o.2 with ⟨a1, _⟩ | ⟨r, cur, a1, a2, _⟩
  · simp [Sl.blk, a1] at hk
  · have : r = k := by simpa [Sl.blk, a1] using hk
    subst this
    exact (t.side i).ne (t := 22) (cs := cur.toList) (by unfold Bk; simpa using a2) (by decide) (by decide) e
theorem row_ne {w : World} {s : Sl} {xs : List Value} (o : Own 22 w s xs) {t : TypeId} {g : Nat} {cs : List Value} (b : Bk t w g cs) (ht : t ≠ 22) : s.blk ≠ some g := fun hk => by
  rcases o.2 with ⟨a1, _⟩ | ⟨r, cur, a1, a2, _⟩
  · simp [Sl.blk, a1] at hk
  · have : r = g := by simpa [Sl.blk, a1] using hk
    subst this
    unfold Bk at b
    rw [b] at a2
    simp only [Option.some.injEq, Obj.cells.injEq] at a2
    exact ht a2.2.1
theorem Side.row {R : Nat → Prop} {B : Nat} {w : World} {h lim : Int} {p q : Option Addr} (sd : Side R B w h lim p q) {s : Sl} {xs : List Value} (o : Own 22 w s xs) {k : Nat} (hk : PQ p q k) : s.blk ≠ some k := by
  rcases sd with ⟨rfl, rfl⟩ | ⟨x, y, d, kv, rfl, rfl, s1, s2, _⟩
  · exact hk.elim0.elim
  · obtain ⟨_, _, b1, _⟩ := s1.ex
    obtain ⟨_, _, b2, _⟩ := s2.ex
    rcases hk.elim2 with rfl | rfl
    · exact row_ne o b1 (by decide)
    · exact row_ne o b2 (by decide)

/-- a draw, kept in mind -/
theorem step_draw {K : Nat} (hK : 18446744073709551616 ≤ K) {C S : List Int} {w w1 w2 : World} (T : TabsR w C S) {B : Nat} (hB : 5 ≤ B) {h lim : Int} {g : Nat} {st : St} (t : Two w B h lim g st) (hn : st.os.length ≤ 100) {o : OpD} (ok : OpOk w B o) (hx : o.xss.flatten.length ≤ 262144)
    (u1 : Upd none_ w w1) (hz : w.heap.size < w1.heap.size) (u2 : Upd none_ w1 w2) (b2 : Bk 34 w2 w.heap.size (opC o.kind o.at_ o.n o.ent o.extra).toList) {l : Sl} {ps : List (Sl × List Int)} (hps : ps.map Prod.snd = o.xss) (LD : LentD w2 w1.heap.size w2.heap.size l ps) (hlf : ∀ k, l.blk = some k → w1.heap.size ≤ k ∧ k < w2.heap.size) (i : Bool) (n : Int) (hnl : n ≤ st.left ∨ 65536 < n) :
    ∃ x y er w3 w4 w6, spring_Spring_Draw K (st.p i) n l w2 = some ((x, er, ()), w3) ∧ ref06_Spring_Draw K (st.q i) n o.extra w3.drew = some ((y, er, ()), w4) ∧ law06_two_plays_s3 K ⟨w.heap.size, 0, none⟩ l x er y er w4 = some ((false, ()), w6) ∧
      Bk 47 w3.drew g st.cells ∧ Bk 34 w3.drew w.heap.size (opC o.kind o.at_ o.n o.ent o.extra).toList ∧ Bk 47 w6 g st.cells ∧ Own 22 w6 st.out (st.os.map slV) ∧ Own 22 w6 st.was (st.ws.map slV) ∧ IntKind.i64.wrap (st.left - ((y.len : Nat) : Int)) = st.left - ((y.len : Nat) : Int) ∧ w.heap.size ≤ w6.heap.size ∧
      ∀ w7 ox oy, Bk 47 w7 g (St.cells { st with out := ox, was := oy, left := st.left - ((y.len : Nat) : Int) }) → Own 22 w7 ox ((st.os ++ [x]).map slV) → Own 22 w7 oy ((st.ws ++ [y]).map slV) → (∀ k, ox.blk = some k → oy.blk ≠ some k) →
        (∀ k, ox.blk = some k → st.out.blk = some k ∨ w6.heap.size ≤ k) → (∀ k, oy.blk = some k → st.was.blk = some k ∨ w6.heap.size ≤ k) → Upd (fun k => k = g ∨ st.out.blk = some k ∨ st.was.blk = some k) w6 w7 →
        Stepped w w7 B h lim g st { st with out := ox, was := oy, left := st.left - ((y.len : Nat) : Int), os := st.os ++ [x], ws := st.ws ++ [y] } := by
  have hgl := t.b.lt
  have hBw : B ≤ w.heap.size := by have := t.gB; omega
  have q2 := u1.and0 u2
  have hz2 := u2.size
  have ok2 := ok.upd q2 fun _ _ => id
  have sd := (t.side i).lts
  have sd2 := sd.upd0 q2
  have nb := (t.side i).noEB
  have hPQ : ∀ k, PQ (st.p i) (st.q i) k → B ≤ k ∧ k < w.heap.size := fun k hk => (t.side i).lt hk
  have L := LD.parts hlf (ok.partsL hps).1 (ok.partsL hps).2
  have hm := ok.many
  obtain ⟨x, y, er, zs, w3, w4, d1, d2, vx, vy, hz1, hzs, fx, fy, hxy, sd4, ux, uy⟩ := pair_draw hK (T.upd0 q2) hB (by omega) sd2 L (fun k hk => by have := hPQ k hk; omega) (Nat.le_refl _) hps ok2.parts (fun k hk => hk) (by omega) hx n
  have u04 : Upd (PQ (st.p i) (st.q i)) w w4 := (q2.mono (T := PQ (st.p i) (st.q i)) fun _ _ e => e.elim).trans' uy fun _ _ e => e
  have u03 : Upd (PQ (st.p i) (st.q i)) w w3 := (q2.mono (T := PQ (st.p i) (st.q i)) fun _ _ e => e.elim).trans' ux fun _ _ e => e
  obtain ⟨w5, r1, u5⟩ := SameBytes_ok hK vx.rd vy.rd (by omega)
  rw [decide_eq_true rfl] at r1
  have hsz2 : w2.heap.size ≤ w4.heap.size := uy.size
  have u45 : Upd (PQ (st.p i) (st.q i)) w2 w5 := uy.and0 u5
  have b4 := (b2.upd uy fun e => by have := hPQ _ e; omega).upd0 u5
  have ok5 : OpOk w5 B o := ok2.upd u45 fun k hk e => by have := hPQ k e; omega
  have LD5 := LD.upd hlf u45 fun k h1 h2 e => by have := hPQ k e; omega
  obtain ⟨w6, r2, u6⟩ := kept_ok hK hps (fun k hk => by have hk : k < B := hk; omega) ok5.parts LD5
  have hz6 := u6.size
  have hz5 := u5.size
  have u06 : Upd (PQ (st.p i) (st.q i)) w w6 := (u04.and0 u5).trans' u6 fun k hk e => by omega
  obtain ⟨_, _, _, _, f4⟩ := op_lds b4
  have hs3 : law06_two_plays_s3 K ⟨w.heap.size, 0, none⟩ l x er y er w4 = some ((false, ()), w6) := by
    unfold law06_two_plays_s3 law06_num
    rw [Option.bind_some, if_neg (by simp), r1, bnd_ok, if_neg (by decide), f4, Option.bind_some, r2, bnd_ok]
    rfl
  have b6 := t.b.upd u06 (t.gne i)
  have o6 := t.row u06 t.o
  have v6 := t.row u06 t.v
  have hyl : y.len = zs.length := by rw [vy.len, ints_length]
  have hl0 := t.l0
  have hl1 := t.l1
  have hyle : ((y.len : Nat) : Int) ≤ st.left := by
    rw [hyl]
    rcases hzs with e | e
    · rw [e]; simpa using hl0
    · omega
  refine ⟨x, y, er, w3, w4, w6, d1, d2, hs3, (t.b.upd u03 (t.gne i)).drew, (b2.upd ux fun e => by have := hPQ _ e; omega).drew, b6, o6, v6, w64 (by omega) (by omega), u06.size, ?_⟩
  intro w7 ox oy b7 o7 v7 hov hox hoy u7
  have X : Upd (fun k => PQ (st.p i) (st.q i) k ∨ (k = g ∨ st.out.blk = some k ∨ st.was.blk = some k)) w w7 := (u06.mono fun k _ e => .inl e).trans' u7 fun k _ e => .inr e
  have nX : NoEB w (fun k => PQ (st.p i) (st.q i) k ∨ (k = g ∨ st.out.blk = some k ∨ st.was.blk = some k)) := nb.or ((noEB_bk t.b (by decide)).or ((noEB_own t.o).or (noEB_own t.v)))
  have hob : ∀ k, st.out.blk = some k → k < w.heap.size := fun k hk => t.o.lt hk
  have hvb : ∀ k, st.was.blk = some k → k < w.heap.size := fun k hk => t.v.lt hk
  have hpg : ∀ j k, PQ (st.p j) (st.q j) k → ¬ (k = g ∨ st.out.blk = some k ∨ st.was.blk = some k) := fun j k hk e => by
    rcases e with e | e | e
    · exact t.gne j (e ▸ hk)
    · exact (t.side j).row t.o hk e
    · exact (t.side j).row t.v hk e
  have vx7 : Vw 5 w7 x (ints .u8 zs) := ((vx.upd0 u5).upd u6 fun k hk e => by have := fx k hk; omega).upd u7 fun k hk e => by
    have h1 := fx k hk
    rcases e with e | e | e
    · omega
    · have := hob k e; omega
    · have := hvb k e; omega
  have vy7 : Vw 5 w7 y (ints .u8 zs) := ((vy.upd0 u5).upd u6 fun k hk e => by have := fy k hk; omega).upd u7 fun k hk e => by
    have h1 := fy k hk
    rcases e with e | e | e
    · omega
    · have := hob k e; omega
    · have := hvb k e; omega
  have hz7 := u7.size
  have sd6 := (sd4.upd0 u5).updR u6 (fun k hk e => by have := hPQ k hk; omega) fun k hk e => by
    rcases hk.1 with h1 | h1
    · have := h1.2; omega
    · omega
  have sd7 := sd6.updT u7 (hpg i) ((noEB_bk b6 (by decide)).or ((noEB_own o6).or (noEB_own v6)))
  have so7 := (t.side (!i)).lts.updT X (fun k hk e => by
    rcases e with e | e
    · exact t.sp' i k e hk
    · exact hpg (!i) k hk e) nX
  have hnew : ∀ k, freeOf st.os k → x.blk ≠ some k → freeOf (st.os ++ [x]) k := fun k h1 h2 z hz => by
    rcases List.mem_append.1 hz with hz | hz
    · exact h1 z hz
    · rw [List.mem_singleton.1 hz]; exact h2
  refine ⟨⟨b7, t.gB, fun j => ?_, t.sp, o7, v7, hov, fun k hk => ?_, fun k hk => ?_, fun z hz k hk => ?_, by simp [t.len], by show 0 ≤ st.left - _; omega, by show st.left - _ ≤ 8192; omega⟩, fun s => ⟨?_, ?_, ?_, ?_, ?_⟩, by simp, ?_⟩
  · by_cases e : j = i
    · rw [e]
      refine sd7.mono fun k hk => hnew k (fun z hz e => ?_) hk.2
      rcases hk.1 with h1 | h1
      · exact h1.1 z hz e
      · have := t.ol z hz k e; omega
    · have : j = !i := by cases j <;> cases i <;> simp_all
      rw [this]
      exact so7.mono fun k hk => hnew k hk.1 fun e => by have := fx k e; have := hk.2; omega
  · rcases hox k hk with e | e
    · exact t.ob k e
    · have := u06.size; omega
  · rcases hoy k hk with e | e
    · exact t.vb k e
    · have := u06.size; omega
  · rcases List.mem_append.1 hz with hz | hz
    · have := t.ol z hz k hk; have := X.size; omega
    · rw [List.mem_singleton.1 hz] at hk; exact vx7.lt hk
  · intro j z s' hj hj'
    have s7 := s.updT X nX
    have hll := t.len
    by_cases c : j < st.os.length
    · rw [List.getElem?_append_left c] at hj
      rw [List.getElem?_append_left (by omega)] at hj'
      exact s7.ex j z s' hj hj'
    · have hje := (List.getElem?_eq_some_iff.1 hj).1
      have hje : j = st.os.length := by simp at hje; omega
      subst hje
      rw [List.getElem?_append_right (Nat.le_refl _), Nat.sub_self] at hj
      rw [← hll, List.getElem?_append_right (Nat.le_refl _), Nat.sub_self] at hj'
      obtain rfl := Option.some.inj hj
      obtain rfl := Option.some.inj hj'
      exact ⟨zs, hz1, vx7, vy7⟩
  · rw [List.pairwise_append]
    refine ⟨s.pw, List.pairwise_singleton .., fun a ha b hb k hk e => ?_⟩
    rw [List.mem_singleton.1 hb] at e
    have := t.ol a ha k hk
    have := fx k e
    omega
  · intro a ha b hb k hk e
    rcases List.mem_append.1 ha with ha | ha
    · rcases List.mem_append.1 hb with hb | hb
      · exact s.ow a ha b hb k hk e
      · rw [List.mem_singleton.1 hb] at e
        have := t.ol a ha k hk
        have := fy k e
        omega
    · rw [List.mem_singleton.1 ha] at hk
      rcases List.mem_append.1 hb with hb | hb
      · have := s.tl b hb k e
        have := fx k hk
        omega
      · rw [List.mem_singleton.1 hb] at e
        exact hxy k hk e
  · intro a ha k hk
    rcases List.mem_append.1 ha with ha | ha
    · exact s.ob a ha k hk
    · rw [List.mem_singleton.1 ha] at hk
      have := fx k hk; omega
  · intro b hb k hk
    rcases List.mem_append.1 hb with hb | hb
    · have := s.tl b hb k hk; have := X.size; omega
    · rw [List.mem_singleton.1 hb] at hk; exact vy7.lt hk
  · exact X.mono fun k _ e => by
      rcases e with e | e | e | e
      · exact (hPQ k e).1
      · rw [e]; exact t.gB
      · exact t.ob k e
      · exact t.vb k e

end Go.Sh

/- The statement SpringRepeats, whole. -/
set_option linter.unusedVariables false
namespace Go.Sh
open Go.Fw Go.Sha Go.RowKit Go.Proofs.Tryd

theorem sameK_rfl {β : Type} (v : Value) (k : Option β) : sameK v v k = k := by unfold sameK; rw [if_pos rfl]

/-- the nonce and the personal text, copied into one list -/
theorem repeats_s0 {K : Nat} {h lim : Int} {e n p : Sl} {ns ps : List Int} {w : World} {c : Nat} (b : Bk 24 w c (seedL h lim e n p)) (pn : PartOk w (n, ns)) (pp : PartOk w (p, ps)) (hn : ns.length ≤ 65536) (hp : ps.length ≤ 65536) :
    ∃ s w', law06_SpringRepeats_s0 K ⟨c, 0, none⟩ w = some ((s, ()), w') ∧ Own 5 w' s (ints .u8 (ns ++ ps)) ∧ Upd none_ w w' := by
  obtain ⟨w1, a1, o1, u1⟩ := bldS0 w.drew
  have q1 : Upd none_ w w1 := u1.predrew
  have b1 := b.upd0 q1
  have nl : n.len = ns.length := by rw [pn.1.len, ints_length]
  have pl : p.len = ps.length := by rw [pp.1.len, ints_length]
  have hzd : w.drew.heap.size = w.heap.size := rfl
  have hz1 := q1.size
  obtain ⟨s2, w2, a2, l2, o2, u2, k2⟩ := apd_ok sliceB o1 (up6 pn q1).1 (by show (0 + n.len) * 1 ≤ _; omega)
  have q2 : Upd none_ w w2 := q1.trans' u2 fun k hk e => by
    have e : some w.heap.size = some k := e
    have := Option.some.inj e; omega
  have b2 := b.upd0 q2
  have hz2 := q2.size
  have l2 : s2.len = 0 + n.len := l2
  have hk2 : ∀ k, s2.blk = some k → w.heap.size ≤ k := fun k hk => by
    rcases k2 with e | e
    · rw [e] at hk
      have hk : some w.heap.size = some k := hk
      have := Option.some.inj hk; omega
    · rw [e] at hk
      have := Option.some.inj hk; omega
  obtain ⟨s3, w3, a3, l3, o3, u3, k3⟩ := apd_ok sliceB o2 (up6 pp q2).1 (by rw [l2]; show (0 + n.len + p.len) * 1 ≤ _; omega)
  have q3 : Upd none_ w w3 := q2.trans' u3 fun k hk e => by have := hk2 k e; omega
  have b3 := b.upd0 q3
  obtain ⟨_, _, _, d3, d4, _⟩ := seed_lens b.drew
  obtain ⟨_, _, _, e3, e4, _⟩ := seed_lens b1
  obtain ⟨_, _, _, f3, f4, _⟩ := seed_lens b2
  obtain ⟨_, _, _, g3, g4, _⟩ := seed_lens b3
  have he : ints .u8 (ns ++ ps) = ([] ++ ints .u8 ns) ++ ints .u8 ps := by rw [ints_append, List.nil_append]
  refine ⟨s3, w3, ?_, by rw [he]; exact o3, q3⟩
  unfold law06_SpringRepeats_s0
  rw [d3, Option.bind_some, d4, Option.bind_some, a1, bnd_ok, e4, Option.bind_some, sameK_rfl, e3, Option.bind_some, sameK_rfl, a2, bnd_ok, f4, Option.bind_some, sameK_rfl, f3, Option.bind_some, sameK_rfl, a3, bnd_ok, g4, Option.bind_some, sameK_rfl, g3, Option.bind_some, sameK_rfl]

theorem SpringRepeats_ok {K : Nat} (hK : 18446744073709551616 ≤ K) {C S : List Int} {h lim : Int} {e n p : Sl} {es ns ps : List Int} {w : World} {sc : Sl} {ops : List OpD} (T : Tabs w C S) (pe : PartOk w (e, es)) (pn : PartOk w (n, ns)) (pp : PartOk w (p, ps)) (hs : Script w w.heap.size sc ops) :
    law06_SpringRepeats K (seedC h lim e n p) sc w (kT w) = some () := by
  obtain ⟨w1, n1, b1, u1, z1⟩ := newB_ok (seedC h lim e n p) 24 w
  have b1 : Bk 24 w1 w.heap.size (seedL h lim e n p) := b1
  obtain ⟨_, _, _, _, _, c5⟩ := seed_lens b1
  obtain ⟨w2, a2, u2⟩ := good_ok (h := h) (lim := lim) (e := e) (n := n) (p := p) w1
  have q2 := u1.and0 u2
  have b2 := b1.upd0 u2
  have el : e.len = es.length := by rw [pe.1.len, ints_length]
  have nl : n.len = ns.length := by rw [pn.1.len, ints_length]
  have pl : p.len = ps.length := by rw [pp.1.len, ints_length]
  have h5 : 5 ≤ w.heap.size := T.lt
  unfold law06_SpringRepeats
  rw [n1, bnd_ok, c5, Option.bind_some, a2, bnd_ok]
  by_cases he : newErr h lim e.len n.len p.len = 0
  case neg =>
    rw [decide_eq_false he, if_pos (show (!(false, ()).1) = true from rfl)]
    exact kT_ok q2
  rw [decide_eq_true he, if_neg (show ¬ (!(true, ()).1) = true by decide)]
  rw [el, nl, pl] at he
  obtain ⟨hk, l1, l2, e1, e2, nn1, pp1⟩ := newErr_zero he
  have he16 : newErr h 16777216 es.length ns.length ps.length = 0 := newErr_iff.2 ⟨hk, by omega, by omega, e1, e2, nn1, pp1⟩
  obtain ⟨s, w3, a3, o3, u3⟩ := repeats_s0 (K := K) b2 (up6 pn q2) (up6 pp q2) nn1 pp1
  have q3 := q2.and0 u3
  have b3 := b2.upd0 u3
  have hz3 := q3.size
  have sl : s.len = ns.length + ps.length := by rw [o3.len, ints_length, List.length_append]
  have hscap := o3.cap
  obtain ⟨f0, f1, f2, f3, f4, f5⟩ := seed_lens b3
  rw [a3, bnd_ok, f0, Option.bind_some, f2, Option.bind_some, f3, Option.bind_some, f4, Option.bind_some]
  refine new_ok hK (T.upd0 q3) (up6 pe q3) (up6 pn q3) (up6 pp q3) he16 fun g1 w4 hg1 s1 u4 => ?_
  have q4 := q3.and0 u4
  have b4 := b3.upd0 u4
  have hz4 := u4.size
  have lt1 := s1.lt
  obtain ⟨f0, f1, f2, f3, f4, f5⟩ := seed_lens b4
  dsimp only
  rw [f0, Option.bind_some, f2, Option.bind_some, f3, Option.bind_some, f4, Option.bind_some]
  refine new_ok hK (T.upd0 q4) (up6 pe q4) (up6 pn q4) (up6 pp q4) he16 fun g2 w5 hg2 s2 u5 => ?_
  have q5 := q4.and0 u5
  have q5d : Upd none_ w w5.drew := q5.drew
  have b5 := (b4.upd0 u5).drew
  have hz5 := u5.size
  have lt2 := s2.lt
  obtain ⟨f0, f1, f2, f3, f4, f5⟩ := seed_lens b5
  have o5 : Own 5 w5.drew s (ints .u8 (ns ++ ps)) := ((o3.upd0 u4).upd0 u5).drew
  obtain ⟨m, hm⟩ : ∃ m : Nat, m = s.len / 2 := ⟨_, rfl⟩
  have ew : IntKind.i64.wrap (Int.tdiv ((s.len : Nat) : Int) 2) = ((m : Nat) : Int) := by
    rw [Int.tdiv_eq_ediv_of_nonneg (by omega), w64 (by omega) (by omega)]; omega
  have hml : m ≤ s.len := by omega
  have hin : ∀ x ∈ ns ++ ps, InK .u8 x := fun x hx => by
    rcases List.mem_append.1 hx with h | h
    · exact pn.2.1 x h
    · exact pp.2.1 x h
  have src_lt : ∀ {w' : World} {t : Sl} {xs : List Int}, Src w' t (ints .u8 xs) → ∀ q, t.a = some q → xs ≠ [] → q.block < w'.heap.size := fun h => src_lt3 h
  have i1 := @ints_one .u8 ((ns ++ ps).take m)
  have i2 := @ints_one .u8 (ns ++ ps)
  have c1 := src_sub ((o5.cut hml).src (by rw [ints_take]; exact i1)) (lo := 0) (Nat.zero_le _)
  rw [List.drop_zero, ints_take] at c1
  have c2 := src_sub (o5.src i2) (lo := m) (by rw [ints_length, List.length_append]; omega)
  have hdr : (ints .u8 (ns ++ ps)).drop m = ints .u8 ((ns ++ ps).drop m) := by simp [ints, List.map_drop]
  rw [hdr] at c2
  have p1 : PartOk w5.drew (⟨sla s.a 0 s.cap 1, m - 0, s.cap - 0⟩, (ns ++ ps).take m) := ⟨c1, fun x hx => hin x (List.mem_of_mem_take hx), by show ((ns ++ ps).take m).length ≤ _; rw [List.length_take, List.length_append]; omega, src_lt c1⟩
  have p2 : PartOk w5.drew (⟨sla s.a m s.cap 1, s.len - m, s.cap - m⟩, (ns ++ ps).drop m) := ⟨c2, fun x hx => hin x (List.mem_of_mem_drop hx), by show ((ns ++ ps).drop m).length ≤ _; rw [List.length_drop, List.length_append]; omega, src_lt c2⟩
  have he3 : newErr h 16777216 es.length ((ns ++ ps).take m).length ((ns ++ ps).drop m).length = 0 := newErr_iff.2 ⟨hk, by omega, by omega, e1, e2, by rw [List.length_take, List.length_append]; omega, by rw [List.length_drop, List.length_append]; omega⟩
  dsimp only
  rw [ew, if_pos ⟨by omega, by omega⟩, if_pos ⟨by omega, by omega⟩, f0, Option.bind_some, f2, Option.bind_some, Int.toNat_natCast]
  refine new_ok hK (T.upd0 q5d) (up6 pe q5d) p1 p2 he3 fun g3 w6 hg3 s3 u6 => ?_
  have hg3 : w5.heap.size ≤ g3 := hg3
  rw [List.take_append_drop] at s3
  have q6 := q5d.and0 u6
  have u6' : Upd none_ w5 w6 := u6.predrew
  have hs1 : law06_SpringRepeats_s1 K (some ⟨g1, 0, none⟩) 0 (some ⟨g2, 0, none⟩) 0 (some ⟨g3, 0, none⟩) 0 w6 = some ((false, ()), w6) := rfl
  dsimp only
  rw [hs1, bnd_ok, if_neg (by decide)]
  have t6 : Three w6 g1 g2 g3 h 16777216 0 (seedS C S h (es ++ (ns ++ ps))) := ⟨((s1.upd0 u5).upd0 u6').any, (s2.upd0 u6').any, s3.any, by omega, by omega⟩
  obtain ⟨w7, r1, r2⟩ := repeats_loop hK (B := w.heap.size) hk h5 (by omega) 30 0 K w6 8192 0 (seedS C S h (es ++ (ns ++ ps))) rfl (by omega) (by decide) (by decide) (by decide) (by decide) (T.upd0 q6) (hs.upd q6 fun _ _ => id) t6
  have r1 : law06_SpringRepeats_l2 K K sc (some ⟨g1, 0, none⟩) (some ⟨g2, 0, none⟩) (some ⟨g3, 0, none⟩) 8192 0 w6 = some (.norm (), w7) := r1
  rw [r1, bnd_ok]
  exact kT_ok (q6.trans' r2 fun k hk e => by omega)

end Go.Sh

/- The statement SpringPlays: every step. -/
set_option linter.unusedVariables false
namespace Go.Sh
open Go.Fw Go.Sha Go.RowKit Go.Proofs.Tryd

theorem plays_ok {K : Nat} (hK : 18446744073709551616 ≤ K) {C S : List Int} {w : World} (T : TabsR w C S) {B : Nat} (hB : 5 ≤ B) {h lim : Int} {g : Nat} {st : St} (t : Two w B h lim g st) (hn : st.os.length ≤ 100) {o : OpD} (ok : OpOk w B o) (hx : o.xss.flatten.length ≤ 262144) :
    ∃ w' st', law06_two_plays K (some ⟨g, 0, none⟩) (opC o.kind o.at_ o.n o.ent o.extra) w = some ((true, ()), w') ∧ Stepped w w' B h lim g st st' := by
  have hgl := t.b.lt
  have hBw : B ≤ w.heap.size := by have := t.gB; omega
  obtain ⟨w1, n1, b1, u1, z1⟩ := newB_ok (opC o.kind o.at_ o.n o.ent o.extra) 34 w
  have b1 : Bk 34 w1 w.heap.size (opC o.kind o.at_ o.n o.ent o.extra).toList := b1
  have hz : w.heap.size < w1.heap.size := b1.lt
  obtain ⟨l0, l1, l2, l3, l4⟩ := op_lds b1
  obtain ⟨i, hi⟩ := idx_ok (K := K) o.at_ w1
  have ok1 := ok.upd u1 fun _ _ => id
  have hlo := llong_ok hK ok1.parts hx
  obtain ⟨l, w2, ps, c1, hps, LD, hlf, u2⟩ := lentD_ok hK ok1.parts (fun k hk => by have hk : k < B := hk; omega)
  have q2 := u1.and0 u2
  have b2 := b1.upd0 u2
  obtain ⟨m0, m1, m2, m3, m4⟩ := op_lds b2
  have t2 := t.upd0 q2
  have ok2 := ok.upd q2 fun _ _ => id
  have hz2 := u2.size
  have hPQ : ∀ k, PQ (st.p i) (st.q i) k → B ≤ k ∧ k < w.heap.size := fun k hk => (t.side i).lt hk
  have ud2 : Upd none_ w2 w2.drew := (Upd.refl none_ w2).drew
  have hin := bI_ok i
  unfold law06_two_plays
  rw [n1, bnd_ok, l1, Option.bind_some, hi, bnd_ok, l4, Option.bind_some, hlo, Option.bind_some, if_neg (by decide), Option.bind_some, c1, bnd_ok, m0, Option.bind_some]
  dsimp only
  by_cases k1 : o.kind = 1
  · rw [if_pos (by rw [k1]; rfl), m2, Option.bind_some]
    have ll := ldl_ok t2.b
    have e1 : law06_two_plays_s1 K (some ⟨g, 0, none⟩) o.n w2 = some ((decide (o.n > st.left ∧ o.n ≤ 65536), ()), w2) := by
      unfold law06_two_plays_s1
      rw [Option.bind_some, ll, Option.bind_some]
      by_cases c : o.n > st.left
      · rw [if_pos (decide_eq_true c)]
        congr 4; exact propext ⟨fun h => ⟨c, h⟩, fun h => h.2⟩
      · rw [if_neg (fun h => c (of_decide_eq_true h)), decide_eq_false (fun h => c h.1)]
    have e2 : ∃ m : Int, law06_two_plays_s2 K (some ⟨g, 0, none⟩) o.n (decide (o.n > st.left ∧ o.n ≤ 65536)) w2 = some ((m, ()), w2) ∧ (m ≤ st.left ∨ 65536 < m) := by
      unfold law06_two_plays_s2
      by_cases c : o.n > st.left ∧ o.n ≤ 65536
      · exact ⟨st.left, by rw [if_pos (decide_eq_true c), Option.bind_some, ll, Option.bind_some], .inl (Int.le_refl _)⟩
      · exact ⟨o.n, by rw [if_neg (fun h => c (of_decide_eq_true h))], by omega⟩
    obtain ⟨m, e2, hm⟩ := e2
    obtain ⟨x, y, er, w3, w4, w6, d1, d2, d3, b3, p3, b6, o6, v6, hw, hz6, H⟩ := step_draw hK T hB t hn ok hx u1 hz u2 b2 hps LD hlf i m hm
    obtain ⟨_, _, _, _, f4⟩ := op_lds p3
    obtain ⟨w7, ox, oy, g1, g2, g3, g4, g5, g6, g7, g8⟩ := draw_tail b6 o6 v6 t.ov t.len (by omega) x y hw
    refine ⟨w7, _, ?_, H w7 ox oy g2 g3 g4 g5 g6 g7 g8⟩
    rw [e1, bnd_ok]
    dsimp only
    rw [e2, bnd_ok, Option.bind_some]
    dsimp only
    rw [if_pos hin, ldp_ok t2.b, Option.bind_some, d1, bnd_ok, Option.bind_some, if_pos hin, ldq_ok b3, Option.bind_some, f4, Option.bind_some, d2, bnd_ok]
    dsimp only
    rw [d3, bnd_ok, if_neg (by decide), Option.bind_some]
    exact g1
  rw [if_neg (by simpa using k1)]
  by_cases k2 : o.kind = 2
  · rw [if_pos (by rw [k2]; rfl), m3, Option.bind_some]
    obtain ⟨gx, cx, w3, x1, x2, x3, x4⟩ := Bytes_ok hK ok2.ent ok2.lim
    have X3 : MarkAt w3 gx cx o.es := x2
    have hz3 := x4.size
    have hgx3 : gx < w3.heap.size := x2.lt rfl
    have q3 := q2.and0 x4
    have t3 := t2.upd0 x4
    have ok3 := ok2.upd x4 fun _ _ => id
    have LD3 := LD.upd hlf x4 fun _ _ _ => id
    have L3 := LD3.parts hlf (ok.partsL hps).1 (ok.partsL hps).2
    have hm := ok.many
    obtain ⟨er, w4, w5, d1, d2, sd5, ux, uy⟩ := pair_feed hK (T.upd0 q3) hB (by omega) ((t.side i).lts.upd0 q3) L3 (fun k hk => by have := hPQ k hk; omega) (by omega) hps ok3.parts (fun k hk => hk) hm hx (X3.part ok.inn ok.lim) (fun r hr _ hk => by
      obtain rfl := Option.some.inj hr
      have h1 : B ≤ gx ∧ gx < w.heap.size := hPQ _ hk
      have : w2.heap.size ≤ gx := x3
      omega) (op_part ok3 (by omega)) ok.eb
    have u4 : Upd (PQ (st.p i) (st.q i)) w w4 := (q3.mono (T := PQ (st.p i) (st.q i)) fun _ _ e => e.elim).trans' ux fun _ _ e => e
    have u5 : Upd (PQ (st.p i) (st.q i)) w w5 := (q3.mono (T := PQ (st.p i) (st.q i)) fun _ _ e => e.elim).trans' uy fun _ _ e => e
    have b3 := t.b.upd u4 (t.gne i)
    have p4 := (b2.upd0 x4).upd ux fun e => by have := hPQ _ e; omega
    have p5 := (b2.upd0 x4).upd uy fun e => by have := hPQ _ e; omega
    obtain ⟨_, _, _, f3, f4⟩ := op_lds p4.drew
    obtain ⟨_, _, _, f53, f54⟩ := op_lds p5
    have ok5 : OpOk w5 B o := ok.upd u5 fun k hk e => by have := hPQ k e; omega
    have X5 := X3.upd uy fun e => by have := hPQ _ e; omega
    obtain ⟨w6, r1, u6⟩ := WholeBytes_ok hK X5 ok5.ent.rds ok.lim
    rw [decide_eq_true rfl] at r1
    obtain ⟨_, _, _, _, f64⟩ := op_lds (p5.upd0 u6)
    have LD6 := (LD3.upd hlf uy fun k h1 h2 e => by have := hPQ k e; omega).upd hlf u6 fun _ _ _ => id
    have hz5 := uy.size
    have hz6 := u6.size
    obtain ⟨w7, r2, u7⟩ := kept_ok hK hps (fun k hk => by have hk : k < B := hk; omega) (ok5.upd u6 fun _ _ => id).parts LD6
    have X7 := (X5.upd u6 id).upd u7 fun e => by omega
    obtain ⟨w8, r3, u8⟩ := X7.spoil hK ok.lim
    have uu : Upd (PQ (st.p i) (st.q i)) w w8 := ((u5.and0 u6).trans' u7 fun k hk e => by omega).trans' u8 fun k hk e => by omega
    have hz7 := u7.size
    have sd8 := ((sd5.upd0 u6).updR u7 (fun k hk e => by have := hPQ k hk; omega) fun k hk e => by
      rcases hk with h1 | h1
      · have := h1.2; omega
      · omega).updR u8 (fun k hk e => by have := hPQ k hk; omega) fun k hk e => by
        rcases hk with h1 | h1
        · have := h1.2; omega
        · omega
    refine ⟨w8, st, ?_, stepped_of t uu (sd8.mono fun k hk z hz e => ?_)⟩
    · rw [x1, bnd_ok, Option.bind_some]
      dsimp only
      rw [if_pos hin, ldp_ok t3.b, Option.bind_some, d1, bnd_ok]
      unfold law06_num
      rw [Option.bind_some, Option.bind_some, if_pos hin, ldq_ok b3.drew, Option.bind_some, f3, Option.bind_some, f4, Option.bind_some, d2, bnd_ok, if_neg (by simp), f53, Option.bind_some, r1, bnd_ok, if_neg (by decide), f64, Option.bind_some, r2, bnd_ok, if_neg (by decide), r3, bnd_ok]
    · rcases hk with h1 | h1
      · exact h1.1 z hz e
      · have := t.ol z hz k e; omega
  rw [if_neg (by simpa using k2)]
  by_cases k3 : o.kind = 3
  · rw [if_pos (by rw [k3]; rfl)]
    have t2d := t2.upd0 ud2
    obtain ⟨v, w3, w4, d1, d2, u3, u4⟩ := pair_left (t2d.side i)
    have e3 := ldq_ok (t2d.b.upd0 u3) i
    have q4 := (q2.and0 ud2).and0 u4
    refine ⟨w4, st, ?_, stepped_of t (i := i) (q4.mono fun _ _ e => e.elim) ((t.side i).upd0 q4)⟩
    rw [Option.bind_some, if_pos hin, Option.bind_some, if_pos hin, ldp_ok t2d.b, Option.bind_some, ldq_ok t2d.b, Option.bind_some, d1, bnd_ok, e3, Option.bind_some, sameK_rfl, d2, bnd_ok]
    simp
  rw [if_neg (by simpa using k3)]
  by_cases k4 : o.kind = 4
  · rw [if_pos (by rw [k4]; rfl)]
    have t2d := t2.upd0 ud2
    have q2d := q2.drew
    have hin' := bI_ok (!i)
    have key : ∃ p' q' w3 w4 w5, spring_Spring_Copy (st.p (!i)) w2.drew = some ((p', ()), w3) ∧ stC (((⟨g, 0, none⟩ : Addr).add 0).add ((Int.toNat (bI i)) * 1)) (.pointer p') w3 = some w4 ∧ ref06_Spring_Copy (st.q (!i)) w4.drew = some ((q', ()), w5) ∧ (p'.isNone == q'.isNone) = true ∧
        Side (freeOf st.os) B w5 h lim p' q' ∧ Upd none_ w2 w3 ∧ Upd (· = g) w3 w4 ∧ Upd none_ w4 w5 ∧ Bk 47 w4 g ({ st with p := fun j => if j = i then p' else st.p j } : St).cells ∧ ∀ k, PQ p' q' k → w2.heap.size ≤ k := by
      rcases t2d.side (!i) with ⟨ep, eq⟩ | ⟨a, b, d, kv, ep, eq, s1, s2, r⟩
      · rw [ep, eq]
        obtain ⟨w4, g1, g2, g3⟩ := stp_ok t2d.b i none
        exact ⟨none, none, w2.drew, w4, w4.drew, copy_nil, g1, refCopy_nil, rfl, .inl ⟨rfl, rfl⟩, ud2, g3, (Upd.refl none_ w4).drew, g2, fun k hk => hk.elim0.elim⟩
      · rw [ep, eq]
        obtain ⟨a', w3, c1, c2, c3, c4⟩ := copy_ok s1
        have b3 := t2d.b.upd0 c4
        obtain ⟨w4, g1, g2, g3⟩ := stp_ok b3 i (some ⟨a', 0, none⟩)
        have hlb := s2.lt
        have nb3 := noEB_bk b3 (by decide)
        have hbg : b ≠ g := fun e => t2d.gne (!i) (by rw [ep, eq, ← e]; exact PQ.r)
        have hag : a' ≠ g := fun e => by
          obtain ⟨_, _, ba, _⟩ := c2.ex
          exact bk_ne b3 ba (by decide) e.symm
        have s2' := ((s2.upd0 c4).updT g3 hbg nb3).upd0 (Upd.refl none_ w4).drew
        obtain ⟨b', w5, d1, d2, d3, d4⟩ := refCopy_ok s2'
        have d4 : Upd none_ w4 w5 := d4.predrew
        have d3 : w4.heap.size ≤ b' := d3
        have c3 : w2.heap.size ≤ a' := c3
        have c4 : Upd none_ w2 w3 := c4.predrew
        have hz3 := c4.size
        have hz4 := g3.size
        have hz5 := d4.size
        have d2 : SprAt (fun k => w4.heap.size ≤ k) 84 w5 b' h lim d kv.1 kv.2 := d2
        refine ⟨some ⟨a', 0, none⟩, some ⟨b', 0, none⟩, w3, w4, w5, c1, g1, d1, rfl, .inr ⟨a', b', d, kv, rfl, rfl, (c2.updT g3 hag nb3).upd0 d4, d2.mono fun k hk z hz e => ?_, r.1, r.2.1, r.2.2.1, r.2.2.2.1, by omega, by omega⟩, c4, g3, d4, g2, fun k hk => ?_⟩
        · have := t.ol z hz k e
          omega
        · rcases hk.elim2 with e | e <;> omega
    obtain ⟨p', q', w3, w4, w5, c1, c2, c3, hpq, sd5, u3, u4, u5, b4, hfr⟩ := key
    have b5 := b4.upd0 u5
    obtain ⟨w6, d1, b6, u6⟩ := stq_ok b5 i q'
    have b6 : Bk 47 w6 g ({ st with p := fun j => if j = i then p' else st.p j, q := fun j => if j = i then q' else st.q j } : St).cells := b6
    have ui : Upd (· = g) w w4 := ((q2.and0 u3).mono (T := (· = g)) fun _ _ e => e.elim).trans' u4 fun _ _ e => e
    have uu : Upd (· = g) w w6.drew := ((ui.and0 u5).trans' u6 fun _ _ e => e).drew
    have nb := noEB_bk t.b (by decide)
    have ud6 : Upd none_ w6 w6.drew := (Upd.refl none_ w6).drew
    have b6d := b6.drew
    have e5 := ldp_ok b6d i
    have e6 := ldq_ok b6d i
    have ea : (if i = i then p' else st.p i) = p' := if_pos rfl
    have eb : (if i = i then q' else st.q i) = q' := if_pos rfl
    have e5 : ldP (((⟨g, 0, none⟩ : Addr).add 0).add ((Int.toNat (bI i)) * 1)) w6.drew = some (if i = i then p' else st.p i) := e5
    have e6 : ldP (((⟨g, 0, none⟩ : Addr).add 2).add ((Int.toNat (bI i)) * 1)) w6.drew = some (if i = i then q' else st.q i) := e6
    rw [ea] at e5
    rw [eb] at e6
    have hz3 := u3.size
    have hz4 := u4.size
    have hz5 := u5.size
    have hpqg : ∀ k, PQ p' q' k → k ≠ g := fun k hk e => by have := hfr k hk; omega
    have sdn : Side (freeOf st.os) B w6.drew h lim p' q' := (sd5.updT u6 hpqg (noEB_bk b5 (by decide))).upd0 ud6
    have sdo : Side (freeOf st.os) B w6.drew h lim (st.p (!i)) (st.q (!i)) := (t.side (!i)).updT uu (fun k hk e => t.gne (!i) (e ▸ hk)) nb
    have hold : ∀ k, PQ (st.p (!i)) (st.q (!i)) k → k < w.heap.size := fun k hk => ((t.side (!i)).lt hk).2
    refine ⟨w6.drew, _, ?_, ⟨b6d, t.gB, fun j => ?_, ?_, t.o.upd uu fun k hk e => row_ne t.o t.b (by decide) (e ▸ hk), t.v.upd uu fun k hk e => row_ne t.v t.b (by decide) (e ▸ hk), t.ov, t.ob, t.vb, fun z hz k hk => Nat.lt_of_lt_of_le (t.ol z hz k hk) uu.size, t.len, t.l0, t.l1⟩, fun s => s.updT uu nb, Nat.le_succ _, uu.mono fun k _ e => by rw [e]; exact t.gB⟩
    · rw [Option.bind_some, bI_not, if_pos hin', Option.bind_some, ldp_ok t2d.b, Option.bind_some, c1, bnd_ok, if_pos hin, c2, Option.bind_some, Option.bind_some, if_pos hin', Option.bind_some, ldq_ok b4.drew]
      show (some (st.q (!i))).bind _ = _
      rw [Option.bind_some, c3, bnd_ok, if_pos hin, d1, Option.bind_some, Option.bind_some, if_pos hin, Option.bind_some, if_pos hin, e5, Option.bind_some, e6, Option.bind_some, hpq]
    · by_cases e : j = i
      · rw [e]
        show Side _ B _ h lim (if i = i then p' else st.p i) (if i = i then q' else st.q i)
        rw [ea, eb]; exact sdn
      · have hj : j = !i := by cases j <;> cases i <;> simp_all
        rw [hj]
        show Side _ B _ h lim (if (!i) = i then p' else st.p (!i)) (if (!i) = i then q' else st.q (!i))
        rw [if_neg (by cases i <;> decide), if_neg (by cases i <;> decide)]
        exact sdo
    · intro k
      cases i
      · show PQ p' q' k → ¬ PQ (st.p true) (st.q true) k
        intro h1 h2
        have := hfr k h1; have := hold k h2; omega
      · show PQ (st.p false) (st.q false) k → ¬ PQ p' q' k
        intro h1 h2
        have := hfr k h2; have := hold k h1; omega
  rw [if_neg (by simpa using k4)]
  exact ⟨w2, st, rfl, stepped_of t (i := false) (q2.mono fun _ _ e => e.elim) ((t.side false).upd0 q2)⟩

end Go.Sh

/- The statement SpringPlays, whole. -/
set_option linter.unusedVariables false
namespace Go.Sh
open Go.Fw Go.Sha Go.RowKit Go.Proofs.Tryd

theorem rd_ldS {w : World} {p : Addr} {vs : List Value} (r : Rd w p vs) {i : Nat} {s : Sl} (h : vs[i]? = some (slV s)) : ldS (p.add i) w = some s := by
  have := r i _ h
  simp [ldS, this, asS, slV]

/-- an operation without any list -/
def opN (k a n : Int) : OpD := ⟨k, a, n, nilS, nilS, [], []⟩
theorem opN_ok (w : World) (B : Nat) (k a n : Int) : OpOk w B (opN k a n) :=
  ⟨⟨rfl, Nat.le_refl _, .inl ⟨rfl, rfl, rfl⟩, fun v hv => by cases hv⟩, (fun x hx => by cases hx), Nat.zero_le _, (fun q hq => by cases hq), partsW_nil w _, (fun _ => rfl), Nat.zero_le _, Nat.zero_le _⟩

theorem plays_loop {K : Nat} (hK : 18446744073709551616 ≤ K) {C S : List Int} {B : Nat} (hB : 5 ≤ B) {h lim : Int} {g : Nat} {sc : Sl} {ops : List OpD} :
    ∀ (r i f : Nat) (w : World) (fed : Int) (st : St), i + r = 30 → r < f → 0 ≤ fed → fed ≤ 262144 → TabsR w C S → Script w B sc ops → Two w B h lim g st → Outs w B st.os st.ws → st.os.length ≤ i →
      ∃ w' st', law06_SpringPlays_l0 K f sc ⟨g, 0, none⟩ fed (i : Int) w = some (.norm (), w') ∧ Two w' B h lim g st' ∧ Outs w' B st'.os st'.ws ∧ st'.os.length ≤ 30 ∧ Upd (fun k => B ≤ k) w w' := by
  intro r
  induction r with
  | zero =>
    intro i f w fed st hi hf hl0 hl1 T hs t os hn
    obtain ⟨f, rfl⟩ : ∃ q, f = q + 1 := ⟨f - 1, by omega⟩
    refine ⟨w, st, ?_, t, os, by omega, Upd.refl _ w⟩
    have hs3 : law06_SpringPlays_s1 K sc (i : Int) w = some ((false, ()), w) := by
      unfold law06_SpringPlays_s1
      split
      · rw [decide_eq_false (show ¬ (i : Int) < 30 by omega)]
      · rfl
    show law06_SpringPlays_l0_b K (law06_SpringPlays_l0 K f) sc ⟨g, 0, none⟩ fed (i : Int) w = _
    unfold law06_SpringPlays_l0_b
    rw [hs3, bnd_ok, if_neg (by decide)]
  | succ r ih =>
    intro i f w fed st hi hf hl0 hl1 T hs t os hn
    obtain ⟨f, rfl⟩ : ∃ q, f = q + 1 := ⟨f - 1, by omega⟩
    by_cases c : i < ops.length
    case neg =>
      refine ⟨w, st, ?_, t, os, by omega, Upd.refl _ w⟩
      have hs3 : law06_SpringPlays_s1 K sc (i : Int) w = some ((false, ()), w) := by
        unfold law06_SpringPlays_s1
        rw [if_neg (fun e => by have := of_decide_eq_true e; rw [hs.len] at this; omega)]
      show law06_SpringPlays_l0_b K (law06_SpringPlays_l0 K f) sc ⟨g, 0, none⟩ fed (i : Int) w = _
      unfold law06_SpringPlays_l0_b
      rw [hs3, bnd_ok, if_neg (by decide)]
    have hs3 : law06_SpringPlays_s1 K sc (i : Int) w = some ((true, ()), w) := by
      unfold law06_SpringPlays_s1
      rw [if_pos (decide_eq_true (by rw [hs.len]; omega)), decide_eq_true (show (i : Int) < 30 by omega)]
    have ud : Upd none_ w w.drew := (Upd.refl none_ w).drew
    have hsd := hs.upd ud fun _ _ => id
    rcases hsd.rd with e | ⟨p, h1, h2, h3⟩
    · rw [e] at c; simp at c
    obtain ⟨o, ho⟩ : ∃ o, ops[i] = o := ⟨_, rfl⟩
    obtain ⟨r1, ok⟩ := h3 i ops[i] (List.getElem?_eq_getElem c)
    rw [ho] at r1 ok
    have g3 : ldS ((p.add (i * 5)).add 3) w.drew = some o.ent := rd_ldS r1 rfl
    have g4 : ldS ((p.add (i * 5)).add 4) w.drew = some o.extra := rd_ldS r1 rfl
    have hld := ldA_at r1 (by simp [opC])
    have hld : ldA 5 (p.add (i * 5)) w.drew = some (opC o.kind o.at_ o.n o.ent o.extra) := hld
    have htot := ok.tot
    have hlim := ok.lim
    have hb := lbytes_ok hK (s := o.extra) ok.parts (by omega)
    have hel : o.ent.len = o.es.length := by rw [ok.ent.len, ints_length]
    have c0 : (0 : Int) ≤ (i : Int) ∧ (i : Int) < ((sc.len : Nat) : Int) := by rw [hs.len]; omega
    have e1 : IntKind.i64.wrap ((i : Int) + 1) = ((i + 1 : Nat) : Int) := by rw [w64 (by omega) (by omega)]; rfl
    have e2 : IntKind.i64.wrap (((o.xss.flatten.length : Nat) : Int) + ((o.ent.len : Nat) : Int)) = ((o.xss.flatten.length + o.es.length : Nat) : Int) := by rw [w64 (by omega) (by omega)]; omega
    have td := t.upd0 ud
    have osd : Outs w.drew B st.os st.ws := os.updT ud fun _ _ _ e => e.elim
    by_cases hfe : ((o.xss.flatten.length + o.es.length : Nat) : Int) > fed
    · obtain ⟨w', st', a1, a2, a3, a4, a5⟩ := ih (i + 1) f w.drew fed st (by omega) (by omega) hl0 hl1 (T.upd0 ud) hsd td osd (by omega)
      refine ⟨w', st', ?_, a2, a3, a4, (ud.mono (T := fun k => B ≤ k) fun _ _ e => e.elim).trans' a5 fun _ _ e => e⟩
      show law06_SpringPlays_l0_b K (law06_SpringPlays_l0 K f) sc ⟨g, 0, none⟩ fed (i : Int) w = _
      unfold law06_SpringPlays_l0_b
      rw [hs3, bnd_ok]
      dsimp only
      rw [if_pos rfl, h1, Option.bind_some, if_pos c0, Option.bind_some, if_pos c0, Int.toNat_natCast, g4, Option.bind_some, hb, Option.bind_some, g3, Option.bind_some, e2, if_pos (decide_eq_true hfe), e1, a1]
    · obtain ⟨w1, st1, b1, b2⟩ := plays_ok hK (T.upd0 ud) hB td (by omega) ok (by omega)
      have e3 : IntKind.i64.wrap (fed - ((o.xss.flatten.length + o.es.length : Nat) : Int)) = fed - ((o.xss.flatten.length + o.es.length : Nat) : Int) := w64 (by omega) (by omega)
      have hn1 := b2.n
      obtain ⟨w', st', a1, a2, a3, a4, a5⟩ := ih (i + 1) f w1 (fed - ((o.xss.flatten.length + o.es.length : Nat) : Int)) st1 (by omega) (by omega) (by omega) (by omega) ((T.upd0 ud).upd b2.u fun k hk e => by omega) (hsd.upd b2.u fun k hk e => by omega) b2.t (b2.outs osd) (by omega)
      refine ⟨w', st', ?_, a2, a3, a4, ((ud.mono (T := fun k => B ≤ k) fun _ _ e => e.elim).trans' b2.u fun _ _ e => e).trans' a5 fun _ _ e => e⟩
      show law06_SpringPlays_l0_b K (law06_SpringPlays_l0 K f) sc ⟨g, 0, none⟩ fed (i : Int) w = _
      unfold law06_SpringPlays_l0_b
      rw [hs3, bnd_ok]
      dsimp only
      rw [if_pos rfl, h1, Option.bind_some, if_pos c0, Option.bind_some, if_pos c0, Int.toNat_natCast, g4, Option.bind_some, hb, Option.bind_some, g3, Option.bind_some, e2, if_neg (fun e => hfe (of_decide_eq_true e)), Option.bind_some, if_pos c0, hld, Option.bind_some, b1, bnd_ok, if_neg (by decide), e3, e1, a1]

/-- a slice of a list of slices -/
theorem row_at {w : World} {s : Sl} {xs : List Sl} (o : Own 22 w s (xs.map slV)) {i : Nat} {x : Sl} (hi : xs[i]? = some x) : ∃ p, s.a = some p ∧ ldS (p.add (i * 1)) w = some x := by
  have hsrc := o.src (fun v hv => by obtain ⟨x, _, rfl⟩ := List.mem_map.1 hv; rfl)
  rcases hsrc.rd with ⟨b1, b2, b3⟩ | ⟨p, b1, b2⟩
  · have : xs = [] := by simpa using b3
    rw [this] at hi; simp at hi
  · refine ⟨p, b1, ?_⟩
    rw [Nat.mul_one]
    exact rd_ldS b2 (by rw [List.getElem?_map, hi]; rfl)

theorem Two.spoiled {w w' : World} {B : Nat} {h lim : Int} {g : Nat} {st : St} (t : Two w B h lim g st) {x : Sl} (hx : x ∈ st.os) {xs : List Value} (v : Vw 5 w x xs) (u : Upd (fun k => x.blk = some k) w w') : Two w' B h lim g st := by
  have hrow : ∀ {s : Sl} {ys : List Value}, Own 22 w s ys → Own 22 w' s ys := fun o => o.upd u fun k hk e => by
    obtain ⟨cs, bb⟩ := vw_bk v e
    exact row_ne o bb (by decide) hk
  refine ⟨t.b.upd u fun e => ?_, t.gB, fun j => (t.side j).updR u (fun k hk e => ?_) fun k hk e => hk x hx e, t.sp, hrow t.o, hrow t.v, t.ov, t.ob, t.vb, fun o ho k hk => Nat.lt_of_lt_of_le (t.ol o ho k hk) u.size, t.len, t.l0, t.l1⟩
  · obtain ⟨cs, bb⟩ := vw_bk v e
    exact bk_ne bb t.b (by decide) rfl
  · obtain ⟨cs, bb⟩ := vw_bk v e
    exact (t.side j).ne bb (by decide) (by decide) hk

theorem spoil_loop {K : Nat} (hK : 18446744073709551616 ≤ K) {B : Nat} {h lim : Int} {g : Nat} {st : St} (pw : st.os.Pairwise fun a b => ∀ k, a.blk = some k → b.blk ≠ some k) (ow : ∀ o ∈ st.os, ∀ t ∈ st.ws, ∀ k, o.blk = some k → t.blk ≠ some k) (ob : ∀ o ∈ st.os, ∀ k, o.blk = some k → B ≤ k) (hsmall : st.os.length ≤ 1000) :
    ∀ (d i f : Nat) (w : World), i + d = st.os.length → d < f → Two w B h lim g st → (∀ (j : Nat) (o t : Sl), i ≤ j → st.os[j]? = some o → st.ws[j]? = some t → ∃ zs : List Int, zs.length ≤ 65536 ∧ Vw 5 w o (ints .u8 zs) ∧ Vw 5 w t (ints .u8 zs)) →
      ∃ w', law06_SpringPlays_l3 K f ⟨g, 0, none⟩ (i : Int) w = some (.norm (), w') ∧ Two w' B h lim g st ∧ Upd (fun k => B ≤ k) w w' := by
  intro d
  induction d with
  | zero =>
    intro i f w hi hf t _
    obtain ⟨f, rfl⟩ : ∃ q, f = q + 1 := ⟨f - 1, by omega⟩
    refine ⟨w, ?_, t, Upd.refl _ w⟩
    have hol : st.out.len = st.os.length := by rw [t.o.len, List.length_map]
    show law06_SpringPlays_l3_b K (law06_SpringPlays_l3 K f) ⟨g, 0, none⟩ (i : Int) w = _
    unfold law06_SpringPlays_l3_b
    rw [ldo_ok t.b, Option.bind_some, if_neg (fun e => by have := of_decide_eq_true e; omega)]
  | succ d ih =>
    intro i f w hi hf t hv
    obtain ⟨f, rfl⟩ : ∃ q, f = q + 1 := ⟨f - 1, by omega⟩
    have hil : i < st.os.length := by omega
    have hwl := t.len
    have hol : st.out.len = st.os.length := by rw [t.o.len, List.length_map]
    have hvl : st.was.len = st.ws.length := by rw [t.v.len, List.length_map]
    have ho : st.os[i]? = some st.os[i] := List.getElem?_eq_getElem hil
    have hw : st.ws[i]? = some (st.ws[i]'(by omega)) := List.getElem?_eq_getElem (by omega)
    obtain ⟨zs, hz, v1, v2⟩ := hv i _ _ (Nat.le_refl _) ho hw
    have ud : Upd none_ w w.drew := (Upd.refl none_ w).drew
    have td := t.upd0 ud
    obtain ⟨p, hp, hp1⟩ := row_at td.o ho
    obtain ⟨q, hq, hq1⟩ := row_at td.v hw
    obtain ⟨w1, r1, u1⟩ := SameBytes_ok hK (v1.upd0 ud).rd (v2.upd0 ud).rd (by omega)
    rw [decide_eq_true rfl] at r1
    have u01 := ud.and0 u1
    have t1 := t.upd0 u01
    obtain ⟨p', hp', hp1'⟩ := row_at t1.o ho
    rw [hp] at hp'
    obtain rfl := Option.some.inj hp'
    have v1' := v1.upd0 u01
    obtain ⟨w2, s1, u2⟩ := SpoilBytes_ok hK v1' (by omega)
    have t2 := t1.spoiled (List.getElem_mem hil) v1' u2
    have c0 : (0 : Int) ≤ (i : Int) ∧ (i : Int) < ((st.out.len : Nat) : Int) := by rw [hol]; omega
    have c1 : (0 : Int) ≤ (i : Int) ∧ (i : Int) < ((st.was.len : Nat) : Int) := by rw [hvl]; omega
    have e1 : IntKind.i64.wrap ((i : Int) + 1) = ((i + 1 : Nat) : Int) := by rw [w64 (by omega) (by omega)]; rfl
    obtain ⟨w3, g1, g2, g3⟩ := ih (i + 1) f w2 (by omega) (by omega) t2 fun j o t' hj hoj htj => by
      obtain ⟨zs', k1, k2, k3⟩ := hv j o t' (by omega) hoj htj
      have hj2 := (List.getElem?_eq_some_iff.1 hoj).1
      have hoe := (List.getElem?_eq_some_iff.1 hoj).2
      have hne := (List.pairwise_iff_getElem.1 pw) i j hil hj2 (by omega)
      rw [hoe] at hne
      exact ⟨zs', k1, (k2.upd0 u01).upd u2 fun k hk e => hne k e hk, (k3.upd0 u01).upd u2 fun k hk e => ow _ (List.getElem_mem hil) t' (List.mem_of_getElem? htj) k e hk⟩
    refine ⟨w3, ?_, g2, ((u01.mono (T := fun k => B ≤ k) fun _ _ e => e.elim).trans' u2 fun k _ e => ob _ (List.getElem_mem hil) k e).trans' g3 fun _ _ e => e⟩
    show law06_SpringPlays_l3_b K (law06_SpringPlays_l3 K f) ⟨g, 0, none⟩ (i : Int) w = _
    unfold law06_SpringPlays_l3_b
    rw [ldo_ok t.b, Option.bind_some, if_pos (decide_eq_true c0.2), ldo_ok td.b, Option.bind_some, hp, Option.bind_some, if_pos c0, Int.toNat_natCast, hp1, Option.bind_some, ldw_ok td.b, Option.bind_some, hq, Option.bind_some, if_pos c1, hq1, Option.bind_some, r1, bnd_ok, if_neg (by decide), ldo_ok t1.b, Option.bind_some, hp, Option.bind_some, if_pos c0, hp1', Option.bind_some, s1, bnd_ok, e1, g1]

theorem built_opA (k : Int) : prog.built 34 [(0, (.int .i64 k))] = some (opC k 0 0 nilS nilS) := by kernel_rfl
theorem built_opB (k a : Int) : prog.built 34 [(0, (.int .i64 k)), (1, (.int .i64 a))] = some (opC k a 0 nilS nilS) := by kernel_rfl
theorem built_opC (k n : Int) : prog.built 34 [(0, (.int .i64 k)), (2, (.int .i64 n))] = some (opC k 0 n nilS nilS) := by kernel_rfl
theorem built_opD (k a n : Int) : prog.built 34 [(0, (.int .i64 k)), (1, (.int .i64 a)), (2, (.int .i64 n))] = some (opC k a n nilS nilS) := by kernel_rfl
def st0 : St := ⟨fun _ => none, fun _ => none, nilS, nilS, 8192, [], []⟩
theorem built_TW : prog.built 47 [(4, (.int .i64 8192))] = some st0.cells.toArray := by kernel_rfl

/-- all that is behind the beginning -/
theorem plays_rest {K : Nat} (hK : 18446744073709551616 ≤ K) {C S : List Int} {w : World} (T : TabsR w C S) {B : Nat} (hB : 5 ≤ B) {h lim : Int} {g : Nat} (hg : B ≤ g) (b : Bk 47 w g st0.cells) {p q : Option Addr} (sd : Side (fun _ => True) B w h lim p q) {sc : Sl} {ops : List OpD} (hs : Script w B sc ops) :
    ∃ w1 w2 w3 w4 w5 w6 w7, stC (((⟨g, 0, none⟩ : Addr).add 0).add (0 * 1)) (.pointer p) w = some w1 ∧ stC (((⟨g, 0, none⟩ : Addr).add 2).add (0 * 1)) (.pointer q) w1 = some w2 ∧ law06_SpringPlays_l0 K K sc ⟨g, 0, none⟩ 262144 0 w2 = some (.norm (), w3) ∧ law06_SpringPlays_s2 K ⟨g, 0, none⟩ w3 = some ((false, ()), w4) ∧ law06_SpringPlays_l3 K K ⟨g, 0, none⟩ 0 w4 = some (.norm (), w5) ∧
      law06_two_plays K (some ⟨g, 0, none⟩) (opC 1 0 3 nilS nilS) w5 = some ((true, ()), w6) ∧ law06_two_plays K (some ⟨g, 0, none⟩) (opC 1 1 3 nilS nilS) w6 = some ((true, ()), w7) ∧ Upd (fun k => B ≤ k) w w7 := by
  obtain ⟨w1, a1, b1, u1⟩ := stp_ok b false p
  obtain ⟨w2, a2, b2, u2⟩ := stq_ok b1 false q
  have u02 : Upd (· = g) w w2 := u1.trans' u2 fun _ _ e => e
  have v02 : Upd (fun k => B ≤ k) w w2 := u02.mono fun k _ e => by rw [e]; exact hg
  have gne : ¬ PQ p q g := sd.ne b (by decide) (by decide)
  have hxx : ∀ {w' : World}, Upd (fun k => B ≤ k) w w' → TabsR w' C S ∧ Script w' B sc ops := fun u => ⟨T.upd u fun k hk e => by omega, hs.upd u fun k hk e => by omega⟩
  obtain ⟨st, hst⟩ : ∃ st : St, st = ⟨fun j => if j = false then p else none, fun j => if j = false then q else none, nilS, nilS, 8192, [], []⟩ := ⟨_, rfl⟩
  have t2 : Two w2 B h lim g st := by
    subst hst
    refine ⟨b2, hg, fun i => ?_, fun k _ hk => ?_, Own.nil .., Own.nil .., (fun k hk => by cases hk), (fun k hk => by cases hk), (fun k hk => by cases hk), (fun o ho => by cases ho), rfl, (show (0 : Int) ≤ 8192 by decide), (show (8192 : Int) ≤ 8192 by decide)⟩
    · cases i
      · exact (sd.updT u02 (fun k hk e => gne (e ▸ hk)) (noEB_bk b (by decide))).mono fun k _ o ho => by cases ho
      · exact .inl ⟨rfl, rfl⟩
    · exact hk.elim0
  have s2 : Outs w2 B st.os st.ws := by
    subst hst
    exact ⟨(fun i o t ho => by cases ho), List.Pairwise.nil, (fun o ho => by cases ho), (fun o ho => by cases ho), (fun o ho => by cases ho)⟩
  have hst0 : st.os.length ≤ 0 := by rw [hst]; exact Nat.le_refl _
  obtain ⟨w3, st3, c1, t3, s3, n3, u3⟩ := plays_loop hK hB (h := h) (lim := lim) 30 0 K w2 262144 st rfl (by omega) (by decide) (by decide) (hxx v02).1 (hxx v02).2 t2 s2 hst0
  have c1 : law06_SpringPlays_l0 K K sc ⟨g, 0, none⟩ 262144 0 w2 = some (.norm (), w3) := c1
  have v03 := v02.trans' u3 fun _ _ e => e
  obtain ⟨w4, st4, d1, d2⟩ := plays_ok hK (hxx v03).1 hB t3 (by omega) (opN_ok w3 B 3 0 0) (Nat.zero_le _)
  have d1 : law06_two_plays K (some ⟨g, 0, none⟩) (opC 3 0 0 nilS nilS) w3 = some ((true, ()), w4) := d1
  have v04 := v03.trans' d2.u fun _ _ e => e
  have n4 := d2.n
  obtain ⟨w5, st5, e1, e2⟩ := plays_ok hK (hxx v04).1 hB d2.t (by omega) (opN_ok w4 B 3 1 0) (Nat.zero_le _)
  have e1 : law06_two_plays K (some ⟨g, 0, none⟩) (opC 3 1 0 nilS nilS) w4 = some ((true, ()), w5) := e1
  have v05 := v04.trans' e2.u fun _ _ e => e
  have n5 := e2.n
  have s5 := e2.outs (d2.outs s3)
  have hs2 : law06_SpringPlays_s2 K ⟨g, 0, none⟩ w3 = some ((false, ()), w5) := by
    unfold law06_SpringPlays_s2
    rw [built_opA, Option.bind_some, d1, bnd_ok, if_neg (by decide), built_opB, Option.bind_some, e1, bnd_ok]
    rfl
  obtain ⟨w6, f1, t6, u6⟩ := spoil_loop hK s5.pw s5.ow s5.ob (by omega) st5.os.length 0 K w5 (by omega) (by omega) e2.t fun j o t _ ho ht => s5.ex j o t ho ht
  have f1 : law06_SpringPlays_l3 K K ⟨g, 0, none⟩ 0 w5 = some (.norm (), w6) := f1
  have v06 := v05.trans' u6 fun _ _ e => e
  obtain ⟨w7, st7, i1, i2⟩ := plays_ok hK (hxx v06).1 hB t6 (by omega) (opN_ok w6 B 1 0 3) (Nat.zero_le _)
  have i1 : law06_two_plays K (some ⟨g, 0, none⟩) (opC 1 0 3 nilS nilS) w6 = some ((true, ()), w7) := i1
  have v07 := v06.trans' i2.u fun _ _ e => e
  have n7 := i2.n
  obtain ⟨w8, st8, j1, j2⟩ := plays_ok hK (hxx v07).1 hB i2.t (by omega) (opN_ok w7 B 1 1 3) (Nat.zero_le _)
  have j1 : law06_two_plays K (some ⟨g, 0, none⟩) (opC 1 1 3 nilS nilS) w7 = some ((true, ()), w8) := j1
  exact ⟨w1, w2, w3, w5, w6, w7, w8, a1, a2, c1, hs2, f1, i1, j1, v07.trans' j2.u fun _ _ e => e⟩

theorem SpringPlays_ok {K : Nat} (hK : 18446744073709551616 ≤ K) {C S : List Int} {h lim : Int} {e n p : Sl} {es ns ps : List Int} {w : World} {sc : Sl} {ops : List OpD} (T : TabsR w C S) (pe : PartOk w (e, es)) (pn : PartOk w (n, ns)) (pp : PartOk w (p, ps)) (hs : Script w w.heap.size sc ops) :
    law06_SpringPlays K (seedC h lim e n p) sc w (kT w) = some () := by
  obtain ⟨w1, n1, b1, u1, z1⟩ := newB_ok (seedC h lim e n p) 24 w
  have b1 : Bk 24 w1 w.heap.size (seedL h lim e n p) := b1
  obtain ⟨f0, f1, f2, f3, f4, f5⟩ := seed_lens b1
  have el : e.len = es.length := by rw [pe.1.len, ints_length]
  have nl : n.len = ns.length := by rw [pn.1.len, ints_length]
  have pl : p.len = ps.length := by rw [pp.1.len, ints_length]
  obtain ⟨le, ln, lp⟩ : es.length ≤ 140737488351232 ∧ ns.length ≤ 140737488351232 ∧ ps.length ≤ 140737488351232 := ⟨pe.2.2.1, pn.2.2.1, pp.2.2.1⟩
  have h5 : 5 ≤ w.heap.size := T.to.lt
  have ew : IntKind.i64.wrap ((IntKind.i64.wrap (((e.len : Nat) : Int) + ((n.len : Nat) : Int))) + ((p.len : Nat) : Int)) = ((es.length + ns.length + ps.length : Nat) : Int) := by
    have e0 : IntKind.i64.wrap (((e.len : Nat) : Int) + ((n.len : Nat) : Int)) = ((e.len : Nat) : Int) + ((n.len : Nat) : Int) := w64 (by omega) (by omega)
    rw [e0, w64 (by omega) (by omega)]; omega
  unfold law06_SpringPlays
  rw [n1, bnd_ok, f2, Option.bind_some, f3, Option.bind_some, f4, Option.bind_some, ew]
  by_cases hbig : ((es.length + ns.length + ps.length : Nat) : Int) > 262144
  · rw [if_pos (decide_eq_true hbig), Option.bind_some, Option.bind_some, Option.bind_some, ew, decide_eq_true hbig]
    exact kT_ok u1
  rw [if_neg (fun h => hbig (of_decide_eq_true h))]
  refine sprFirst_ok hK (T.to.upd0 u1) fun w2 u2 => ?_
  have q2 := u1.and0 u2
  rw [if_neg (show ¬ (!(true, ()).1) = true by decide), built_TW, Option.bind_some]
  obtain ⟨w3, n3, b3, u3, z3⟩ := newB_ok st0.cells.toArray 47 w2
  have b3 : Bk 47 w3 w2.heap.size st0.cells := by simpa using b3
  have q3 := q2.and0 u3
  have hz2 := q2.size
  have hz3 := q3.size
  have hg3 := b3.lt
  obtain ⟨_, _, _, _, _, g5⟩ := seed_lens ((b1.upd0 u2).upd0 u3)
  rw [n3, bnd_ok, g5, Option.bind_some]
  have fin : ∀ (p q : Option Addr) (w4 : World), Upd none_ w3 w4 → Side (fun _ => True) w.heap.size w4 h lim p q →
      ∃ w5 w6 w7 w8 w9 w10 w11, stC (((⟨w2.heap.size, 0, none⟩ : Addr).add 0).add (0 * 1)) (.pointer p) w4 = some w5 ∧ stC (((⟨w2.heap.size, 0, none⟩ : Addr).add 2).add (0 * 1)) (.pointer q) w5 = some w6 ∧ law06_SpringPlays_l0 K K sc ⟨w2.heap.size, 0, none⟩ 262144 0 w6 = some (.norm (), w7) ∧ law06_SpringPlays_s2 K ⟨w2.heap.size, 0, none⟩ w7 = some ((false, ()), w8) ∧ law06_SpringPlays_l3 K K ⟨w2.heap.size, 0, none⟩ 0 w8 = some (.norm (), w9) ∧
        law06_two_plays K (some ⟨w2.heap.size, 0, none⟩) (opC 1 0 3 nilS nilS) w9 = some ((true, ()), w10) ∧ law06_two_plays K (some ⟨w2.heap.size, 0, none⟩) (opC 1 1 3 nilS nilS) w10 = some ((true, ()), w11) ∧ Upd none_ w w11 := by
    intro p q w4 u4 sd
    have q4 := q3.and0 u4
    obtain ⟨w5, w6, w7, w8, w9, w10, w11, r1, r2, r3, r4, r5, r6, r7, r8⟩ := plays_rest hK (T.upd0 q4) h5 hz2 (b3.upd0 u4) sd (hs.upd q4 fun _ _ => id)
    exact ⟨w5, w6, w7, w8, w9, w10, w11, r1, r2, r3, r4, r5, r6, r7, q4.trans' r8 fun k hk e => by omega⟩
  refine begun_ok hK (T.upd0 q3) (up6 pe q3) (up6 pn q3) (up6 pp q3) (fun w4 he u4 => ?_) (fun a t w4 he ha ht s1 s2 u4 => ?_)
  · obtain ⟨w5, w6, w7, w8, w9, w10, w11, r1, r2, r3, r4, r5, r6, r7, r8⟩ := fin none none w4 u4 (.inl ⟨rfl, rfl⟩)
    dsimp only
    rw [if_neg (show ¬ (!true) = true by decide), r1, Option.bind_some, r2, Option.bind_some, r3, bnd_ok]
    dsimp only
    rw [r4, bnd_ok, if_neg (by decide), r5, bnd_ok]
    dsimp only
    rw [built_opC, Option.bind_some, r6, bnd_ok]
    dsimp only
    rw [if_pos rfl, built_opD, Option.bind_some, r7, bnd_ok]
    exact kT_ok r8
  · obtain ⟨hk, l1, l2, _⟩ := newErr_zero he
    obtain ⟨w5, w6, w7, w8, w9, w10, w11, r1, r2, r3, r4, r5, r6, r7, r8⟩ := fin (some ⟨a, 0, none⟩) (some ⟨t, 0, none⟩) w4 u4 (.inr ⟨a, t, 0, _, rfl, rfl, s1.any, s2.any, hk, by decide, by omega, l2, by omega, by omega⟩)
    dsimp only
    rw [if_neg (show ¬ (!true) = true by decide), r1, Option.bind_some, r2, Option.bind_some, r3, bnd_ok]
    dsimp only
    rw [r4, bnd_ok, if_neg (by decide), r5, bnd_ok]
    dsimp only
    rw [built_opC, Option.bind_some, r6, bnd_ok]
    dsimp only
    rw [if_pos rfl, built_opD, Option.bind_some, r7, bnd_ok]
    exact kT_ok r8

end Go.Sh

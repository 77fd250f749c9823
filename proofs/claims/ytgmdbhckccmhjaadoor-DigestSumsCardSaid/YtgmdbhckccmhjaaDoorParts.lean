/- Parts: a slice of slices of bytes: how many bytes they are, joined, lent. -/
import Derived.Test.YtgmdbhckccmhjaaDoorBegin
set_option linter.unusedVariables false
namespace Go.Sh
open Go.Fw Go.Sha Go.RowKit Go.Proofs.Tryd

abbrev slV (s : Sl) : Value := .slice s.a s.len s.cap
abbrev nilS : Sl := ⟨none, 0, 0⟩

theorem ldS_rd {w : World} {p : Addr} {ss : List Sl} (h : Rd w p (ss.map slV)) {i : Nat} (hi : i < ss.length) : ldS (p.add i) w = some (ss.getD i nilS) := by
  have := h i (slV (ss.getD i nilS)) (by simp [List.getD_eq_getElem?_getD, hi])
  simp [ldS, this, asS, slV]

/-- A slice of slices of bytes; all that it leads to lies in blocks of Q. -/
structure Parts (w : World) (s : Sl) (xss : List (List Int)) (Q : Nat → Prop) : Prop where
  len : s.len = xss.length
  cap : s.len ≤ s.cap
  inn : ∀ xs ∈ xss, ∀ x ∈ xs, InK .u8 x
  lens : ∀ xs ∈ xss, xs.length ≤ 140737488351232
  many : xss.length * 24 ≤ 140737488351232
  rd : xss = [] ∨ ∃ (p : Addr) (ss : List Sl), s.a = some p ∧ ss.length = xss.length ∧ Q p.block ∧ Rd w p (ss.map slV) ∧
    ∀ i, i < xss.length → Src w (ss.getD i nilS) (ints .u8 (xss.getD i [])) ∧ ∀ q, (ss.getD i nilS).a = some q → Q q.block ∧ q.block < w.heap.size

theorem Parts.upd {w w' : World} {s : Sl} {xss : List (List Int)} {Q S : Nat → Prop} (h : Parts w s xss Q) (u : Upd S w w') (hn : ∀ k, Q k → ¬ S k) : Parts w' s xss Q :=
  ⟨h.len, h.cap, h.inn, h.lens, h.many, h.rd.imp id fun ⟨p, ss, h1, h2, h3, h4, h5⟩ => ⟨p, ss, h1, h2, h3, h4.upd u fun _ => hn _ h3,
    fun i hi => ⟨(h5 i hi).1.upd u fun q hq => hn _ ((h5 i hi).2 q hq).1, fun q hq => ⟨((h5 i hi).2 q hq).1, Nat.lt_of_lt_of_le ((h5 i hi).2 q hq).2 u.size⟩⟩⟩⟩
theorem Parts.upd0 {w w' : World} {s : Sl} {xss : List (List Int)} {Q : Nat → Prop} (h : Parts w s xss Q) (u : Upd none_ w w') : Parts w' s xss Q := h.upd u fun _ _ => id
theorem Parts.mono {w : World} {s : Sl} {xss : List (List Int)} {Q R : Nat → Prop} (h : Parts w s xss Q) (hn : ∀ k, Q k → R k) : Parts w s xss R :=
  ⟨h.len, h.cap, h.inn, h.lens, h.many, h.rd.imp id fun ⟨p, ss, h1, h2, h3, h4, h5⟩ => ⟨p, ss, h1, h2, hn _ h3, h4, fun i hi => ⟨(h5 i hi).1, fun q hq => ⟨hn _ ((h5 i hi).2 q hq).1, ((h5 i hi).2 q hq).2⟩⟩⟩⟩

/-- A slice of slices of bytes that came in: of its empty parts nothing is known but that. -/
structure PartsW (w : World) (s : Sl) (xss : List (List Int)) (Q : Nat → Prop) : Prop where
  len : s.len = xss.length
  cap : s.len ≤ s.cap
  inn : ∀ xs ∈ xss, ∀ x ∈ xs, InK .u8 x
  lens : ∀ xs ∈ xss, xs.length ≤ 140737488351232
  many : xss.length * 24 ≤ 140737488351232
  rd : xss = [] ∨ ∃ (p : Addr) (ss : List Sl), s.a = some p ∧ ss.length = xss.length ∧ Q p.block ∧ Rd w p (ss.map slV) ∧
    ∀ i, i < xss.length → Src w (ss.getD i nilS) (ints .u8 (xss.getD i [])) ∧ ∀ q, (ss.getD i nilS).a = some q → xss.getD i [] ≠ [] → Q q.block

theorem src_upd {S : Nat → Prop} {w w' : World} {s : Sl} {vs : List Value} (h : Src w s vs) (u : Upd S w w') (hn : ∀ p, s.a = some p → vs ≠ [] → ¬ S p.block) : Src w' s vs :=
  ⟨h.len, h.cap, h.rd.imp id fun ⟨p, hp, hr⟩ => ⟨p, hp, hr.upd u fun hne => hn p hp hne⟩, h.one⟩

theorem ints_ne {κ : IntKind} {xs : List Int} (h : ints κ xs ≠ []) : xs ≠ [] := fun e => h (by rw [e]; rfl)

theorem PartsW.upd {w w' : World} {s : Sl} {xss : List (List Int)} {Q S : Nat → Prop} (h : PartsW w s xss Q) (u : Upd S w w') (hn : ∀ k, Q k → ¬ S k) : PartsW w' s xss Q :=
  ⟨h.len, h.cap, h.inn, h.lens, h.many, h.rd.imp id fun ⟨p, ss, h1, h2, h3, h4, h5⟩ => ⟨p, ss, h1, h2, h3, h4.upd u fun _ => hn _ h3,
    fun i hi => ⟨src_upd (h5 i hi).1 u fun q hq hne => hn _ ((h5 i hi).2 q hq (ints_ne hne)), (h5 i hi).2⟩⟩⟩
theorem PartsW.upd0 {w w' : World} {s : Sl} {xss : List (List Int)} {Q : Nat → Prop} (h : PartsW w s xss Q) (u : Upd none_ w w') : PartsW w' s xss Q := h.upd u fun _ _ => id
theorem Parts.weak {w : World} {s : Sl} {xss : List (List Int)} {Q : Nat → Prop} (h : Parts w s xss Q) : PartsW w s xss Q :=
  ⟨h.len, h.cap, h.inn, h.lens, h.many, h.rd.imp id fun ⟨p, ss, h1, h2, h3, h4, h5⟩ => ⟨p, ss, h1, h2, h3, h4, fun i hi => ⟨(h5 i hi).1, fun q hq _ => ((h5 i hi).2 q hq).1⟩⟩⟩

theorem PartsW.at {w : World} {s : Sl} {xss : List (List Int)} {Q : Nat → Prop} (h : PartsW w s xss Q) {i : Nat} (hi : i < xss.length) :
    ∃ p t, s.a = some p ∧ ldS (p.add i) w = some t ∧ Src w t (ints .u8 (xss.getD i [])) ∧ t.len = (xss.getD i []).length ∧ (xss.getD i []).length ≤ 140737488351232 ∧ ∀ x ∈ xss.getD i [], InK .u8 x := by
  rcases h.rd with e | ⟨p, ss, h1, h2, h3, h4, h5⟩
  · rw [e] at hi; simp at hi
  · have hm : xss.getD i [] ∈ xss := by rw [List.getD_eq_getElem?_getD, List.getElem?_eq_getElem hi]; exact List.getElem_mem hi
    have hs := (h5 i hi).1
    exact ⟨p, _, h1, ldS_rd h4 (by omega), hs, by rw [hs.len, ints_length], h.lens _ hm, h.inn _ hm⟩

/-- the part at i -/
theorem Parts.at {w : World} {s : Sl} {xss : List (List Int)} {Q : Nat → Prop} (h : Parts w s xss Q) {i : Nat} (hi : i < xss.length) :
    ∃ p t, s.a = some p ∧ ldS (p.add i) w = some t ∧ Src w t (ints .u8 (xss.getD i [])) ∧ (∀ q, t.a = some q → Q q.block ∧ q.block < w.heap.size) ∧ t.len = (xss.getD i []).length ∧ (xss.getD i []).length ≤ 140737488351232 ∧ ∀ x ∈ xss.getD i [], InK .u8 x := by
  rcases h.rd with e | ⟨p, ss, h1, h2, h3, h4, h5⟩
  · rw [e] at hi; simp at hi
  · have hm : xss.getD i [] ∈ xss := by rw [List.getD_eq_getElem?_getD, List.getElem?_eq_getElem hi]; exact List.getElem_mem hi
    have hs := (h5 i hi).1
    exact ⟨p, _, h1, ldS_rd h4 (by omega), hs, (h5 i hi).2, by rw [hs.len, ints_length], h.lens _ hm, h.inn _ hm⟩

theorem drop_getD {α : Type} {l : List α} {i : Nat} (hi : i < l.length) (d : α) : l.drop i = l.getD i d :: l.drop (i + 1) := by
  rw [List.drop_eq_getElem_cons hi, List.getD_eq_getElem?_getD, List.getElem?_eq_getElem hi]; rfl

/-- how many bytes they are, or more than MaxFed -/
def totB (acc : Nat) : List (List Int) → Nat
  | [] => acc
  | xs :: r => if acc + xs.length > 33554432 then acc + xs.length else totB (acc + xs.length) r

theorem totB_le : ∀ (xss : List (List Int)) (acc : Nat), acc ≤ 33554432 → (totB acc xss ≤ 33554432 ↔ acc + xss.flatten.length ≤ 33554432) ∧ (totB acc xss ≤ 33554432 → totB acc xss = acc + xss.flatten.length)
  | [], acc, h => by simp [totB, h]
  | xs :: r, acc, h => by
    unfold totB
    rw [List.flatten_cons, List.length_append]
    split
    · constructor
      · constructor <;> intro _ <;> omega
      · intro _; omega
    · have := totB_le r (acc + xs.length) (by omega)
      rw [← Nat.add_assoc]; exact this

theorem totB_lt : ∀ (xss : List (List Int)) (acc : Nat), acc ≤ 33554432 → (∀ xs ∈ xss, xs.length ≤ 140737488351232) → totB acc xss ≤ 140737521905664
  | [], acc, h, _ => by simp only [totB]; omega
  | xs :: r, acc, h, hl => by
    have h0 := hl xs (List.mem_cons_self ..)
    unfold totB
    split
    · omega
    · exact totB_lt r _ (by omega) fun x hx => hl x (List.mem_cons_of_mem _ hx)

theorem total_loop (K : Nat) {s : Sl} {xss : List (List Int)} {Q : Nat → Prop} {w : World} (h : Parts w s xss Q) :
    ∀ (d i n acc : Nat), i + d = xss.length → d < n → acc ≤ 33554432 → digest_total_l0 K n (acc : Int) s ((s.len : Nat) : Int) (i : Int) w = some (.norm (((totB acc (xss.drop i) : Nat) : Int), ())) := by
  intro d
  have hm := h.many
  induction d with
  | zero =>
    intro i n acc hi hn ha
    obtain ⟨n, rfl⟩ : ∃ m, n = m + 1 := ⟨n - 1, by omega⟩
    have hd : decide ((i : Int) < ((s.len : Nat) : Int)) = false := by rw [h.len]; simp; omega
    show digest_total_l0_b K w (fun a b c d => digest_total_l0 K n a b c d w) (acc : Int) s ((s.len : Nat) : Int) (i : Int) = _
    unfold digest_total_l0_b
    rw [hd, if_neg (by decide), List.drop_eq_nil_of_le (by omega)]
    rfl
  | succ d ih =>
    intro i n acc hi hn ha
    obtain ⟨n, rfl⟩ : ∃ m, n = m + 1 := ⟨n - 1, by omega⟩
    have hd : decide ((i : Int) < ((s.len : Nat) : Int)) = true := by rw [h.len]; simp; omega
    obtain ⟨p, t, h1, h2, h3, h4, h5, h6, h7⟩ := h.at (i := i) (by omega)
    have c : (0 : Int) ≤ (i : Int) ∧ (i : Int) < ((s.len : Nat) : Int) := by rw [h.len]; omega
    have e1 : IntKind.i64.wrap ((i : Int) + 1) = ((i + 1 : Nat) : Int) := by rw [w64 (by omega) (by omega)]; rfl
    have e2 : IntKind.i64.wrap ((acc : Int) + (((xss.getD i []).length : Nat) : Int)) = ((acc + (xss.getD i []).length : Nat) : Int) := by rw [w64 (by omega) (by omega)]; rfl
    show digest_total_l0_b K w (fun a b c d => digest_total_l0 K n a b c d w) (acc : Int) s ((s.len : Nat) : Int) (i : Int) = _
    unfold digest_total_l0_b
    rw [hd, if_pos rfl, h1, Option.bind_some, if_pos c, Int.toNat_natCast, Nat.mul_one, h2, Option.bind_some, h5, e2, e1, drop_getD (by omega) []]
    unfold totB
    by_cases hb : acc + (xss.getD i []).length > 33554432
    · have hd2 : decide (((acc + (xss.getD i []).length : Nat) : Int) > 33554432) = true := by simp only [decide_eq_true_eq]; omega
      rw [hd2, if_pos rfl, if_pos hb]
    · have hd2 : decide (((acc + (xss.getD i []).length : Nat) : Int) > 33554432) = false := by simp only [decide_eq_false_iff_not]; omega
      rw [hd2, if_neg (by decide), if_neg hb]
      exact ih (i + 1) n _ (by omega) (by omega) (by omega)

theorem total_ok {K : Nat} (hK : 18446744073709551616 ≤ K) {s : Sl} {xss : List (List Int)} {Q : Nat → Prop} {w : World} (h : Parts w s xss Q) :
    digest_total K s w = some (((totB 0 xss : Nat) : Int), ()) := by
  have hm := h.many
  have hl := total_loop K h xss.length 0 K 0 (by omega) (by omega) (by omega)
  rw [List.drop_zero] at hl
  have hl : digest_total_l0 K K 0 s ((s.len : Nat) : Int) 0 w = _ := hl
  unfold digest_total
  rw [hl, Option.bind_some]

/-- joined, up to some length -/
def jn (acc : List Int) : List (List Int) → List Int
  | [] => acc
  | xs :: r => if acc.length ≤ 65536 then jn (acc ++ xs) r else acc

theorem jn_big (xss : List (List Int)) (acc : List Int) (h : ¬ acc.length ≤ 65536) : jn acc xss = acc := by
  cases xss with
  | nil => rfl
  | cons x r => unfold jn; rw [if_neg h]

theorem jn_le : ∀ (xss : List (List Int)) (acc : List Int), (jn acc xss).length ≤ 65536 → jn acc xss = acc ++ xss.flatten
  | [], acc, h => by simp [jn]
  | xs :: r, acc, h => by
    unfold jn at h ⊢
    split at h
    · rename_i hc
      rw [if_pos hc, jn_le r _ h]; simp
    · omega

theorem joined_loop (K B : Nat) {s : Sl} {xss : List (List Int)} {Q : Nat → Prop} :
    ∀ (d i n : Nat) (w : World) (out : Sl) (acc : List Int), i + d = xss.length → d < n → PartsW w s xss Q → (∀ k, Q k → k < B) → Own 5 w out (ints .u8 acc) → B ≤ w.heap.size → Fresh B out →
      ∃ s' w', law01_joined_l0 K n s out (i : Int) w = some ((s', ()), w') ∧ Own 5 w' s' (ints .u8 (jn acc (xss.drop i))) ∧ Below B w w' ∧ Fresh B s' := by
  intro d
  induction d with
  | zero =>
    intro i n w out acc hi hn h hQ ho hB hf
    obtain ⟨n, rfl⟩ : ∃ m, n = m + 1 := ⟨n - 1, by omega⟩
    have hd : decide ((i : Int) < ((s.len : Nat) : Int)) = false := by rw [h.len]; simp; omega
    refine ⟨out, w, ?_, by rw [List.drop_eq_nil_of_le (by omega)]; exact ho, Below.refl B w, hf⟩
    show law01_joined_l0_b K (law01_joined_l0 K n) s out (i : Int) w = _
    unfold law01_joined_l0_b law01_joined_s1
    rw [hd, if_neg (by decide), bnd_ok, if_neg (by decide)]
  | succ d ih =>
    intro i n w out acc hi hn h hQ ho hB hf
    obtain ⟨n, rfl⟩ : ∃ m, n = m + 1 := ⟨n - 1, by omega⟩
    have hd : decide ((i : Int) < ((s.len : Nat) : Int)) = true := by rw [h.len]; simp; omega
    have hol : out.len = acc.length := by rw [ho.len, ints_length]
    have hm := h.many
    show ∃ s' w', law01_joined_l0_b K (law01_joined_l0 K n) s out (i : Int) w = _ ∧ _
    unfold law01_joined_l0_b law01_joined_s1
    rw [hd, if_pos rfl, bnd_ok]
    dsimp only
    by_cases hc : acc.length ≤ 65536
    · have hd2 : decide (((out.len : Nat) : Int) ≤ 65536) = true := by rw [hol]; simp only [decide_eq_true_eq]; omega
      obtain ⟨p, t, h1, h2, h3, h5, h6, h7⟩ := h.at (i := i) (by omega)
      have c : (0 : Int) ≤ (i : Int) ∧ (i : Int) < ((s.len : Nat) : Int) := by rw [h.len]; omega
      have e1 : IntKind.i64.wrap ((i : Int) + 1) = ((i + 1 : Nat) : Int) := by rw [w64 (by omega) (by omega)]; rfl
      obtain ⟨o2, w2, a1, a2, a3, a4, a5⟩ := apd_wide sliceB ho hf hB h3 (by rw [hol, h5]; omega)
      rw [← ints_append] at a3
      obtain ⟨s', w', b1, b2, b3, b4⟩ := ih (i + 1) n w2 o2 _ (by omega) (by omega) (h.upd (upd_of_below a4) fun k hk e => by have := hQ k hk; omega) hQ a3 (by have := a4.size; omega) a5
      refine ⟨s', w', ?_, ?_, a4.trans b3, b4⟩
      · rw [hd2, if_pos rfl, h1, Option.bind_some, if_pos c, Int.toNat_natCast, Nat.mul_one, h2, Option.bind_some, a1, bnd_ok, e1, b1]
      · rw [drop_getD (by omega) []]
        unfold jn
        rw [if_pos hc]; exact b2
    · have hd2 : decide (((out.len : Nat) : Int) ≤ 65536) = false := by rw [hol]; simp only [decide_eq_false_iff_not]; omega
      refine ⟨out, w, ?_, by rw [jn_big _ _ hc]; exact ho, Below.refl B w, hf⟩
      rw [hd2, if_neg (by decide)]

theorem joined_ok {K : Nat} (hK : 18446744073709551616 ≤ K) {s : Sl} {xss : List (List Int)} {Q : Nat → Prop} {w : World} (h : PartsW w s xss Q) (hQ : ∀ k, Q k → k < w.heap.size) :
    ∃ s' w', law01_joined K s w = some ((s', ()), w') ∧ Own 5 w' s' (ints .u8 (jn [] xss)) ∧ Upd none_ w w' ∧ Fresh w.heap.size s' := by
  have hm := h.many
  obtain ⟨s', w', h1, h2, h3, h4⟩ := joined_loop K w.heap.size xss.length 0 K w nilS [] (by omega) (by omega) h hQ (Own.nil 5 w) (Nat.le_refl _) (fun k hk => by cases hk)
  have h1 : law01_joined_l0 K K s nilS 0 w = _ := h1
  refine ⟨s', w', ?_, by simpa using h2, Upd.of_below h3, h4⟩
  unfold law01_joined
  rw [h1, bnd_ok]

end Go.Sh

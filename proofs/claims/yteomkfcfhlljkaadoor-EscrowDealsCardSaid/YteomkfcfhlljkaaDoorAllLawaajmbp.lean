/- Texts of this claim, put together: EscK, EscL, EscM, EscN, EscO, EscP, EscQ, EscR, EscS, EscT, EscU, EscV, EscPw, BookD, EscW, Spec32, Spec64, Fed, Bv, Narrow, Wide -/
import Derived.Test.YteomkfcfhlljkaaDoorAllLawflpjel
import Derived.Test.YteomkfcfhlljkaaDoorAllFwocfjfh
import Derived.Test.YteomkfcfhlljkaaDoorAllShiiimmk
import Derived.Laws.Bits64
import Derived.Test.YteomkfcfhlljkaaDoorAllShdkjgca
/- Equations solved by the document, whole; its Coded. -/
set_option linter.unusedVariables false
set_option maxRecDepth 100000
namespace Go.Sh
open Go.Fw Go.Gf Go.RowKit Go.Proofs.Tryd

theorem solve_rest {K : Nat} {rs x7 : Sl} {ss : List Sl} {R : List (List F)} {n B N : Nat} {w : World} (hR : R.length ≤ 4096) (h : RowsAt w rs ss R (n + 1) B N) :
    ∀ (d i f : Nat), i + d = R.length ∨ (d = 0 ∧ R.length ≤ i ∧ i ≤ 4096) → d < f → ref11_Solve_l8 K f (n : Int) rs x7 (i : Int) w = some (if Gf.restG R n d i = true then (.norm (), w) else (.ret (nilF, false, ()), w)) := by
  have hsz := h.size
  intro d
  induction d with
  | zero =>
    intro i f hi hf
    obtain ⟨f, rfl⟩ : ∃ q, f = q + 1 := ⟨f - 1, by omega⟩
    show ref11_Solve_l8_b K (ref11_Solve_l8 K f) (n : Int) rs x7 (i : Int) w = _
    unfold ref11_Solve_l8_b
    rw [if_neg (by rw [hsz]; simp only [decide_eq_true_eq]; omega)]
    rfl
  | succ d ih =>
    intro i f hi hf
    obtain ⟨f, rfl⟩ : ∃ q, f = q + 1 := ⟨f - 1, by omega⟩
    have hil : i < R.length := by omega
    have e3 : IntKind.i64.wrap ((i : Int) + 1) = ((i + 1 : Nat) : Int) := by rw [w64 (by omega) (by omega)]; rfl
    obtain ⟨p, p1, p2⟩ := h.ld hil
    obtain ⟨q, q1, q2⟩ := h.cell hil (t := n) (by omega)
    have hsl := h.slen hil
    have c1 : (0 : Int) ≤ (i : Int) ∧ (i : Int) < ((rs.len : Nat) : Int) := by omega
    have c2 : (0 : Int) ≤ (n : Int) ∧ (n : Int) < (((ss.getD i nilF).len : Nat) : Int) := by omega
    show ref11_Solve_l8_b K (ref11_Solve_l8 K f) (n : Int) rs x7 (i : Int) w = _
    unfold ref11_Solve_l8_b
    rw [if_pos (decide_eq_true (show (i : Int) < ((rs.len : Nat) : Int) by omega)), p1, Option.bind_some, if_pos c1, Int.toNat_natCast, Nat.mul_one, p2, Option.bind_some, q1, Option.bind_some, if_pos c2, Int.toNat_natCast, Nat.mul_one, q2, Option.bind_some, e3]
    have hg : Gf.restG R n (d + 1) i = if Gf.E R i n = 0 then Gf.restG R n d (i + 1) else false := rfl
    rw [hg]
    by_cases hz : Gf.E R i n = 0
    · rw [if_neg (by rw [bF_bne]; exact fun e => e hz), if_pos hz]
      exact ih (i + 1) f (by omega) (by omega)
    · rw [if_pos (by rw [bF_bne]; exact hz), if_neg hz, if_neg (by decide)]

theorem solve_out {K : Nat} {rs x7 : Sl} {ss : List Sl} {R : List (List F)} {n B N : Nat} (hn : n ≤ 4096) (hRn : n ≤ R.length) (hR : R.length ≤ 4096) (hxN : ∀ k, x7.blk = some k → N ≤ k) :
    ∀ (d c f : Nat) (w : World) (x : List F), c + d = n → d < f → RowsAt w rs ss R (n + 1) B N → x.length = n → OwnS 5 w x7 (fb x) →
      ∃ w', ref11_Solve_l9 K f (n : Int) rs x7 (c : Int) w = some ((), w') ∧ OwnS 5 w' x7 (fb (x.take c ++ ((List.range n).map fun c => Gf.E R c n).drop c)) ∧ Upd (fun k => x7.blk = some k) w w' := by
  intro d
  induction d with
  | zero =>
    intro c f w x hc hf h hxl hx
    obtain ⟨f, rfl⟩ : ∃ q, f = q + 1 := ⟨f - 1, by omega⟩
    refine ⟨w, ?_, ?_, Upd.refl _ _⟩
    · show ref11_Solve_l9_b K (ref11_Solve_l9 K f) (n : Int) rs x7 (c : Int) w = _
      unfold ref11_Solve_l9_b
      rw [if_neg (by simp only [decide_eq_true_eq]; omega)]
    · rw [List.take_of_length_le (by omega), List.drop_eq_nil_of_le (by simp; omega), List.append_nil]
      exact hx
  | succ d ih =>
    intro c f w x hc hf h hxl hx
    obtain ⟨f, rfl⟩ : ∃ q, f = q + 1 := ⟨f - 1, by omega⟩
    have hcR : c < R.length := by omega
    have hsz := h.size
    have e3 : IntKind.i64.wrap ((c : Int) + 1) = ((c + 1 : Nat) : Int) := by rw [w64 (by omega) (by omega)]; rfl
    obtain ⟨p, p1, p2⟩ := h.ld hcR
    obtain ⟨q, q1, q2⟩ := h.cell hcR (t := n) (by omega)
    have hsl := h.slen hcR
    obtain ⟨z, w1, s1, s2, s3, s4⟩ := own_set hx (i := c) (by omega) (Gf.E R c n)
    have c1 : (0 : Int) ≤ (c : Int) ∧ (c : Int) < ((rs.len : Nat) : Int) := by omega
    have c2 : (0 : Int) ≤ (n : Int) ∧ (n : Int) < (((ss.getD c nilF).len : Nat) : Int) := by omega
    have hxlen : x7.len = n := by rw [hx.len, fb_length, hxl]
    have c3 : (0 : Int) ≤ (c : Int) ∧ (c : Int) < ((x7.len : Nat) : Int) := by omega
    obtain ⟨w2, k1, k2, k3⟩ := ih (c + 1) f w1 _ (by omega) (by omega) (h.upd s4 fun k h1 h2 e => by have := hxN k e; omega) (by rw [List.length_set]; exact hxl) s3
    refine ⟨w2, ?_, ?_, s4.trans' k3 fun _ _ e => e⟩
    · show ref11_Solve_l9_b K (ref11_Solve_l9 K f) (n : Int) rs x7 (c : Int) w = _
      unfold ref11_Solve_l9_b
      rw [if_pos (decide_eq_true (show (c : Int) < (n : Int) by omega)), p1, Option.bind_some, if_pos c1, Int.toNat_natCast, Nat.mul_one, p2, Option.bind_some, q1, Option.bind_some, if_pos c2, Int.toNat_natCast, Nat.mul_one, q2, Option.bind_some, s1, Option.bind_some, if_pos c3, s2, Option.bind_some, e3, k1]
    · have e1 : (x.set c (Gf.E R c n)).take (c + 1) = x.take c ++ [Gf.E R c n] := by
        rw [List.take_succ_eq_append_getElem (by rw [List.length_set]; omega)]
        simp [List.take_set_of_le]
      have e2 : ((List.range n).map fun c => Gf.E R c n).drop c = Gf.E R c n :: ((List.range n).map fun c => Gf.E R c n).drop (c + 1) := by
        rw [List.drop_eq_getElem_cons (by simp; omega)]
        simp
      rw [e1, List.append_assoc] at k2
      rw [e2]
      exact k2

theorem rsolve_ok {K : Nat} (hK : 18446744073709551616 ≤ K) {w : World} {m0 : Sl} {ms : List Sl} {R : List (List F)} {n : Nat} (hm : RowsIn w m0 ms R (n + 1)) (hR0 : 0 < R.length) (hR : R.length ≤ 4096) (hn : n ≤ 4095) (h1 : ∀ k, m0.blk = some k → k < w.heap.size) (h2 : ∀ i, i < R.length → ∀ k, (ms.getD i nilF).blk = some k → k < w.heap.size) :
    ∃ s v w', ref11_Solve K m0 w = some ((s, v, ()), w') ∧ Upd none_ w w' ∧ (match Gf.solve n R with | some y => v = true ∧ OwnS 5 w' s (fb y) ∧ Fresh w.heap.size s ∧ y.length = n | none => v = false) := by
  have hms := hm.size
  obtain ⟨p, p1, p2⟩ := hm.ld hR0
  have hrow := hm.row 0 hR0
  have hsl : (ms.getD 0 nilF).len = n + 1 := by rw [hrow.len, fb_length, hm.rlen 0 hR0]
  obtain ⟨rs, ss, w1, a1, a2, a3⟩ := solve_copy hK (n4 := (n : Int)) hR (by omega) (B := w.heap.size) R.length 0 K w nilF [] (by omega) (by omega) (RowsAt.nil w (n + 1) w.heap.size) (Nat.le_refl _) hm (fun k hk e => by have := h1 k e; omega) (fun i hi k hk e => by have := h2 i hi k e; omega)
  have a1 : ref11_Solve_l0 K K m0 (n : Int) nilF 0 w = some ((rs, ()), w1) := a1
  have q1 := a3.size
  have u1 : Upd none_ w w1 := a3.mono fun k hk e => by omega
  have hl1 := solve_l1 hK (rs := rs) (n := n) (B := w.heap.size) (N := w1.heap.size) (by omega) n 0 K w1 ss R nilF (by omega) (by omega) hR a2 (by omega) (Nat.le_refl _) (OwnS.nil _ _) (fun k hk => by cases hk)
  have c0 : (0 : Int) ≤ 0 ∧ (0 : Int) < ((m0.len : Nat) : Int) := by omega
  have en : IntKind.i64.wrap ((((ms.getD 0 nilF).len : Nat) : Int) - 1) = (n : Int) := by rw [hsl, w64 (by omega) (by omega)]; omega
  have run : ref11_Solve K m0 w = bnd (ref11_Solve_l1 K K (n : Int) rs nilF 0 w1) fun y_78 w_79 =>
  (match y_78 with
  | .norm z_80n => (bnd (ref11_Solve_l8 K K (n : Int) rs z_80n.1 (n : Int) w_79) fun y_85 w_86 =>
  (match y_85 with
  | .norm z_87n => (bnd (ref11_Solve_l9 K K (n : Int) rs z_80n.1 0 w_86) fun y_94 w_95 =>
  some ((z_80n.1, true, ()), w_95))
  | .ret z_87r => (some ((z_87r.1, z_87r.2.1, ()), w_86))))
  | .ret z_80r => (some ((z_80r.1, z_80r.2.1, ()), w_79))) := by
    unfold ref11_Solve
    rw [if_neg (by rw [beq_iff_eq]; omega), p1, Option.bind_some, if_pos c0, Nat.zero_mul]
    have p2' : ldS (p.add 0) w = some (ms.getD 0 nilF) := p2
    rw [p2', Option.bind_some, en, a1, bnd_ok]
    rfl
  rw [run]
  unfold Gf.solve
  cases hs : Gf.solveG R n 0 with
  | none =>
    rw [hs] at hl1
    obtain ⟨w2, b1, b2⟩ := hl1
    have b1 : ref11_Solve_l1 K K (n : Int) rs nilF 0 w1 = _ := b1
    exact ⟨nilF, false, w2, by rw [b1, bnd_ok], u1.trans' b2 fun k hk e => by omega, rfl⟩
  | some R' =>
    rw [hs] at hl1
    obtain ⟨x', ss', w2, b1, b2, b3, b4, b5⟩ := hl1
    have b1 : ref11_Solve_l1 K K (n : Int) rs nilF 0 w1 = _ := b1
    have u2 : Upd none_ w w2 := u1.trans' b5 fun k hk e => by omega
    rw [b1, bnd_ok, Option.bind_some]
    dsimp only
    have hshape : R'.length = R.length ∧ n ≤ R'.length := by
      have : ∀ (d c : Nat) (A A' : List (List F)), c + d = n → (d = 0 → c ≤ A.length) → Gf.solveG A d c = some A' → A'.length = A.length ∧ (0 < d → n ≤ A'.length) := by
        intro d
        induction d with
        | zero => intro c A A' _ _ h; obtain rfl := Option.some.inj h; exact ⟨rfl, fun h => by omega⟩
        | succ d ih =>
          intro c A A' hcd _ h
          have h : (Gf.stepS A c).bind (fun r => Gf.solveG r d (c + 1)) = some A' := h
          unfold Gf.stepS at h
          cases hp : Gf.pivotG A c (A.length - c) c with
          | none => rw [hp] at h; cases h
          | some a =>
            rw [hp, Option.map_some, Option.bind_some] at h
            obtain ⟨x1, x2, _⟩ := Gf.pivot_some _ _ _ hp
            have hEl : (Gf.elimR (Gf.normR (Gf.swapR A c a) c) c).length = A.length := by rw [Gf.elim_length, Gf.norm_length, Gf.swap_length]
            obtain ⟨y1, y2⟩ := ih (c + 1) _ A' (by omega) (fun _ => by rw [hEl]; omega) h
            refine ⟨by rw [y1, hEl], fun _ => ?_⟩
            by_cases hd : d = 0
            · rw [y1, hEl]; omega
            · exact y2 (by omega)
      obtain ⟨y1, y2⟩ := this n 0 R R' (by omega) (fun _ => by omega) hs
      refine ⟨y1, ?_⟩
      by_cases h0 : n = 0
      · omega
      · exact y2 (by omega)
    have h8 := solve_rest (K := K) (x7 := x') (by rw [hshape.1]; exact hR) b2 (R'.length - n) n K (by omega) (by omega)
    rw [h8]
    by_cases hr : Gf.restG R' n (R'.length - n) n = true
    · rw [if_pos hr, if_pos hr, bnd_ok]
      dsimp only
      obtain ⟨w3, c1, c2, c3⟩ := solve_out (K := K) (x7 := x') (by omega) hshape.2 (by rw [hshape.1]; exact hR) b4 n 0 K w2 _ (by omega) (by omega) b2 (List.length_replicate ..) b3
      have c1 : ref11_Solve_l9 K K (n : Int) rs x' 0 w2 = some ((), w3) := c1
      rw [List.take_zero, List.nil_append, List.drop_zero] at c2
      exact ⟨x', true, w3, by rw [c1, bnd_ok], u2.trans' c3 fun k hk e => by have := b4 k e; omega, rfl, c2, fun k hk => by have := b4 k hk; omega, by simp⟩
    · rw [if_neg hr, if_neg hr, bnd_ok]
      exact ⟨nilF, false, w2, rfl, u2, rfl⟩

/-! ### Coded -/

theorem fb_get4 (S : Nat → F) : ∀ {j : Nat}, j < 4 → (fb [S 0, S 1, S 2, S 3])[j]? = some (.int .u8 (bF (S j)))
  | 0, _ => rfl
  | 1, _ => rfl
  | 2, _ => rfl
  | 3, _ => rfl
  | j + 4, h => by omega

theorem rCoded_l0 {K : Nat} (hK : 18446744073709551616 ≤ K) {b ps : Sl} {g : Nat} {e : TypeId} {S : Nat → F} {B : Nat} (hgB : g < B) (hpB : ∀ q, ps.a = some q → q.block < B) :
    ∀ (d j f : Nat) (w : World) (rs : Sl) (ss : List Sl) (R : List (List F)), j + d = 4 → d < f → R.length = j → RowsAt w rs ss R 5 B w.heap.size → B ≤ w.heap.size → Bk e w g (fb [S 0, S 1, S 2, S 3]) → BSrc w ps (powL 255) →
      ∃ rs' ss' w', ref11_Coded_l0 K f b ⟨g, 0, none⟩ ps rs (j : Int) w = some ((rs', ()), w') ∧ RowsAt w' rs' ss' (R ++ (List.range' j d).map (Gf.eqnR S)) 5 B w'.heap.size ∧ Upd (fun k => B ≤ k) w w' := by
  intro d
  induction d with
  | zero =>
    intro j f w rs ss R hj hf hRl h hB hb hp
    obtain ⟨f, rfl⟩ : ∃ q, f = q + 1 := ⟨f - 1, by omega⟩
    refine ⟨rs, ss, w, ?_, by simpa using h, Upd.refl _ _⟩
    show ref11_Coded_l0_b K (ref11_Coded_l0 K f) b ⟨g, 0, none⟩ ps rs (j : Int) w = _
    unfold ref11_Coded_l0_b
    rw [if_neg (by simp only [decide_eq_true_eq]; omega)]
  | succ d ih =>
    intro j f w rs ss R hj hf hRl h hB hb hp
    obtain ⟨f, rfl⟩ : ∃ q, f = q + 1 := ⟨f - 1, by omega⟩
    have hpl : ps.len = 255 := by rw [hp.len, fb_length, powL_length]
    have ud := (Upd.refl none_ w).drew
    have hpw := hp.upd0 ud
    have e3 : IntKind.i64.wrap ((j : Int) + 1) = ((j + 1 : Nat) : Int) := by rw [w64 (by omega) (by omega)]; rfl
    have e33 : IntKind.i64.wrap (3 * (j : Int)) = ((3 * j : Nat) : Int) := by rw [w64 (by omega) (by omega)]; omega
    have e22 : IntKind.i64.wrap (2 * (j : Int)) = ((2 * j : Nat) : Int) := by rw [w64 (by omega) (by omega)]; omega
    obtain ⟨p, p1, p2⟩ := src_cell hpw (i := 3 * j) (by rw [powL_length]; omega)
    obtain ⟨p', p1', p3⟩ := src_cell hpw (i := 2 * j) (by rw [powL_length]; omega)
    obtain ⟨p'', p1'', p4⟩ := src_cell hpw (i := j) (by rw [powL_length]; omega)
    obtain rfl : p' = p := Option.some.inj (p1'.symm.trans p1)
    obtain rfl : p'' = p' := Option.some.inj (p1''.symm.trans p1)
    rw [powL_get (by omega)] at p2 p3 p4
    have hc : ldI .u8 (⟨g, j, none⟩ : Addr) w.drew = some (bF (S j)) := hb.drew.ldI (fb_get4 S (by omega))
    obtain ⟨w2, b1, b2, b3, b4⟩ := bldS_ok sliceB (fb (Gf.eqnR S j)) (fun v hv => by obtain ⟨x, _, rfl⟩ := List.mem_map.1 hv; rfl) (by rw [fb_length]; simp [Gf.eqnR]) (by rw [fb_length]; simp [Gf.eqnR]) w.drew
    have b1 : bldS prog 23 5 #[(0, (.int .u8 (bF (tj (3 * j))))), (1, (.int .u8 (bF (tj (2 * j))))), (2, (.int .u8 (bF (tj j)))), (3, (.int .u8 1)), (4, (.int .u8 (bF (S j))))] w.drew = some (⟨some ⟨w.heap.size, 0, none⟩, 5, 5⟩, w2) := b1
    have b2 : OwnS 5 w2 ⟨some ⟨w.heap.size, 0, none⟩, 5, 5⟩ (fb (Gf.eqnR S j)) := b2
    have u2 : Upd none_ w w2 := b3.predrew
    have q2 := u2.size
    obtain ⟨w3, rs', w4, c2, c3, c4, c5⟩ := (h.upd0 u2).push (by omega) b2 rfl (fun k hk => by have e2 : w.heap.size = k := Option.some.inj hk; omega) q2 hB
    have q4 := c5.size
    have u4 : Upd (fun k => B ≤ k) w w4 := (u2.mono (T := fun k => B ≤ k) fun _ _ e => e.elim).trans' c5 fun k _ e => e.1
    obtain ⟨rs'', ss'', w5, d1, d2, d3⟩ := ih (j + 1) f w4 rs' _ _ (by omega) (by omega) (by rw [List.length_append, hRl]; rfl) c4 (by omega) (hb.upd u4 (by omega)) (src_updF hp u4 fun q hq _ => by have := hpB q hq; omega)
    refine ⟨rs'', ss'', w5, ?_, ?_, u4.trans' d3 fun _ _ e => e⟩
    · have c1 : (0 : Int) ≤ ((3 * j : Nat) : Int) ∧ ((3 * j : Nat) : Int) < ((ps.len : Nat) : Int) := by omega
      have c1b : (0 : Int) ≤ ((2 * j : Nat) : Int) ∧ ((2 * j : Nat) : Int) < ((ps.len : Nat) : Int) := by omega
      have c1c : (0 : Int) ≤ (j : Int) ∧ (j : Int) < ((ps.len : Nat) : Int) := by omega
      have c1d : (0 : Int) ≤ (j : Int) ∧ (j : Int) < ((4 : Nat) : Int) := by omega
      show ref11_Coded_l0_b K (ref11_Coded_l0 K f) b ⟨g, 0, none⟩ ps rs (j : Int) w = _
      unfold ref11_Coded_l0_b
      rw [if_pos (decide_eq_true (show (j : Int) < 4 by omega)), p1, Option.bind_some, e33, if_pos c1, Option.bind_some, e22, if_pos c1b, Option.bind_some, if_pos c1c, if_pos c1d, Int.toNat_natCast, Nat.mul_one, p2, Option.bind_some, Int.toNat_natCast, Nat.mul_one, p3, Option.bind_some, Int.toNat_natCast, Nat.mul_one, p4, Option.bind_some, add_lit, Nat.zero_add, hc, Option.bind_some, b1, bnd_ok]
      dsimp only
      rw [c2, bnd_ok]
      dsimp only
      rw [c3, bnd_ok, e3, d1]
    · have er : (List.range' j (d + 1)).map (Gf.eqnR S) = Gf.eqnR S j :: (List.range' (j + 1) d).map (Gf.eqnR S) := by rw [List.range'_succ, List.map_cons]
      rw [er]
      rw [List.append_assoc] at d2
      exact d2

theorem rCoded_ok {K : Nat} (hK : 18446744073709551616 ≤ K) {w : World} {b : Sl} {l : List F} (hs : BSrc w b l) (hl : l.length ≤ 1073741824) :
    ∃ s' w', ref11_Coded K b w = some ((s', ()), w') ∧ OwnS 5 w' s' (fb (codedP l)) ∧ Upd none_ w w' ∧ Fresh w.heap.size s' := by
  have hbl : b.len = l.length := by rw [hs.len, fb_length]
  have hlt := src_ltF hs
  obtain ⟨w1, a1, a2, a3⟩ := bld0_ok sliceB w
  obtain ⟨s2, w2, b1, b2, b3, b4, b5⟩ := apd_ok sliceB a2 (hs.upd0 a3) (by show (0 + b.len) * 1 ≤ _; omega)
  have b2 : s2.len = l.length := by rw [b2, hbl]; show 0 + l.length = _; omega
  have b3 : OwnS 5 w2 s2 (fb l) := b3
  have q1 := a3.size
  have u2 : Upd none_ w w2 := a3.trans' b4 fun j hj e => by have e2 : w.heap.size = j := Option.some.inj e; omega
  have hf2 : ∀ k, s2.blk = some k → w.heap.size ≤ k := fun k hk => by
    rcases b5 with e | e
    · rw [e] at hk; have e2 : w.heap.size = k := Option.some.inj hk; omega
    · rw [e] at hk; have e2 : w1.heap.size = k := Option.some.inj hk; omega
  obtain ⟨w3, c1, c2, c3, c4⟩ := bldS_ok sliceB (fb [0, 0, 0, 0]) (fun v hv => by obtain ⟨x, _, rfl⟩ := List.mem_map.1 hv; rfl) (by rw [fb_length]; decide) (by rw [fb_length]; decide) w2
  have c1 : bldS prog 23 4 #[(0, (.int .u8 0)), (1, (.int .u8 0)), (2, (.int .u8 0)), (3, (.int .u8 0))] w2 = some (⟨some ⟨w2.heap.size, 0, none⟩, 4, 4⟩, w3) := c1
  have c2 : OwnS 5 w3 ⟨some ⟨w2.heap.size, 0, none⟩, 4, 4⟩ (fb [0, 0, 0, 0]) := c2
  obtain ⟨s4, w4, d1, d2, d3, d4, d5⟩ := apd_ok sliceB (b3.upd0 c3) (c2.src ints_one) (by rw [b2]; show (l.length + 4) * 1 ≤ _; omega)
  rw [← fb_append] at d3
  have q2 := u2.size
  have q3 := c3.size
  have u4 : Upd none_ w w4 := (u2.and0 c3).trans' d4 fun j hj e => by have := hf2 j e; omega
  have q4 := u4.size
  obtain ⟨w5, e1, u5⟩ := rSums_ok hK (d3.src ints_one) (by rw [List.length_append]; show l.length + 4 ≤ _; omega)
  obtain ⟨w6, f1, f2, f3, f4⟩ := newB_ok z153 153 w5
  have f2 : Bk 153 w6 w5.heap.size (fb [0, 0, 0, 0]) := f2
  obtain ⟨w7, g1, g2, g3⟩ := f2.stA (o := 0) (vs := (fb (sumsL (l ++ [0, 0, 0, 0]))).toArray) (by simp [fb, ints, sumsL]) (fun v hv => fb_one _ v hv)
  have g2 : Bk 153 w7 w5.heap.size (fb [sj (l ++ [0, 0, 0, 0]) 0, sj (l ++ [0, 0, 0, 0]) 1, sj (l ++ [0, 0, 0, 0]) 2, sj (l ++ [0, 0, 0, 0]) 3]) := g2
  have q5 := u5.size
  have u7 : Upd none_ w w7 := ((u4.and0 u5).and0 f3).trans' g3 fun j hj e => by omega
  obtain ⟨sp, w8, h1, h2, h3, h4⟩ := rPowers_ok hK w7 (n := 255) (by omega)
  have u8 := u7.and0 h3
  have q7 := u7.size
  have q8 := h3.size
  have hg8 := (g2.upd0 h3)
  obtain ⟨rs, ss, w9, i1, i2, i3⟩ := rCoded_l0 hK (b := b) (S := fun j => sj (l ++ [0, 0, 0, 0]) j) (B := w8.heap.size) hg8.lt (own_lt h2) 4 0 K w8 nilF [] [] (by omega) (by omega) rfl (RowsAt.nil w8 5 w8.heap.size) (Nat.le_refl _) hg8 (h2.src (fb_one _))
  have i1 : ref11_Coded_l0 K K b ⟨w5.heap.size, 0, none⟩ sp nilF 0 w8 = some ((rs, ()), w9) := i1
  have i2 : RowsAt w9 rs ss (Gf.eqnsR fun j => hor (tj j) (l ++ [0, 0, 0, 0])) 5 w8.heap.size w9.heap.size := i2
  have u9 : Upd none_ w w9 := u8.trans' i3 fun j hj e => by omega
  have hEq : (Gf.eqnsR fun j => hor (tj j) (l ++ [0, 0, 0, 0])).length = 4 := rfl
  obtain ⟨sx, v, w10, j1, j2, j3⟩ := rsolve_ok hK (n := 4) i2.into (by rw [hEq]; omega) (by rw [hEq]; omega) (by omega) (fun k hk => (i2.low.1 k hk).2) (fun i hi k hk => (i2.low.2 i hi k hk).2)
  rw [Gf.solve_coded] at j3
  obtain ⟨_, k1, k2, k3⟩ := j3
  have u10 := u9.and0 j2
  have q10 := u10.size
  obtain ⟨w11, l1, l2, l3⟩ := bld0_ok sliceB w10
  obtain ⟨s12, w12, m1, m2, m3, m4, m5⟩ := apd_ok sliceB l2 (hs.upd0 (u10.and0 l3)) (by show (0 + b.len) * 1 ≤ _; omega)
  have m3 : OwnS 5 w12 s12 (fb l) := m3
  have q11 := l3.size
  have u12 : Upd none_ w10 w12 := l3.trans' m4 fun j hj e => by have e2 : w10.heap.size = j := Option.some.inj e; omega
  have hf12 : ∀ k, s12.blk = some k → w10.heap.size ≤ k := fun k hk => by
    rcases m5 with e | e
    · rw [e] at hk; have e2 : w10.heap.size = k := Option.some.inj hk; omega
    · rw [e] at hk; have e2 : w11.heap.size = k := Option.some.inj hk; omega
  have h12l := m3.len
  rw [fb_length] at h12l
  have hsxl := k1.len
  rw [fb_length, k3] at hsxl
  obtain ⟨s13, w13, n1, n2, n3, n4, n5⟩ := apd_ok sliceB m3 ((k1.upd0 u12).src (fb_one _)) (by rw [h12l, hsxl]; omega)
  rw [← fb_append] at n3
  have q12 := u12.size
  refine ⟨s13, w13, ?_, n3, (u10.and0 u12).trans' n4 fun j hj e => by have := hf12 j e; omega, fun j hj => ?_⟩
  · unfold ref11_Coded
    have h1 : ref11_Powers K 255 w7 = some ((sp, ()), w8) := h1
    rw [a1, bnd_ok]
    dsimp only
    rw [b1, bnd_ok, c1, bnd_ok]
    dsimp only
    rw [d1, bnd_ok, e1, bnd_ok, f1, bnd_ok, if_pos (by simp [fb, ints, sumsL]), g1, Option.bind_some, h1, bnd_ok]
    dsimp only
    rw [i1, bnd_ok, j1, bnd_ok, l1, bnd_ok]
    dsimp only
    rw [m1, bnd_ok, n1, bnd_ok]
  · rcases n5 with e | e
    · rw [e] at hj; have := hf12 j hj; omega
    · rw [e] at hj; have e2 : w12.heap.size = j := Option.some.inj hj; omega

end Go.Sh

/- A row put right: the document's way; one place, the table of inverses. -/
set_option linter.unusedVariables false
set_option maxRecDepth 100000
namespace Go.Sh
open Go.Fw Go.Gf Go.RowKit Go.Proofs.Tryd

/-! ### The table of inverses -/

end Go.Sh

/- A row put right: the document's way, whole. -/
set_option linter.unusedVariables false
set_option maxRecDepth 100000
namespace Go.Sh
open Go.Fw Go.Gf Go.RowKit Go.Proofs.Tryd

end Go.Sh

/- Words: what the program and the document write. -/
set_option linter.unusedVariables false
namespace Go.Sh
open Go.Fw Go.Gf Go.RowKit Go.Proofs.Tryd

def letC (k : Nat) : Int := (((str1[k]?).getD 0).toNat : Int)
def letV (k : Nat) : Int := (((str2[k]?).getD 0).toNat : Int)

theorem letC_at {k : Nat} (h : k < 16) : ∃ b : UInt8, str1[k]? = some b ∧ ((b.toNat : Nat) : Int) = letC k := by
  have : k < str1.size := h
  exact ⟨str1[k], getElem?_pos str1 k this, by rw [letC, getElem?_pos str1 k this]; rfl⟩
theorem letV_at {k : Nat} (h : k < 4) : ∃ b : UInt8, str2[k]? = some b ∧ ((b.toNat : Nat) : Int) = letV k := by
  have : k < str2.size := h
  exact ⟨str2[k], getElem?_pos str2 k this, by rw [letV, getElem?_pos str2 k this]; rfl⟩

/-- the letters of a number of sixteen bits -/
def five (v : Nat) : List Int := [letC (v / 4096), letV (v / 1024 % 4), letC (v / 64 % 16), letV (v / 16 % 4), letC (v % 16)]

def wordsL (bs : List Nat) : Nat → Nat → List Int → List Int
  | 0, _, acc => acc
  | d + 1, i, acc => if i + 1 < bs.length then wordsL bs d (i + 2) (acc ++ (if 0 < i then [32] else []) ++ five (bs.getD i 0 * 256 + bs.getD (i + 1) 0)) else acc

theorem b2sQ_of {w : World} {s : Sl} {xs : List Int} (h : RdS .u8 w s xs) : b2sQ prog s.a s.len s.cap w = some (bytesOf xs) := by
  have h1 : b2s prog s.a s.len s.cap w = some (bytesOf xs, w) := b2s_ok h
  unfold b2s at h1
  split at h1
  · rename_i s2 w2 hr
    obtain ⟨rfl, rfl⟩ := Prod.mk.inj (Option.some.inj h1)
    unfold b2sQ
    rw [hr]
    dsimp only
    rw [if_pos rfl]
  · cases h1

theorem five_len (v : Nat) : (five v).length = 5 := rfl

theorem word_v {a b : Nat} (ha : a < 256) (hb : b < 256) : bits .or .i64 (IntKind.i64.wrap ((IntKind.i64.wrap (a : Int)) * 2 ^ 8)) (IntKind.i64.wrap (b : Int)) = ((a * 256 + b : Nat) : Int) := by
  rw [wn64 (by omega), wn64 (by omega)]
  have e : ((a : Nat) : Int) * 2 ^ 8 = ((a * 2 ^ 8 : Nat) : Int) := by simp
  rw [e, wn64 (by omega), or_i64 (by omega) 8 (by decide) (by omega)]

theorem word_w {a b : Nat} (ha : a < 256) (hb : b < 256) : IntKind.i64.wrap ((IntKind.i64.wrap ((IntKind.i64.wrap (a : Int)) * 256)) + (IntKind.i64.wrap (b : Int))) = ((a * 256 + b : Nat) : Int) := by
  rw [wn64 (by omega), wn64 (by omega)]
  have e : ((a : Nat) : Int) * 256 = ((a * 256 : Nat) : Int) := by simp
  rw [e, wn64 (by omega)]
  have e : ((a * 256 : Nat) : Int) + (b : Int) = ((a * 256 + b : Nat) : Int) := by simp
  rw [e, wn64 (by omega)]

theorem Words_space (K B : Nat) {s : Sl} {acc : List Int} {w : World} (i : Nat) (ho : OwnS 5 w s (ints .u8 acc)) (ha : acc.length ≤ 4398046511104) (hB : B ≤ w.heap.size) (hf : Fresh B s) :
    ∃ s' w', escrow_Words_s1 K s (decide ((i : Int) > 0)) w = some ((s', ()), w') ∧ OwnS 5 w' s' (ints .u8 (acc ++ if 0 < i then [32] else [])) ∧ Below B w w' ∧ Fresh B s' := by
  have hl : s.len = acc.length := by rw [ho.len]; simp
  by_cases hi : 0 < i
  · obtain ⟨w1, h1, o1, u1, z1⟩ := bldS_ok sliceB (ints .u8 [32]) (by simp [ints, Value.cells]) (by simp) (by simp) w
    obtain ⟨s2, w2, h2, l2, o2, u2, b2⟩ := apd_ok sliceB (ho.upd0 u1) (o1.src ints_one) (by show (s.len + 1) * 1 ≤ _; omega)
    rw [← ints_append] at o2
    have bl1 : Below B w w1 := u1.below hB fun _ _ => id
    refine ⟨s2, w2, ?_, by simpa [hi] using o2, below_upd bl1 u2 (by omega) fun k hk e => (by have := hf k e; omega), ?_⟩
    · have hd : decide ((i : Int) > 0) = true := by simp; omega
      have h1' : bldS prog 23 1 #[(0, (.int .u8 32))] w = _ := h1
      have h2' : apd prog 23 23 (.slice s.a s.len s.cap) (.slice (some ⟨w.heap.size, 0, none⟩) 1 1) w1 = _ := h2
      unfold escrow_Words_s1
      rw [hd, if_pos rfl, h1', bnd_ok]
      show bnd (apd prog 23 23 (.slice s.a s.len s.cap) (.slice (some ⟨w.heap.size, 0, none⟩) 1 1) w1) _ = _
      rw [h2', bnd_ok]
    · intro k hk
      rcases b2 with e | e
      · exact hf k (e ▸ hk)
      · rw [e] at hk; have := Option.some.inj hk; omega
  · refine ⟨s, w, ?_, by simpa [hi] using ho, Below.refl B w, hf⟩
    have hd : decide ((i : Int) > 0) = false := by simp; omega
    unfold escrow_Words_s1
    rw [hd, if_neg (by decide)]

theorem Words_loop (K B : Nat) {b : Sl} {bs : List Nat} (hb : ∀ x ∈ bs, x < 256) (hs : bs.length ≤ 1099511627776) :
    ∀ (d i n : Nat) (w : World) (s : Sl) (acc : List Int), bs.length ≤ i + d → i ≤ bs.length + 1 → d + 1 < n → RdS .u8 w b (bs.map Int.ofNat) → (∀ p, b.a = some p → p.block < B) → OwnS 5 w s (ints .u8 acc) → acc.length ≤ 3 * i → B ≤ w.heap.size → Fresh B s →
      ∃ s' w', escrow_Words_l0 K n b s (i : Int) w = some ((s', ()), w') ∧ OwnS 5 w' s' (ints .u8 (wordsL bs (d + 1) i acc)) ∧ Below B w w' := by
  intro d
  induction d using Nat.strongRecOn with
  | _ d ih =>
  intro i n w s acc hd hib hn hr hp ho ha hB hf
  obtain ⟨n, rfl⟩ : ∃ m, n = m + 1 := ⟨n - 1, by omega⟩
  have hlen : (bs.map Int.ofNat).length = bs.length := List.length_map ..
  have hw1 : IntKind.i64.wrap ((i : Int) + 1) = ((i + 1 : Nat) : Int) := by rw [w64 (by omega) (by omega)]; rfl
  have hw2 : IntKind.i64.wrap ((i : Int) + 2) = ((i + 2 : Nat) : Int) := by rw [w64 (by omega) (by omega)]; rfl
  by_cases hc : i + 1 < bs.length
  · have i1 : i < bs.length := by omega
    obtain ⟨s1, w1, h1, o1, bl1, hf1⟩ := Words_space K B i ho (by omega) hB hf
    have hr1 := (hr.belowB bl1 hp).drew
    obtain ⟨p, hpa, hpl⟩ := hr1.ld
    have hne : bs.map Int.ofNat ≠ [] := by intro e; have := congrArg List.length e; simp at this; subst this; simp at i1
    have hA : bs[i] < 256 := hb _ (List.getElem_mem i1)
    have hC : bs[i + 1] < 256 := hb _ (List.getElem_mem hc)
    have l1 : ldI .u8 (p.add i) w1.drew = some ((bs[i] : Nat) : Int) := by have := hpl i (by omega); simpa using this
    have l2 : ldI .u8 (p.add (i + 1)) w1.drew = some ((bs[i + 1] : Nat) : Int) := by have := hpl (i + 1) (by omega); simpa using this
    have hv : bs.getD i 0 * 256 + bs.getD (i + 1) 0 = bs[i] * 256 + bs[i + 1] := by
      rw [List.getD_eq_getElem?_getD, List.getD_eq_getElem?_getD, List.getElem?_eq_getElem i1, List.getElem?_eq_getElem hc]; rfl
    obtain ⟨v, hvv⟩ : ∃ v, bs[i] * 256 + bs[i + 1] = v := ⟨_, rfl⟩
    rw [hvv] at hv
    have hv16 : v < 65536 := by omega
    obtain ⟨c1, e1, d1⟩ := letC_at (k := v / 2 ^ 12) (by omega)
    obtain ⟨c2, e2, d2⟩ := letV_at (k := v / 2 ^ 10 % 4) (by omega)
    obtain ⟨c3, e3, d3⟩ := letC_at (k := v / 2 ^ 6 % 16) (by omega)
    obtain ⟨c4, e4, d4⟩ := letV_at (k := v / 2 ^ 4 % 4) (by omega)
    obtain ⟨c5, e5, d5⟩ := letC_at (k := v % 16) (by omega)
    obtain ⟨w2, h2, o2, u2, z2⟩ := bldS_ok sliceB (ints .u8 (five v)) (by simp [ints, five, Value.cells]) (by simp [five]) (by simp [five]) w1.drew.drew
    have hl1 : s1.len ≤ acc.length + 1 := by rw [o1.len]; simp; split <;> simp
    obtain ⟨s3, w3, h3, l3, o3, u3, b3⟩ := apd_ok sliceB (o1.drew.drew.upd0 u2) (o2.src ints_one) (by show (s1.len + 5) * 1 ≤ _; omega)
    rw [← ints_append] at o3
    have bl2 : Below B w w2 := bl1.trans ((Below.refl B w1).drew.drew.trans (u2.below (by have := bl1.size; exact Nat.le_trans hB this) fun _ _ => id))
    have bl3 : Below B w w3 := below_upd bl2 u3 (by have := bl2.size; omega) fun k hk e => (by have := hf1 k e; omega)
    have hf3 : Fresh B s3 := by
      intro k hk
      rcases b3 with e | e
      · exact hf1 k (e ▸ hk)
      · rw [e] at hk; have := Option.some.inj hk; have := bl2.size; omega
    obtain ⟨d', rfl⟩ : ∃ m, d = m + 1 := ⟨d - 1, by omega⟩
    obtain ⟨s4, w4, h4, o4, bl4⟩ := ih d' (by omega) (i + 2) n w3 s3 (acc ++ (if 0 < i then [32] else []) ++ five v) (by omega) (by omega) (by omega) (hr.belowB bl3 hp) hp o3
      (by simp [five_len]; split <;> simp <;> omega) (by have := bl3.size; omega) hf3
    refine ⟨s4, w4, ?_, ?_, bl3.trans bl4⟩
    · show escrow_Words_l0_b K (escrow_Words_l0 K n) b s (i : Int) w = _
      unfold escrow_Words_l0_b
      have k1 : decide (((i + 1 : Nat) : Int) < ((bs.length : Nat) : Int)) = true := by simp; omega
      have k2 : (0 : Int) ≤ (i : Int) ∧ (i : Int) < ((bs.length : Nat) : Int) := by omega
      have k3 : (0 : Int) ≤ ((i + 1 : Nat) : Int) ∧ ((i + 1 : Nat) : Int) < ((bs.length : Nat) : Int) := by omega
      have h2' : bldS prog 23 5 #[(0, (.int .u8 (letC (v / 2 ^ 12)))), (1, (.int .u8 (letV (v / 2 ^ 10 % 4)))), (2, (.int .u8 (letC (v / 2 ^ 6 % 16)))), (3, (.int .u8 (letV (v / 2 ^ 4 % 4)))), (4, (.int .u8 (letC (v % 16))))] w1.drew.drew = _ := h2
      have h3' : apd prog 23 23 (.slice s1.a s1.len s1.cap) (.slice (some ⟨w1.drew.drew.heap.size, 0, none⟩) 5 5) w2 = _ := h3
      rw [hw1, hr.len, hlen, k1, if_pos rfl, h1, bnd_ok, hpa hne, Option.bind_some, if_pos k2, Option.bind_some, if_pos k3]
      simp only [Int.toNat_natCast, Nat.mul_one, l1, l2, Option.bind_some, word_v hA hC, hvv, fdiv_pow]
      rw [and3_i64 (by omega), and15_i64 (by omega), and3_i64 (by omega), and15_i64 (by omega)]
      simp only [Int.toNat_natCast, e1, e2, e3, e4, e5, Option.bind_some, d1, d2, d3, d4, d5, Int.natCast_nonneg, if_true]
      rw [h2', bnd_ok]
      show bnd (apd prog 23 23 (.slice s1.a s1.len s1.cap) (.slice (some ⟨w1.drew.drew.heap.size, 0, none⟩) 5 5) w2) _ = _
      rw [h3', bnd_ok, hw2, h4]
    · rw [wordsL, if_pos hc, hv]; exact o4
  · refine ⟨s, w, ?_, ?_, Below.refl B w⟩
    · show escrow_Words_l0_b K (escrow_Words_l0 K n) b s (i : Int) w = _
      unfold escrow_Words_l0_b
      rw [hw1, hr.len, hlen, if_neg (by simp; omega)]
    · simp only [wordsL, hc, if_false]; exact ho

theorem ref_space (K : Nat) {acc : List Int} {w : World} (i : Nat) (ha : acc.length ≤ 4398046511104) :
    ref11_Words_s1 K (bytesOf acc) (decide ((i : Int) > 0)) w = some ((bytesOf (acc ++ if 0 < i then [32] else []), ()), w) := by
  by_cases hi : 0 < i
  · have hd : decide ((i : Int) > 0) = true := by simp; omega
    have h3 : str3 = bytesOf [32] := rfl
    unfold ref11_Words_s1
    rw [hd, if_pos rfl, h3, if_pos (by rw [bytesOf_size, bytesOf_size]; simp; omega), ← bytesOf_append]
    simp [hi]
  · have hd : decide ((i : Int) > 0) = false := by simp; omega
    unfold ref11_Words_s1
    rw [hd, if_neg (by decide)]
    simp [hi]

theorem ref_loop (K : Nat) {b : Sl} {bs : List Nat} (hb : ∀ x ∈ bs, x < 256) (hs : bs.length ≤ 1099511627776) :
    ∀ (d i n : Nat) (w : World) (acc : List Int), bs.length ≤ i + d → i ≤ bs.length + 1 → d + 1 < n → RdS .u8 w b (bs.map Int.ofNat) → acc.length ≤ 3 * i →
      ∃ w', ref11_Words_l0 K n b (bytesOf acc) (i : Int) w = some ((bytesOf (wordsL bs (d + 1) i acc), ()), w') ∧ Upd none_ w w' := by
  intro d
  induction d using Nat.strongRecOn with
  | _ d ih =>
  intro i n w acc hd hib hn hr ha
  obtain ⟨n, rfl⟩ : ∃ m, n = m + 1 := ⟨n - 1, by omega⟩
  have hlen : (bs.map Int.ofNat).length = bs.length := List.length_map ..
  have hw1 : IntKind.i64.wrap ((i : Int) + 1) = ((i + 1 : Nat) : Int) := by rw [w64 (by omega) (by omega)]; rfl
  have hw2 : IntKind.i64.wrap ((i : Int) + 2) = ((i + 2 : Nat) : Int) := by rw [w64 (by omega) (by omega)]; rfl
  by_cases hc : i + 1 < bs.length
  · have i1 : i < bs.length := by omega
    have hr1 := hr.drew
    obtain ⟨p, hpa, hpl⟩ := hr1.ld
    have hne : bs.map Int.ofNat ≠ [] := by intro e; have := congrArg List.length e; simp at this; subst this; simp at i1
    have hA : bs[i] < 256 := hb _ (List.getElem_mem i1)
    have hC : bs[i + 1] < 256 := hb _ (List.getElem_mem hc)
    have l1 : ldI .u8 (p.add i) w.drew = some ((bs[i] : Nat) : Int) := by have := hpl i (by omega); simpa using this
    have l2 : ldI .u8 (p.add (i + 1)) w.drew = some ((bs[i + 1] : Nat) : Int) := by have := hpl (i + 1) (by omega); simpa using this
    have hv : bs.getD i 0 * 256 + bs.getD (i + 1) 0 = bs[i] * 256 + bs[i + 1] := by
      rw [List.getD_eq_getElem?_getD, List.getD_eq_getElem?_getD, List.getElem?_eq_getElem i1, List.getElem?_eq_getElem hc]; rfl
    obtain ⟨v, hvv⟩ : ∃ v, bs[i] * 256 + bs[i + 1] = v := ⟨_, rfl⟩
    rw [hvv] at hv
    have hv16 : v < 65536 := by omega
    obtain ⟨c1, e1, d1⟩ := letC_at (k := v / 4096) (by omega)
    obtain ⟨c2, e2, d2⟩ := letV_at (k := v / 1024 % 4) (by omega)
    obtain ⟨c3, e3, d3⟩ := letC_at (k := v / 64 % 16) (by omega)
    obtain ⟨c4, e4, d4⟩ := letV_at (k := v / 16 % 4) (by omega)
    obtain ⟨c5, e5, d5⟩ := letC_at (k := v % 16) (by omega)
    obtain ⟨w2, h2, o2, u2, z2⟩ := bldS_ok sliceB (ints .u8 (five v)) (by simp [ints, five, Value.cells]) (by simp [five]) (by simp [five]) w.drew.drew
    have hal : (acc ++ if 0 < i then [32] else [] : List Int).length ≤ acc.length + 1 := by split <;> simp
    obtain ⟨d', rfl⟩ : ∃ m, d = m + 1 := ⟨d - 1, by omega⟩
    obtain ⟨w4, h4, u4⟩ := ih d' (by omega) (i + 2) n w2 (acc ++ (if 0 < i then [32] else []) ++ five v) (by omega) (by omega) (by omega) (hr.drew.drew.upd0 u2)
      (by simp [five_len]; split <;> simp <;> omega)
    refine ⟨w4, ?_, u2.predrew.predrew.and0 u4⟩
    · show ref11_Words_l0_b K (ref11_Words_l0 K n) b (bytesOf acc) (i : Int) w = _
      unfold ref11_Words_l0_b
      have k1 : decide (((i + 1 : Nat) : Int) < ((bs.length : Nat) : Int)) = true := by simp; omega
      have k2 : (0 : Int) ≤ (i : Int) ∧ (i : Int) < ((bs.length : Nat) : Int) := by omega
      have k3 : (0 : Int) ≤ ((i + 1 : Nat) : Int) ∧ ((i + 1 : Nat) : Int) < ((bs.length : Nat) : Int) := by omega
      have h2' : bldS prog 23 5 #[(0, (.int .u8 (letC (v / 4096)))), (1, (.int .u8 (letV (v / 1024 % 4)))), (2, (.int .u8 (letC (v / 64 % 16)))), (3, (.int .u8 (letV (v / 16 % 4)))), (4, (.int .u8 (letC (v % 16))))] w.drew.drew = _ := h2
      have t1 : Int.tdiv (v : Int) 4096 = ((v / 4096 : Nat) : Int) := tdiv_nat v 4096
      have t2 : Int.tdiv (v : Int) 1024 = ((v / 1024 : Nat) : Int) := tdiv_nat v 1024
      have t3 : Int.tdiv (v : Int) 64 = ((v / 64 : Nat) : Int) := tdiv_nat v 64
      have t4 : Int.tdiv (v : Int) 16 = ((v / 16 : Nat) : Int) := tdiv_nat v 16
      have m2 : Int.tmod ((v / 1024 : Nat) : Int) 4 = ((v / 1024 % 4 : Nat) : Int) := tmod_nat (v / 1024) 4
      have m3 : Int.tmod ((v / 64 : Nat) : Int) 16 = ((v / 64 % 16 : Nat) : Int) := tmod_nat (v / 64) 16
      have m4 : Int.tmod ((v / 16 : Nat) : Int) 4 = ((v / 16 % 4 : Nat) : Int) := tmod_nat (v / 16) 4
      have m5 : Int.tmod (v : Int) 16 = ((v % 16 : Nat) : Int) := tmod_nat v 16
      have n1 : IntKind.i64.wrap ((v / 4096 : Nat) : Int) = ((v / 4096 : Nat) : Int) := wn64 (by omega)
      have n2 : IntKind.i64.wrap ((v / 1024 : Nat) : Int) = ((v / 1024 : Nat) : Int) := wn64 (by omega)
      have n3 : IntKind.i64.wrap ((v / 64 : Nat) : Int) = ((v / 64 : Nat) : Int) := wn64 (by omega)
      have n4 : IntKind.i64.wrap ((v / 16 : Nat) : Int) = ((v / 16 : Nat) : Int) := wn64 (by omega)
      rw [hw1, hr.len, hlen, k1, if_pos rfl, hpa hne, Option.bind_some, if_pos k2, Option.bind_some, if_pos k3]
      simp only [Int.toNat_natCast, Nat.mul_one, l1, l2, Option.bind_some, word_w hA hC, hvv]
      simp only [t1, t2, t3, t4, n1, n2, n3, n4, m2, m3, m4, m5, Int.toNat_natCast, e1, e2, e3, e4, e5, Option.bind_some, d1, d2, d3, d4, d5, Int.natCast_nonneg, if_true]
      rw [h2', bnd_ok, ref_space K i (by omega), bnd_ok]
      dsimp only
      have hb5 := b2sQ_of o2.rd
      dsimp only at hb5
      rw [hb5, Option.bind_some, if_pos (by rw [bytesOf_size, bytesOf_size, five_len]; omega)]
      have hW : wordsL bs (d' + 1 + 1) i acc = wordsL bs (d' + 1) (i + 2) (acc ++ (if 0 < i then [32] else []) ++ five v) := by rw [wordsL, if_pos hc, hv]
      rw [← bytesOf_append, hw2, h4, hW]
  · refine ⟨w, ?_, Upd.refl _ w⟩
    show ref11_Words_l0_b K (ref11_Words_l0 K n) b (bytesOf acc) (i : Int) w = _
    unfold ref11_Words_l0_b
    rw [hw1, hr.len, hlen, if_neg (by simp; omega)]
    simp only [wordsL, hc, if_false]


/-- the words of bytes -/
def textOf (l : List F) : ByteArray := bytesOf (wordsL (l.map F.n) (l.length + 1) 0 [])

theorem map_bF_nat (l : List F) : l.map bF = (l.map F.n).map Int.ofNat := by rw [List.map_map]; rfl

theorem Words_ok {K : Nat} (hK : 18446744073709551616 ≤ K) {w : World} {b : Sl} {l : List F} (hs : BSrc w b l) (hl : l.length ≤ 1099511627776) (hlt : ∀ q, b.a = some q → q.block < w.heap.size) :
    ∃ w', escrow_Words K b w = some ((textOf l, ()), w') ∧ Upd none_ w w' := by
  have hr : RdS .u8 w b ((l.map F.n).map Int.ofNat) := by rw [← map_bF_nat]; exact hs.rds
  obtain ⟨s2, w2, h2, o2, bl2⟩ := Words_loop K w.heap.size (bs := l.map F.n) (fun x hx => by obtain ⟨a, _, rfl⟩ := List.mem_map.1 hx; exact a.lt) (by rw [List.length_map]; exact hl) l.length 0 K w ⟨none, 0, 0⟩ [] (by rw [List.length_map]; omega) (by omega) (by omega) hr hlt (OwnS.nil _ _) (by simp) (Nat.le_refl _) (fun k hk => by cases hk)
  have h2 : escrow_Words_l0 K K b ⟨none, 0, 0⟩ 0 w = some ((s2, ()), w2) := h2
  refine ⟨w2, ?_, Upd.of_below bl2⟩
  unfold escrow_Words
  rw [h2, bnd_ok]
  dsimp only
  rw [b2sQ_of o2.rd, Option.bind_some]
  rfl

theorem rWords_ok {K : Nat} (hK : 18446744073709551616 ≤ K) {w : World} {b : Sl} {l : List F} (hs : BSrc w b l) (hl : l.length ≤ 1099511627776) :
    ∃ w', ref11_Words K b w = some ((textOf l, ()), w') ∧ Upd none_ w w' := by
  have hr : RdS .u8 w b ((l.map F.n).map Int.ofNat) := by rw [← map_bF_nat]; exact hs.rds
  obtain ⟨w2, h2, u2⟩ := ref_loop K (bs := l.map F.n) (fun x hx => by obtain ⟨a, _, rfl⟩ := List.mem_map.1 hx; exact a.lt) (by rw [List.length_map]; exact hl) l.length 0 K w [] (by rw [List.length_map]; omega) (by omega) (by omega) hr (by simp)
  have h2 : ref11_Words_l0 K K b str0 0 w = some ((textOf l, ()), w2) := h2
  refine ⟨w2, ?_, u2⟩
  unfold ref11_Words
  rw [h2, bnd_ok]

end Go.Sh

/- Letters: what a word is worth. -/
set_option linter.unusedVariables false
set_option maxRecDepth 100000
namespace Go.Sh
open Go.Fw Go.Gf Go.RowKit Go.Proofs.Tryd

/-! ### Letters of the document -/

end Go.Sh

/- A text read: the program. -/
set_option linter.unusedVariables false
set_option maxRecDepth 100000
namespace Go.Sh
open Go.Fw Go.Gf Go.RowKit Go.Proofs.Tryd

structure UW (w : World) (go gw gk B : Nat) (so sw : Sl) (O : List F) (wd : List Nat) : Prop where
  bo : Bk 23 w go [slF so]
  bw : Bk 23 w gw [slF sw]
  bk : Bk 4 w gk [.bool true]
  oo : OwnS 5 w so (fb O)
  ow : OwnS 5 w sw (ints .u8 (wd.map Int.ofNat))
  wb : ∀ c ∈ wd, c < 256
  sep : ∀ k, so.blk = some k → sw.blk ≠ some k
  d : go ≠ gw ∧ go ≠ gk ∧ gw ≠ gk
  so1 : ∀ k, so.blk = some k → B ≤ k ∧ k ≠ go ∧ k ≠ gw ∧ k ≠ gk
  sw1 : ∀ k, sw.blk = some k → B ≤ k ∧ k ≠ go ∧ k ≠ gw ∧ k ≠ gk
  low : B ≤ go ∧ B ≤ gw ∧ B ≤ gk
  lenO : O.length ≤ 1000000
  lenW : wd.length ≤ 1000000

end Go.Sh

/- A text read: the document. -/
set_option linter.unusedVariables false
set_option maxRecDepth 100000
namespace Go.Sh
open Go.Fw Go.Gf Go.RowKit Go.Proofs.Tryd

end Go.Sh

/- A share that is read out of bytes: the program, the document. -/
set_option linter.unusedVariables false
set_option maxRecDepth 100000
namespace Go.Sh
open Go.Fw Go.Gf Go.RowKit Go.Proofs.Tryd

/-- a share's cells -/
def shL (s need idx size : Nat) : List Value := [.int .u16 (s : Int), .int .i64 (need : Int), .int .i64 (idx : Int), .int .i64 (size : Int)]
theorem built84 (a b c d : Int) : prog.built 84 [(0, (.int .u16 a)), (1, (.int .i64 b)), (2, (.int .i64 c)), (3, (.int .i64 d))] = some #[.int .u16 a, .int .i64 b, .int .i64 c, .int .i64 d] := by kernel_rfl
theorem wrap_u16F (n : Int) : IntKind.u16.wrap n = n % 65536 := by simp [IntKind.wrap, IntKind.bits, IntKind.signed]
end Go.Sh

/- A share that is read out of bytes, whole. -/
set_option linter.unusedVariables false
set_option maxRecDepth 100000
namespace Go.Sh
open Go.Fw Go.Gf Go.RowKit Go.Proofs.Tryd

theorem sh_lds {e : TypeId} {w : World} {g : Nat} {s n i z : Nat} {tl : List Value} (b : Bk e w g (shL s n i z ++ tl)) :
    ldI .u16 (⟨g, 0, none⟩ : Addr) w = some (s : Int) ∧ ldI .i64 (⟨g, 1, none⟩ : Addr) w = some (n : Int) ∧ ldI .i64 (⟨g, 2, none⟩ : Addr) w = some (i : Int) ∧ ldI .i64 (⟨g, 3, none⟩ : Addr) w = some (z : Int) :=
  ⟨b.ldI rfl, b.ldI rfl, b.ldI rfl, b.ldI rfl⟩

end Go.Sh

/- The document's Fits; a share's bytes. -/
set_option linter.unusedVariables false
set_option maxRecDepth 100000
namespace Go.Sh
open Go.Fw Go.Gf Go.RowKit Go.Proofs.Tryd

/-! ### A share's bytes -/

def b8 (n : Nat) : F := ⟨n % 256, Nat.mod_lt _ (by decide)⟩
def bytes5 (s need idx size : Nat) : List F := [b8 (s / 256), b8 s, b8 need, b8 idx, b8 size]
def padL (l : List F) : List F := if l.length % 2 = 1 then l ++ [0] else l
def lineL (s need idx size : Nat) (vals : List F) : List F := codedP (padL (bytes5 s need idx size ++ vals))

theorem b8_i64 {n : Nat} : IntKind.u8.wrap (n : Int) = bF (b8 n) := by rw [IntKind.wrap_u8]; rfl

theorem pad_len (l : List F) : (padL l).length ≤ l.length + 1 := by unfold padL; split <;> simp

theorem bytes_tail {K : Nat} (hK : 18446744073709551616 ≤ K) {w w0 : World} {sv : Sl} {vals : List F} {s need idx size : Nat} (hs : s < 65536) (hv : BSrc w sv vals) (hvl : vals.length ≤ 1000000) :
    ∃ w1 s2 w2, bldS prog 23 5 #[(0, (.int .u8 (bF (b8 (s / 256))))), (1, (.int .u8 (bF (b8 s)))), (2, (.int .u8 (bF (b8 need)))), (3, (.int .u8 (bF (b8 idx)))), (4, (.int .u8 (bF (b8 size))))] w = some (⟨some ⟨w.heap.size, 0, none⟩, 5, 5⟩, w1) ∧
      apd prog 23 23 (.slice (some ⟨w.heap.size, 0, none⟩) 5 5) (.slice sv.a sv.len sv.cap) w1 = some (s2, w2) ∧ OwnS 5 w2 s2 (fb (bytes5 s need idx size ++ vals)) ∧ Upd none_ w w2 ∧ Fresh w.heap.size s2 ∧ s2.len = 5 + vals.length := by
  obtain ⟨w1, a1, a2, a3, a4⟩ := bldS_ok sliceB (fb (bytes5 s need idx size)) (fun v hv => by obtain ⟨x, _, rfl⟩ := List.mem_map.1 hv; rfl) (by rw [fb_length]; simp [bytes5]) (by rw [fb_length]; simp [bytes5]) w
  have a1 : bldS prog 23 5 #[(0, (.int .u8 (bF (b8 (s / 256))))), (1, (.int .u8 (bF (b8 s)))), (2, (.int .u8 (bF (b8 need)))), (3, (.int .u8 (bF (b8 idx)))), (4, (.int .u8 (bF (b8 size))))] w = some (⟨some ⟨w.heap.size, 0, none⟩, 5, 5⟩, w1) := a1
  have a2 : OwnS 5 w1 ⟨some ⟨w.heap.size, 0, none⟩, 5, 5⟩ (fb (bytes5 s need idx size)) := a2
  have hsl : sv.len = vals.length := by rw [hv.len, fb_length]
  obtain ⟨s2, w2, b1, b2, b3, b4, b5⟩ := apd_ok sliceB a2 (hv.upd0 a3) (by show (5 + sv.len) * 1 ≤ _; omega)
  rw [← fb_append] at b3
  have q1 := a3.size
  refine ⟨w1, s2, w2, a1, b1, b3, a3.trans' b4 fun j hj e => by have e2 : w.heap.size = j := Option.some.inj e; omega, fun k hk => ?_, by rw [b2, hsl]⟩
  rcases b5 with e | e
  · rw [e] at hk; have e2 : w.heap.size = k := Option.some.inj hk; omega
  · rw [e] at hk; have e2 : w1.heap.size = k := Option.some.inj hk; omega

theorem shareBytes_ok {K : Nat} (hK : 18446744073709551616 ≤ K) {w : World} {sv : Sl} {vals : List F} {s need idx size : Nat} (hs : s < 65536) (hv : BSrc w sv vals) (hvl : vals.length ≤ 1000000) :
    ∃ s' w', escrow_share_bytes K (shL s need idx size ++ [slF sv]).toArray w = some ((s', ()), w') ∧ OwnS 5 w' s' (fb (lineL s need idx size vals)) ∧ Upd none_ w w' ∧ Fresh w.heap.size s' := by
  obtain ⟨w1, a1, a2, a3, a4⟩ := newB_ok (shL s need idx size ++ [slF sv]).toArray 102 w
  have a2 : Bk 102 w1 w.heap.size (shL s need idx size ++ [slF sv]) := a2
  obtain ⟨l0, l1, l2, l3⟩ := sh_lds a2
  have q1 := a3.size
  obtain ⟨w2, s3, w3, b1, b2, b3, b4, b5, b6⟩ := bytes_tail hK (w0 := w) (s := s) (need := need) (idx := idx) (size := size) hs (hv.upd0 a3) hvl
  have e1 : IntKind.u8.wrap (Int.fdiv (s : Int) (2 ^ 8)) = bF (b8 (s / 256)) := by
    have : Int.fdiv (s : Int) (2 ^ 8) = ((s / 256 : Nat) : Int) := fdiv_pow s 8
    rw [this, b8_i64]
  have u12 : Upd none_ w1 w2 := by
    obtain ⟨w2', x1, x2, x3, x4⟩ := bldS_ok sliceB (fb (bytes5 s need idx size)) (fun v hv => by obtain ⟨x, _, rfl⟩ := List.mem_map.1 hv; rfl) (by rw [fb_length]; simp [bytes5]) (by rw [fb_length]; simp [bytes5]) w1
    have x1 : bldS prog 23 5 #[(0, (.int .u8 (bF (b8 (s / 256))))), (1, (.int .u8 (bF (b8 s)))), (2, (.int .u8 (bF (b8 need)))), (3, (.int .u8 (bF (b8 idx)))), (4, (.int .u8 (bF (b8 size))))] w1 = some (_, w2') := x1
    rw [b1] at x1
    obtain ⟨_, rfl⟩ := Prod.mk.inj (Option.some.inj x1)
    exact x3
  have l4 := (a2.upd0 u12).ldS (i := 4) (a := sv.a) (l := sv.len) (c := sv.cap) rfl
  have u3 := a3.and0 b4
  have hsum : (bytes5 s need idx size ++ vals).length = 5 + vals.length := by rw [List.length_append]; rfl
  have hm : Int.tmod ((s3.len : Nat) : Int) 2 = (((5 + vals.length) % 2 : Nat) : Int) := by rw [b6]; rfl
  unfold escrow_share_bytes
  rw [a1, bnd_ok]
  simp only [add_lit, Nat.zero_add, l0, l1, l2, l3, Option.bind_some, e1, b8_i64]
  rw [b1, bnd_ok, l4, Option.bind_some]
  dsimp only
  rw [b2, bnd_ok, hm]
  by_cases hp : (5 + vals.length) % 2 = 1
  · have hpl : padL (bytes5 s need idx size ++ vals) = bytes5 s need idx size ++ vals ++ [0] := by unfold padL; rw [hsum, if_pos hp]
    obtain ⟨w4, s5, w5, c1, c2, c3, c4, c5⟩ := push_fb b3 (by rw [hsum]; omega) 0
    have c1 : bldS prog 23 1 #[(0, (.int .u8 0))] w3 = some (⟨some ⟨w3.heap.size, 0, none⟩, 1, 1⟩, w4) := c1
    have q3 := u3.size
    obtain ⟨s6, w6, d1, d2, d3, d4⟩ := coded_ok hK (c3.src (fb_one _)) (by rw [List.length_append, hsum]; show 5 + vals.length + 1 ≤ _; omega)
    have q5 := c4.size
    refine ⟨s6, w6, ?_, by unfold lineL; rw [hpl]; exact d2, (u3.trans' c4 fun k hk e => by have := b5 k e; omega).and0 d3, fun k hk => by have := d4 k hk; omega⟩
    rw [if_pos (by rw [hp]; rfl), c1, bnd_ok]
    dsimp only
    rw [c2, bnd_ok, d1, bnd_ok]
  · have hpl : padL (bytes5 s need idx size ++ vals) = bytes5 s need idx size ++ vals := by unfold padL; rw [hsum, if_neg hp]
    obtain ⟨s6, w6, d1, d2, d3, d4⟩ := coded_ok hK (b3.src (fb_one _)) (by rw [hsum]; omega)
    have q3 := u3.size
    refine ⟨s6, w6, ?_, by unfold lineL; rw [hpl]; exact d2, u3.and0 d3, fun k hk => by have := d4 k hk; omega⟩
    rw [if_neg (by rw [beq_iff_eq]; omega), d1, bnd_ok]

theorem rBytes_ok {K : Nat} (hK : 18446744073709551616 ≤ K) {w : World} {sv : Sl} {vals : List F} {s need idx size : Nat} (hs : s < 65536) (hv : BSrc w sv vals) (hvl : vals.length ≤ 1000000) :
    ∃ s' w', ref11_Bytes K (shL s need idx size).toArray sv w = some ((s', ()), w') ∧ OwnS 5 w' s' (fb (lineL s need idx size vals)) ∧ Upd none_ w w' ∧ Fresh w.heap.size s' := by
  obtain ⟨w1, a1, a2, a3, a4⟩ := newB_ok (shL s need idx size).toArray 84 w
  have a2 : Bk 84 w1 w.heap.size (shL s need idx size ++ []) := by rw [List.append_nil]; exact a2
  obtain ⟨l0, l1, l2, l3⟩ := sh_lds a2
  have q1 := a3.size
  obtain ⟨w2, s3, w3, b1, b2, b3, b4, b5, b6⟩ := bytes_tail hK (w0 := w) (s := s) (need := need) (idx := idx) (size := size) hs (hv.upd0 a3) hvl
  have e1 : IntKind.u8.wrap (IntKind.u16.wrap (Int.tdiv (s : Int) 256)) = bF (b8 (s / 256)) := by
    have : Int.tdiv (s : Int) 256 = ((s / 256 : Nat) : Int) := rfl
    have e : IntKind.u16.wrap ((s / 256 : Nat) : Int) = ((s / 256 : Nat) : Int) := by rw [wrap_u16F]; omega
    rw [this, e, b8_i64]
  have e1' : IntKind.u8.wrap (Int.tmod (s : Int) 256) = bF (b8 s) := by
    have : Int.tmod (s : Int) 256 = ((s % 256 : Nat) : Int) := rfl
    rw [this, b8_i64]
    unfold b8 bF
    simp
  have u3 := a3.and0 b4
  have hsum : (bytes5 s need idx size ++ vals).length = 5 + vals.length := by rw [List.length_append]; rfl
  have hm : Int.tmod ((s3.len : Nat) : Int) 2 = (((5 + vals.length) % 2 : Nat) : Int) := by rw [b6]; rfl
  unfold ref11_Bytes
  rw [a1, bnd_ok]
  simp only [add_lit, Nat.zero_add, l0, l1, l2, l3, Option.bind_some, e1, e1', b8_i64]
  rw [b1, bnd_ok]
  dsimp only
  rw [b2, bnd_ok, hm]
  by_cases hp : (5 + vals.length) % 2 = 1
  · have hpl : padL (bytes5 s need idx size ++ vals) = bytes5 s need idx size ++ vals ++ [0] := by unfold padL; rw [hsum, if_pos hp]
    obtain ⟨w4, s5, w5, c1, c2, c3, c4, c5⟩ := push_fb b3 (by rw [hsum]; omega) 0
    have c1 : bldS prog 23 1 #[(0, (.int .u8 0))] w3 = some (⟨some ⟨w3.heap.size, 0, none⟩, 1, 1⟩, w4) := c1
    have q3 := u3.size
    obtain ⟨s6, w6, d1, d2, d3, d4⟩ := rCoded_ok hK (c3.src (fb_one _)) (by rw [List.length_append, hsum]; show 5 + vals.length + 1 ≤ _; omega)
    have q5 := c4.size
    refine ⟨s6, w6, ?_, by unfold lineL; rw [hpl]; exact d2, (u3.trans' c4 fun k hk e => by have := b5 k e; omega).and0 d3, fun k hk => by have := d4 k hk; omega⟩
    rw [if_pos (by rw [hp]; rfl), c1, bnd_ok]
    dsimp only
    rw [c2, bnd_ok, d1, bnd_ok]
  · have hpl : padL (bytes5 s need idx size ++ vals) = bytes5 s need idx size ++ vals := by unfold padL; rw [hsum, if_neg hp]
    obtain ⟨s6, w6, d1, d2, d3, d4⟩ := rCoded_ok hK (b3.src (fb_one _)) (by rw [hsum]; omega)
    have q3 := u3.size
    refine ⟨s6, w6, ?_, by unfold lineL; rw [hpl]; exact d2, u3.and0 d3, fun k hk => by have := d4 k hk; omega⟩
    rw [if_neg (by rw [beq_iff_eq]; omega), d1, bnd_ok]

end Go.Sh

/- A line that is mended: the program. -/
set_option linter.unusedVariables false
set_option maxRecDepth 100000
namespace Go.Sh
open Go.Fw Go.Gf Go.RowKit Go.Proofs.Tryd

theorem line_len (s n i z : Nat) (vals : List F) : (lineL s n i z vals).length ≤ vals.length + 10 := by
  unfold lineL
  rw [Gf.codedP_length]
  have := pad_len (bytes5 s n i z ++ vals)
  rw [List.length_append] at this
  have h5 : (bytes5 s n i z).length = 5 := rfl
  omega

theorem text_ok {K : Nat} (hK : 18446744073709551616 ≤ K) {w : World} {sv : Sl} {vals : List F} {s n i z : Nat} (hs : s < 65536) (hv : BSrc w sv vals) (hvl : vals.length ≤ 1000000) :
    ∃ w', escrow_share_text K (shL s n i z ++ [slF sv]).toArray w = some ((textOf (lineL s n i z vals), ()), w') ∧ Upd none_ w w' := by
  obtain ⟨w1, a1, a2, a3, a4⟩ := newB_ok (shL s n i z ++ [slF sv]).toArray 102 w
  have a2 : Bk 102 w1 w.heap.size (shL s n i z ++ [slF sv]) := a2
  have a5 := a2.ldA (i := 0) (n := 5) (by simp [shL])
  have a5 : ldA 5 ⟨w.heap.size, 0, none⟩ w1 = some (shL s n i z ++ [slF sv]).toArray := a5
  obtain ⟨s2, w2, b1, b2, b3, b4⟩ := shareBytes_ok hK (s := s) (need := n) (idx := i) (size := z) hs (hv.upd0 a3) hvl
  have hl := line_len s n i z vals
  obtain ⟨w3, c1, c2⟩ := Words_ok hK (b2.src (fb_one _)) (by omega) (own_lt b2)
  refine ⟨w3, ?_, (a3.and0 b3).and0 c2⟩
  unfold escrow_share_text
  rw [a1, bnd_ok, a5, Option.bind_some, b1, bnd_ok, c1, bnd_ok]

end Go.Sh

/- A line that is mended: the document. -/
set_option linter.unusedVariables false
set_option maxRecDepth 100000
namespace Go.Sh
open Go.Fw Go.Gf Go.RowKit Go.Proofs.Tryd

end Go.Sh

/- Powers of the document. -/
set_option linter.unusedVariables false
set_option maxRecDepth 100000
namespace Go.Sh
open Go.Fw Go.Gf Go.RowKit Go.Proofs.Tryd

theorem rpower_loop {K : Nat} (hK : 300 ≤ K) (b : F) (n : Nat) (hn : n < 9223372036854775807) : ∀ (d i m : Nat) (v : F), i + d = n → d < m →
    ref11_power_l0 K m (bF b) (n : Int) (bF v) (i : Int) = some (.norm (bF (v * F.pow b d), ())) := by
  intro d
  induction d with
  | zero =>
    intro i m v hi hm
    obtain ⟨m, rfl⟩ : ∃ q, m = q + 1 := ⟨m - 1, by omega⟩
    show ref11_power_l0_b K (ref11_power_l0 K m) (bF b) (n : Int) (bF v) (i : Int) = _
    unfold ref11_power_l0_b
    rw [if_neg (by simp only [decide_eq_true_eq]; omega), F.pow_zero, F.mul_one]
  | succ d ih =>
    intro i m v hi hm
    obtain ⟨m, rfl⟩ : ∃ q, m = q + 1 := ⟨m - 1, by omega⟩
    have e3 : IntKind.i64.wrap ((i : Int) + 1) = ((i + 1 : Nat) : Int) := by rw [w64 (by omega) (by omega)]; rfl
    show ref11_power_l0_b K (ref11_power_l0 K m) (bF b) (n : Int) (bF v) (i : Int) = _
    unfold ref11_power_l0_b
    rw [if_pos (decide_eq_true (show (i : Int) < (n : Int) by omega)), rtimes hK, Option.bind_some, e3, ih (i + 1) m _ (by omega) (by omega), F.pow_succ, F.mul_assoc, F.mul_comm b]

theorem rpower_ok {K : Nat} (hK : 300 ≤ K) (b : F) (n : Nat) (hn : n < 9223372036854775807) (hnK : n < K) : ref11_power K (bF b) (n : Int) = some (bF (F.pow b n), ()) := by
  have h2 := rpower_loop hK b n hn n 0 K 1 (by omega) hnK
  rw [F.one_mul] at h2
  unfold ref11_power
  have h2 : ref11_power_l0 K K (bF b) (n : Int) 1 0 = _ := h2
  rw [h2]
  rfl

end Go.Sh

/- What the helpers of the package cofferbook do: SpoilBytes. YteomkfcfhlljkaaDoor, Tryd, 23, 5 are filled in for a seat. -/
set_option linter.unusedVariables false
namespace Go.Sh
open Go.Fw Go.RowKit Go.Proofs.Tryd

/-- all of its elements are bytes -/
theorem Spoil0 (K : Nat) {s : Sl} : ∀ (d i n : Nat) (w : World) (xs : List Int), i + d = xs.length → xs.length ≤ 140737488355328 → d < n → Vw 5 w s (ints .u8 xs) →
    ∃ w' ys, book_SpoilBytes_l0 K n s (i : Int) w = some ((), w') ∧ Vw 5 w' s (ints .u8 ys) ∧ ys.length = xs.length ∧ Upd (fun k => s.blk = some k) w w' := by
  intro d
  induction d with
  | zero =>
    intro i n w xs hi hl hn hv
    obtain ⟨n, rfl⟩ : ∃ m, n = m + 1 := ⟨n - 1, by omega⟩
    refine ⟨w, xs, ?_, hv, rfl, Upd.refl _ _⟩
    have hd : decide ((i : Int) < ((s.len : Nat) : Int)) = false := by rw [hv.len, ints_length]; simp; omega
    show book_SpoilBytes_l0_b K (book_SpoilBytes_l0 K n) s (i : Int) w = _
    unfold book_SpoilBytes_l0_b
    rw [hd, if_neg (by decide)]
  | succ d ih =>
    intro i n w xs hi hl hn hv
    obtain ⟨n, rfl⟩ : ∃ m, n = m + 1 := ⟨n - 1, by omega⟩
    have hsl : s.len = xs.length := by rw [hv.len, ints_length]
    obtain ⟨p, hp, hpl⟩ := hv.rd.ld
    have l1 := hpl i (by omega)
    have hp : s.a = some p := hp (fun e => by rw [e] at hi; simp at hi)
    obtain ⟨q, w1, hq, hs, hv1, u1⟩ := hv.st (i := i) (by omega) (.int .u8 (bits .xor .u8 (xs[i]'(by omega)) 165))
    obtain rfl : p = q := Option.some.inj (hp.symm.trans hq)
    rw [ints_set_] at hv1
    obtain ⟨w2, ys, h2, hv2, hl2, u2⟩ := ih (i + 1) n w1 _ (by rw [List.length_set]; omega) (by rw [List.length_set]; omega) (by omega) hv1
    refine ⟨w2, ys, ?_, hv2, by rw [hl2, List.length_set], u1.trans' u2 fun _ _ e => e⟩
    have hd : decide ((i : Int) < ((s.len : Nat) : Int)) = true := by rw [hsl]; simp; omega
    have c : (0 : Int) ≤ (i : Int) ∧ (i : Int) < ((s.len : Nat) : Int) := by omega
    have e1 : IntKind.i64.wrap ((i : Int) + 1) = ((i + 1 : Nat) : Int) := by rw [w64 (by omega) (by omega)]; rfl
    show book_SpoilBytes_l0_b K (book_SpoilBytes_l0 K n) s (i : Int) w = _
    unfold book_SpoilBytes_l0_b
    rw [hd, if_pos rfl, hp, Option.bind_some, if_pos c, Int.toNat_natCast, Nat.mul_one, l1, Option.bind_some, Option.bind_some, if_pos c, hs, Option.bind_some, e1, h2]

/-- one byte behind it -/
theorem pushV {w : World} {s : Sl} {xs : List Int} (x : Int) (ho : Vw 5 w s (ints .u8 xs)) (hs : s.len + 1 ≤ 140737488355328) :
    ∃ w1 s2 w2, bldS prog 23 1 #[(0, (.int .u8 x))] w = some (⟨some ⟨w.heap.size, 0, none⟩, 1, 1⟩, w1) ∧ apd prog 23 23 (.slice s.a s.len s.cap) (.slice (some ⟨w.heap.size, 0, none⟩) 1 1) w1 = some (s2, w2) ∧
      Vw 5 w2 s2 (ints .u8 (xs ++ [x])) ∧ s2.len = s.len + 1 ∧ Upd (fun k => s.blk = some k) w w2 ∧ (∀ k, s2.blk = some k → s.blk = some k ∨ w.heap.size ≤ k) := by
  obtain ⟨w1, h1, o1, u1, z1⟩ := bldS1_ok sliceB (.int .u8 x) rfl w
  obtain ⟨s2, w2, h2, l2, o2, u2, b2⟩ := apd_vw sliceB (ho.upd0 u1) (o1.src (by simp [Value.oneCell'])) (by show (s.len + 1) * 1 ≤ _; omega)
  refine ⟨w1, s2, w2, h1, h2, by simpa using o2, l2, (u1.mono fun _ _ e => e.elim).trans' u2 fun _ _ e => e, fun k hk => (b2 k hk).imp id fun e => by omega⟩

theorem Spoil1 (K : Nat) : ∀ (d i n : Nat) (w : World) (s : Sl) (xs : List Int), i + d = 70 → xs.length + d ≤ 140737488355328 → d < n → Vw 5 w s (ints .u8 xs) →
    ∃ s' w' ys, book_SpoilBytes_l1 K n s (i : Int) w = some ((s', ()), w') ∧ Vw 5 w' s' (ints .u8 ys) ∧ ys.length = xs.length + d ∧ Upd (fun k => s.blk = some k) w w' ∧ (∀ k, s'.blk = some k → s.blk = some k ∨ w.heap.size ≤ k) := by
  intro d
  induction d with
  | zero =>
    intro i n w s xs hi hl hn hv
    obtain ⟨n, rfl⟩ : ∃ m, n = m + 1 := ⟨n - 1, by omega⟩
    have : i = 70 := by omega
    subst this
    refine ⟨s, w, xs, ?_, hv, rfl, Upd.refl _ _, fun _ => .inl⟩
    show book_SpoilBytes_l1_b K (book_SpoilBytes_l1 K n) s ((70 : Nat) : Int) w = _
    unfold book_SpoilBytes_l1_b
    rw [if_neg (by decide)]
  | succ d ih =>
    intro i n w s xs hi hl hn hv
    obtain ⟨n, rfl⟩ : ∃ m, n = m + 1 := ⟨n - 1, by omega⟩
    have hsl : s.len = xs.length := by rw [hv.len, ints_length]
    obtain ⟨w1, s2, w2, h1, h2, o2, l2, u2, b2⟩ := pushV (IntKind.u8.wrap (IntKind.i64.wrap ((IntKind.i64.wrap (7 * (i : Int))) + 3))) hv (by omega)
    obtain ⟨s3, w3, ys, h3, o3, l3, u3, b3⟩ := ih (i + 1) n w2 s2 _ (by omega) (by rw [List.length_append, List.length_singleton]; omega) (by omega) o2
    refine ⟨s3, w3, ys, ?_, o3, by rw [l3, List.length_append, List.length_singleton]; omega, u2.trans' u3 fun k hk e => (b2 k e).elim id fun e => by omega, fun k hk => ?_⟩
    · have hd : decide ((i : Int) < 70) = true := by simp; omega
      have e1 : IntKind.i64.wrap ((i : Int) + 1) = ((i + 1 : Nat) : Int) := by rw [w64 (by omega) (by omega)]; rfl
      show book_SpoilBytes_l1_b K (book_SpoilBytes_l1 K n) s (i : Int) w = _
      unfold book_SpoilBytes_l1_b
      rw [hd, if_pos rfl, h1, bnd_ok, h2, bnd_ok, e1, h3]
    · rcases b3 k hk with e | e
      · exact b2 k e
      · exact .inr (by have := u2.size; omega)

theorem SpoilBytes_ok {K : Nat} (hK : 18446744073709551616 ≤ K) {s : Sl} {xs : List Int} {w : World} (hv : Vw 5 w s (ints .u8 xs)) (hl : xs.length ≤ 140737488351232) :
    ∃ w', book_SpoilBytes K s w = some ((), w') ∧ Upd (fun k => s.blk = some k) w w' := by
  obtain ⟨w1, ys, h1, v1, l1, u1⟩ := Spoil0 K xs.length 0 K w xs (by omega) (by omega) (by omega) hv
  have h1 : book_SpoilBytes_l0 K K s 0 w = _ := h1
  have hsl : s.len = xs.length := by rw [hv.len, ints_length]
  obtain ⟨w2, s2, w3, h2, h3, v3, l3, u3, b3⟩ := pushV 1 v1 (by omega)
  obtain ⟨s4, w4, zs, h4, v4, l4, u4, b4⟩ := Spoil1 K 70 0 K w3 s2 _ (by omega) (by rw [List.length_append, List.length_singleton]; omega) (by omega) v3
  have h4 : book_SpoilBytes_l1 K K s2 0 w3 = _ := h4
  rw [List.length_append, List.length_singleton] at l4
  have hl4 : s4.len = xs.length + 71 := by rw [v4.len, ints_length]; omega
  obtain ⟨p, w5, hp, h5, v5, u5⟩ := v4.st (i := xs.length + 70) (by omega) (.int .u8 77)
  have e1 : IntKind.i64.wrap (((s4.len : Nat) : Int) - 1) = ((xs.length + 70 : Nat) : Int) := by rw [hl4, w64 (by omega) (by omega)]; omega
  have c : (0 : Int) ≤ ((xs.length + 70 : Nat) : Int) ∧ ((xs.length + 70 : Nat) : Int) < ((s4.len : Nat) : Int) := by omega
  refine ⟨w5, ?_, ?_⟩
  · unfold book_SpoilBytes
    rw [h1, bnd_ok, h2, bnd_ok, h3, bnd_ok, h4, bnd_ok]
    dsimp only
    rw [hp, Option.bind_some, e1, if_pos c, Int.toNat_natCast, Nat.mul_one, h5, Option.bind_some]
  · have q3 : Upd (fun k => s.blk = some k) w w3 := u1.trans' u3 fun _ _ e => e
    have hz := u1.size
    have q4 : Upd (fun k => s.blk = some k) w w4 := q3.trans' u4 fun k hk e => (b3 k e).elim id fun e => by omega
    have hz3 := u3.size
    refine q4.trans' u5 fun k hk e => ?_
    rcases b4 k e with e | e
    · rcases b3 k e with e | e
      · exact e
      · omega
    · omega

end Go.Sh

/- Lists of texts. -/
set_option linter.unusedVariables false
set_option maxRecDepth 100000
namespace Go.Sh
open Go.Fw Go.Gf Go.RowKit Go.Proofs.Tryd

theorem sliceT : OneSlice prog 29 9 (.string ⟨#[]⟩) 16 := ⟨by kernel_rfl, ⟨t9, by kernel_rfl, by kernel_rfl, by kernel_rfl, by kernel_rfl⟩, by decide, rfl, rfl⟩

/-- texts -/
def tx (ts : List ByteArray) : List Value := ts.map Value.string
theorem tx_length (ts : List ByteArray) : (tx ts).length = ts.length := List.length_map ..
theorem tx_one (ts : List ByteArray) : ∀ v ∈ tx ts, v.oneCell' = true := fun v hv => by obtain ⟨x, _, rfl⟩ := List.mem_map.1 hv; rfl
theorem tx_append (a b : List ByteArray) : tx (a ++ b) = tx a ++ tx b := List.map_append ..

theorem tx_at {w : World} {s : Sl} {ts : List ByteArray} (h : Src w s (tx ts)) {i : Nat} (hi : i < ts.length) : ∃ p, s.a = some p ∧ ldStr (p.add i) w = some ts[i] := by
  rcases h.rd with ⟨_, _, e⟩ | ⟨p, e1, e2⟩
  · have := congrArg List.length e
    rw [tx_length] at this
    rw [this] at hi; simp at hi
  · refine ⟨p, e1, ?_⟩
    have hv : (tx ts)[i]? = some (.string ts[i]) := by unfold tx; rw [List.getElem?_map, List.getElem?_eq_getElem hi]; rfl
    have := e2 i _ hv
    unfold ldStr
    rw [this]; rfl

theorem same_loop {K : Nat} {a b : Sl} {ts : List ByteArray} (hl : ts.length < 4611686018427387904) :
    ∀ (d i f : Nat) (w : World), i + d = ts.length → d < f → Src w a (tx ts) → Src w b (tx ts) → ∃ w', book_SameTexts_l0 K f a b (i : Int) w = some (.norm (), w') ∧ Upd none_ w w' := by
  intro d
  induction d with
  | zero =>
    intro i f w hi hf ha hb
    obtain ⟨f, rfl⟩ : ∃ q, f = q + 1 := ⟨f - 1, by omega⟩
    have hal : a.len = ts.length := by rw [ha.len, tx_length]
    refine ⟨w, ?_, Upd.refl _ _⟩
    show book_SameTexts_l0_b K (book_SameTexts_l0 K f) a b (i : Int) w = _
    unfold book_SameTexts_l0_b
    rw [if_neg (by simp only [decide_eq_true_eq]; omega)]
  | succ d ih =>
    intro i f w hi hf ha hb
    obtain ⟨f, rfl⟩ : ∃ q, f = q + 1 := ⟨f - 1, by omega⟩
    have hal : a.len = ts.length := by rw [ha.len, tx_length]
    have hbl : b.len = ts.length := by rw [hb.len, tx_length]
    have ud := (Upd.refl none_ w).drew
    have e3 : IntKind.i64.wrap ((i : Int) + 1) = ((i + 1 : Nat) : Int) := by rw [w64 (by omega) (by omega)]; rfl
    obtain ⟨p, p1, p2⟩ := tx_at (ha.upd0 ud) (i := i) (by omega)
    obtain ⟨q, q1, q2⟩ := tx_at (hb.upd0 ud) (i := i) (by omega)
    have c1 : (0 : Int) ≤ (i : Int) ∧ (i : Int) < ((a.len : Nat) : Int) := by omega
    have c2 : (0 : Int) ≤ (i : Int) ∧ (i : Int) < ((b.len : Nat) : Int) := by omega
    obtain ⟨w', k1, k2⟩ := ih (i + 1) f w.drew (by omega) (by omega) (ha.upd0 ud) (hb.upd0 ud)
    refine ⟨w', ?_, k2.predrew⟩
    show book_SameTexts_l0_b K (book_SameTexts_l0 K f) a b (i : Int) w = _
    unfold book_SameTexts_l0_b
    rw [if_pos (decide_eq_true (show (i : Int) < ((a.len : Nat) : Int) by omega)), p1, Option.bind_some, if_pos c1, q1, Option.bind_some, if_pos c2, Int.toNat_natCast, Nat.mul_one, p2, Option.bind_some, q2, Option.bind_some, if_neg (by simp), e3, k1]

theorem SameTexts_ok {K : Nat} (hK : 18446744073709551616 ≤ K) {w : World} {a b : Sl} {ts : List ByteArray} (hl : ts.length < 4611686018427387904) (ha : Src w a (tx ts)) (hb : Src w b (tx ts)) :
    ∃ w', book_SameTexts K a b w = some ((true, ()), w') ∧ Upd none_ w w' := by
  have hal : a.len = ts.length := by rw [ha.len, tx_length]
  have hbl : b.len = ts.length := by rw [hb.len, tx_length]
  obtain ⟨w', k1, k2⟩ := same_loop (K := K) hl ts.length 0 K w (by omega) (by omega) ha hb
  have k1 : book_SameTexts_l0 K K a b 0 w = _ := k1
  refine ⟨w', ?_, k2⟩
  unfold book_SameTexts
  rw [if_neg (by rw [hal, hbl]; simp), k1, bnd_ok]

/-- a text is pushed -/
theorem push_tx {w : World} {s : Sl} {ts : List ByteArray} (ho : OwnS 9 w s (tx ts)) (hl : ts.length ≤ 1099511627776) (v : ByteArray) :
    ∃ w1 s' w', bldS prog 29 1 #[(0, (.string v))] w = some (⟨some ⟨w.heap.size, 0, none⟩, 1, 1⟩, w1) ∧ apd prog 29 29 (.slice s.a s.len s.cap) (.slice (some ⟨w.heap.size, 0, none⟩) 1 1) w1 = some (s', w') ∧ OwnS 9 w' s' (tx (ts ++ [v])) ∧ Upd (fun k => s.blk = some k) w w' ∧ ∀ k, s'.blk = some k → s.blk = some k ∨ w.heap.size ≤ k := by
  obtain ⟨w1, a1, a2, a3, a4⟩ := bldS1_ok sliceT (.string v) rfl w
  have a2 : OwnS 9 w1 ⟨some ⟨w.heap.size, 0, none⟩, 1, 1⟩ (tx [v]) := a2
  have hpl := ho.len
  rw [tx_length] at hpl
  obtain ⟨s2, w2, b1, b2, b3, b4, b5⟩ := apd_ok sliceT (ho.upd0 a3) (a2.src (tx_one _)) (by show (s.len + 1) * 16 ≤ _; omega)
  rw [← tx_append] at b3
  have q1 := a3.size
  refine ⟨w1, s2, w2, a1, b1, b3, (a3.mono (T := fun k => s.blk = some k) fun _ _ e => e.elim).trans' b4 fun _ _ e => e, fun k hk => ?_⟩
  rcases b5 with e | e
  · rw [e] at hk; exact .inl hk
  · rw [e] at hk; have e2 : w1.heap.size = k := Option.some.inj hk; exact .inr (by omega)

theorem spoil_l0 {K : Nat} {s : Sl} : ∀ (d i f : Nat) (w : World) (ts : List ByteArray), i + d = ts.length → ts.length ≤ 1099511627776 → d < f → OwnS 9 w s (tx ts) →
    ∃ us w', book_SpoilTexts_l0 K f s (i : Int) w = some ((), w') ∧ us.length = ts.length ∧ OwnS 9 w' s (tx us) ∧ Upd (fun k => s.blk = some k) w w' := by
  intro d
  induction d with
  | zero =>
    intro i f w ts hi hl hf ho
    obtain ⟨f, rfl⟩ : ∃ q, f = q + 1 := ⟨f - 1, by omega⟩
    have hsl : s.len = ts.length := by rw [ho.len, tx_length]
    refine ⟨ts, w, ?_, rfl, ho, Upd.refl _ _⟩
    show book_SpoilTexts_l0_b K (book_SpoilTexts_l0 K f) s (i : Int) w = _
    unfold book_SpoilTexts_l0_b
    rw [if_neg (by simp only [decide_eq_true_eq]; omega)]
  | succ d ih =>
    intro i f w ts hi hl hf ho
    obtain ⟨f, rfl⟩ : ∃ q, f = q + 1 := ⟨f - 1, by omega⟩
    have hsl : s.len = ts.length := by rw [ho.len, tx_length]
    have e3 : IntKind.i64.wrap ((i : Int) + 1) = ((i + 1 : Nat) : Int) := by rw [w64 (by omega) (by omega)]; rfl
    obtain ⟨p, w1, a1, a2, a3, a4⟩ := ho.st (i := i) (by omega) (.string str4)
    have es : (tx ts).set i (.string str4) = tx (ts.set i str4) := by unfold tx; rw [List.map_set]
    rw [es] at a3
    obtain ⟨us, w2, k1, k2, k3, k4⟩ := ih (i + 1) f w1 (ts.set i str4) (by rw [List.length_set]; omega) (by rw [List.length_set]; exact hl) (by omega) a3
    rw [List.length_set] at k2
    have c1 : (0 : Int) ≤ (i : Int) ∧ (i : Int) < ((s.len : Nat) : Int) := by omega
    refine ⟨us, w2, ?_, k2, k3, a4.trans' k4 fun _ _ e => e⟩
    show book_SpoilTexts_l0_b K (book_SpoilTexts_l0 K f) s (i : Int) w = _
    unfold book_SpoilTexts_l0_b
    rw [if_pos (decide_eq_true (show (i : Int) < ((s.len : Nat) : Int) by omega)), a1, Option.bind_some, if_pos c1, Int.toNat_natCast, Nat.mul_one, a2, Option.bind_some, e3, k1]

theorem spoil_l1 {K : Nat} : ∀ (d i f : Nat) (w : World) (s : Sl) (ts : List ByteArray), i + d = 70 → ts.length + d ≤ 1099511627776 → d < f → OwnS 9 w s (tx ts) →
    ∃ us s' w', book_SpoilTexts_l1 K f s (i : Int) w = some ((s', ()), w') ∧ us.length = ts.length + d ∧ OwnS 9 w' s' (tx us) ∧ Upd (fun k => s.blk = some k) w w' ∧ ∀ k, s'.blk = some k → s.blk = some k ∨ w.heap.size ≤ k := by
  intro d
  induction d with
  | zero =>
    intro i f w s ts hi hl hf ho
    obtain ⟨f, rfl⟩ : ∃ q, f = q + 1 := ⟨f - 1, by omega⟩
    refine ⟨ts, s, w, ?_, rfl, ho, Upd.refl _ _, fun k hk => .inl hk⟩
    show book_SpoilTexts_l1_b K (book_SpoilTexts_l1 K f) s (i : Int) w = _
    unfold book_SpoilTexts_l1_b
    rw [if_neg (by simp only [decide_eq_true_eq]; omega)]
  | succ d ih =>
    intro i f w s ts hi hl hf ho
    obtain ⟨f, rfl⟩ : ∃ q, f = q + 1 := ⟨f - 1, by omega⟩
    have e3 : IntKind.i64.wrap ((i : Int) + 1) = ((i + 1 : Nat) : Int) := by rw [w64 (by omega) (by omega)]; rfl
    obtain ⟨w1, s2, w2, a1, a2, a3, a4, a5⟩ := push_tx ho (by omega) str5
    obtain ⟨us, s3, w3, k1, k2, k3, k4, k5⟩ := ih (i + 1) f w2 s2 _ (by omega) (by rw [List.length_append]; show ts.length + 1 + d ≤ _; omega) (by omega) a3
    have q := a4.size
    refine ⟨us, s3, w3, ?_, by rw [k2, List.length_append]; show ts.length + 1 + d = _; omega, k3, a4.trans' k4 (fun k hk e => (a5 k e).elim id fun e2 => absurd hk (by omega)), fun k hk => (k5 k hk).elim (a5 k) fun e => .inr (by omega)⟩
    show book_SpoilTexts_l1_b K (book_SpoilTexts_l1 K f) s (i : Int) w = _
    unfold book_SpoilTexts_l1_b
    rw [if_pos (decide_eq_true (show (i : Int) < 70 by omega)), a1, bnd_ok]
    dsimp only
    rw [a2, bnd_ok, e3, k1]

theorem SpoilTexts_ok {K : Nat} (hK : 18446744073709551616 ≤ K) {w : World} {s : Sl} {ts : List ByteArray} (hl : ts.length ≤ 1000000) (ho : OwnS 9 w s (tx ts)) :
    ∃ w', book_SpoilTexts K s w = some ((), w') ∧ Upd (fun k => s.blk = some k) w w' := by
  obtain ⟨us, w1, a1, a2, a3, a4⟩ := spoil_l0 (K := K) ts.length 0 K w ts (by omega) (by omega) (by omega) ho
  obtain ⟨vs, s2, w2, b1, b2, b3, b4, b5⟩ := spoil_l1 (K := K) 70 0 K w1 s us (by omega) (by omega) (by omega) a3
  have a1 : book_SpoilTexts_l0 K K s 0 w = _ := a1
  have b1 : book_SpoilTexts_l1 K K s 0 w1 = _ := b1
  have hl2 : s2.len = vs.length := by rw [b3.len, tx_length]
  obtain ⟨p, w3, c1, c2, c3, c4⟩ := b3.st (i := vs.length - 1) (by omega) (.string str6)
  have e1 : IntKind.i64.wrap (((s2.len : Nat) : Int) - 1) = ((vs.length - 1 : Nat) : Int) := by rw [hl2, w64 (by omega) (by omega)]; omega
  have cc : (0 : Int) ≤ ((vs.length - 1 : Nat) : Int) ∧ ((vs.length - 1 : Nat) : Int) < ((s2.len : Nat) : Int) := by omega
  have q := a4.size
  refine ⟨w3, ?_, (a4.trans' b4 fun _ _ e => e).trans' c4 fun k hk e => (b5 k e).elim id fun e2 => absurd hk (by omega)⟩
  unfold book_SpoilTexts
  rw [a1, bnd_ok, b1, bnd_ok]
  dsimp only
  rw [c1, Option.bind_some, e1, if_pos cc, Int.toNat_natCast, Nat.mul_one, c2, Option.bind_some]

end Go.Sh

/- The compression of words of 32 bits, on lists of numbers, by the machine's own operators; nothing of a program stands here. -/
namespace Go.Sha
open Go.Fw

/-- a rotation to the right -/
def rr32 (x : Int) (n : Nat) : Int := bits .or .u32 (IntKind.u32.wrap (x * 2 ^ (32 - n))) (Int.fdiv x (2 ^ n))

def sch32 (x y w16 w7 : Int) : Int :=
  IntKind.u32.wrap ((IntKind.u32.wrap ((IntKind.u32.wrap (w16 + w7)) + (bits .xor .u32 (bits .xor .u32 (rr32 x 7) (rr32 x 18)) (Int.fdiv x (2 ^ 3))))) + (bits .xor .u32 (bits .xor .u32 (rr32 y 17) (rr32 y 19)) (Int.fdiv y (2 ^ 10))))

def word32 (p q r s : Int) : Int :=
  bits .or .u32 (bits .or .u32 (bits .or .u32 (IntKind.u32.wrap ((IntKind.u32.wrap p) * 2 ^ 24)) (IntKind.u32.wrap ((IntKind.u32.wrap q) * 2 ^ 16))) (IntKind.u32.wrap ((IntKind.u32.wrap r) * 2 ^ 8))) (IntKind.u32.wrap s)

/-- the sixteen words of a block -/
def words32 (bs : List Int) : Nat → List Int
  | 0 => []
  | n + 1 => words32 bs n ++ [word32 (bs.getD (4 * n) 0) (bs.getD (4 * n + 1) 0) (bs.getD (4 * n + 2) 0) (bs.getD (4 * n + 3) 0)]

/-- words behind words -/
def ext32 : Nat → List Int → List Int
  | 0, s => s
  | n + 1, s => ext32 n (s ++ [sch32 (s.getD (s.length - 15) 0) (s.getD (s.length - 2) 0) (s.getD (s.length - 16) 0) (s.getD (s.length - 7) 0)])

def t1_32 (e f g k x w : Int) : Int :=
  IntKind.u32.wrap ((IntKind.u32.wrap ((IntKind.u32.wrap ((IntKind.u32.wrap (k + (bits .xor .u32 (bits .xor .u32 (rr32 e 6) (rr32 e 11)) (rr32 e 25)))) + (bits .xor .u32 (bits .and .u32 e f) (bits .and .u32 (bits .xor .u32 IntKind.u32.max e) g)))) + x)) + w)
def t2_32 (a b c : Int) : Int :=
  IntKind.u32.wrap ((bits .xor .u32 (bits .xor .u32 (rr32 a 2) (rr32 a 13)) (rr32 a 22)) + (bits .xor .u32 (bits .xor .u32 (bits .and .u32 a b) (bits .and .u32 a c)) (bits .and .u32 b c)))

abbrev V8 := Int × Int × Int × Int × Int × Int × Int × Int × Unit

/-- rounds: how many, from which on, the words, the constants -/
def rounds32 (W C : List Int) : Nat → Nat → Int → Int → Int → Int → Int → Int → Int → Int → V8
  | 0, _, a, b, c, d, e, f, g, k => (a, b, c, d, e, f, g, k, ())
  | n + 1, i, a, b, c, d, e, f, g, k =>
    rounds32 W C n (i + 1) (IntKind.u32.wrap (t1_32 e f g k (IntKind.u32.wrap (Int.fdiv (C.getD i 0) (2 ^ 32))) (W.getD i 0) + t2_32 a b c)) a b c
      (IntKind.u32.wrap (d + t1_32 e f g k (IntKind.u32.wrap (Int.fdiv (C.getD i 0) (2 ^ 32))) (W.getD i 0))) e f g

def list8 (v : V8) : List Int := [v.1, v.2.1, v.2.2.1, v.2.2.2.1, v.2.2.2.2.1, v.2.2.2.2.2.1, v.2.2.2.2.2.2.1, v.2.2.2.2.2.2.2.1]

/-- the rounds of a block -/
def rv32 (C H bs : List Int) : V8 :=
  rounds32 (ext32 48 (words32 bs 16)) C 64 0 ((H.map IntKind.u32.wrap).getD 0 0) ((H.map IntKind.u32.wrap).getD 1 0) ((H.map IntKind.u32.wrap).getD 2 0) ((H.map IntKind.u32.wrap).getD 3 0) ((H.map IntKind.u32.wrap).getD 4 0) ((H.map IntKind.u32.wrap).getD 5 0) ((H.map IntKind.u32.wrap).getD 6 0) ((H.map IntKind.u32.wrap).getD 7 0)

/-- eight sums -/
def sum8 (v x : List Int) : List Int := (List.range 8).map fun i => IntKind.u64.wrap (IntKind.u32.wrap (v.getD i 0 + x.getD i 0))

/-- a block of 64 bytes is taken -/
def comp32 (C H bs : List Int) : List Int := sum8 (H.map IntKind.u32.wrap) (list8 (rv32 C H bs))

/-- blocks are taken -/
def comps32 (C : List Int) : Nat → List Int → List Int → List Int
  | 0, H, _ => H
  | n + 1, H, bs => comps32 C n (comp32 C H bs) (bs.drop 64)

theorem words32_len (bs : List Int) : ∀ n, (words32 bs n).length = n
  | 0 => rfl
  | n + 1 => by simp [words32, words32_len bs n]

theorem ext32_len : ∀ n s, (ext32 n s).length = s.length + n
  | 0, s => rfl
  | n + 1, s => by simp [ext32, ext32_len n]; omega

theorem comp32_len (C H bs : List Int) : (comp32 C H bs).length = 8 := by simp [comp32, sum8]

theorem comps32_len (C : List Int) : ∀ (n : Nat) (H bs : List Int), H.length = 8 → (comps32 C n H bs).length = 8
  | 0, _, _, h => h
  | n + 1, H, bs, _ => comps32_len C n _ _ (comp32_len C H bs)

end Go.Sha

/- The compression of words of 64 bits, on lists of numbers, by the machine's own operators; nothing of a program stands here. -/
namespace Go.Sha
open Go.Fw

/-- a rotation to the right -/
def rr64 (x : Int) (n : Nat) : Int := bits .or .u64 (IntKind.u64.wrap (x * 2 ^ (64 - n))) (Int.fdiv x (2 ^ n))

def sch64 (x y w16 w7 : Int) : Int :=
  IntKind.u64.wrap ((IntKind.u64.wrap ((IntKind.u64.wrap (w16 + w7)) + (bits .xor .u64 (bits .xor .u64 (rr64 x 1) (rr64 x 8)) (Int.fdiv x (2 ^ 7))))) + (bits .xor .u64 (bits .xor .u64 (rr64 y 19) (rr64 y 61)) (Int.fdiv y (2 ^ 6))))

/-- a byte behind a word -/
def sh8 (v x : Int) : Int := bits .or .u64 (IntKind.u64.wrap (v * 2 ^ 8)) (IntKind.u64.wrap x)

/-- eight bytes behind a word -/
def word64 (v : Int) (bs : List Int) (o : Nat) : Nat → Int
  | 0 => v
  | n + 1 => sh8 (word64 v bs o n) (bs.getD (o + n) 0)

/-- the sixteen words of a block -/
def words64 (bs : List Int) : Nat → List Int
  | 0 => []
  | n + 1 => words64 bs n ++ [word64 0 bs (8 * n) 8]

/-- words behind words -/
def ext64 : Nat → List Int → List Int
  | 0, s => s
  | n + 1, s => ext64 n (s ++ [sch64 (s.getD (s.length - 15) 0) (s.getD (s.length - 2) 0) (s.getD (s.length - 16) 0) (s.getD (s.length - 7) 0)])

def t1_64 (e f g k x w : Int) : Int :=
  IntKind.u64.wrap ((IntKind.u64.wrap ((IntKind.u64.wrap ((IntKind.u64.wrap (k + (bits .xor .u64 (bits .xor .u64 (rr64 e 14) (rr64 e 18)) (rr64 e 41)))) + (bits .xor .u64 (bits .and .u64 e f) (bits .and .u64 (bits .xor .u64 IntKind.u64.max e) g)))) + x)) + w)
def t2_64 (a b c : Int) : Int :=
  IntKind.u64.wrap ((bits .xor .u64 (bits .xor .u64 (rr64 a 28) (rr64 a 34)) (rr64 a 39)) + (bits .xor .u64 (bits .xor .u64 (bits .and .u64 a b) (bits .and .u64 a c)) (bits .and .u64 b c)))

/-- rounds: how many, from which on, the words, the constants -/
def rounds64 (W C : List Int) : Nat → Nat → Int → Int → Int → Int → Int → Int → Int → Int → V8
  | 0, _, a, b, c, d, e, f, g, k => (a, b, c, d, e, f, g, k, ())
  | n + 1, i, a, b, c, d, e, f, g, k =>
    rounds64 W C n (i + 1) (IntKind.u64.wrap (t1_64 e f g k (C.getD i 0) (W.getD i 0) + t2_64 a b c)) a b c (IntKind.u64.wrap (d + t1_64 e f g k (C.getD i 0) (W.getD i 0))) e f g

/-- the rounds of a block -/
def rv64 (C H bs : List Int) : V8 :=
  rounds64 (ext64 64 (words64 bs 16)) C 80 0 (H.getD 0 0) (H.getD 1 0) (H.getD 2 0) (H.getD 3 0) (H.getD 4 0) (H.getD 5 0) (H.getD 6 0) (H.getD 7 0)

/-- eight sums -/
def sum8w (v x : List Int) : List Int := (List.range 8).map fun i => IntKind.u64.wrap (v.getD i 0 + x.getD i 0)

/-- a block of 128 bytes is taken -/
def comp64 (C H bs : List Int) : List Int := sum8w H (list8 (rv64 C H bs))

/-- blocks are taken -/
def comps64 (C : List Int) : Nat → List Int → List Int → List Int
  | 0, H, _ => H
  | n + 1, H, bs => comps64 C n (comp64 C H bs) (bs.drop 128)

theorem words64_len (bs : List Int) : ∀ n, (words64 bs n).length = n
  | 0 => rfl
  | n + 1 => by simp [words64, words64_len bs n]

theorem ext64_len : ∀ n s, (ext64 n s).length = s.length + n
  | 0, s => rfl
  | n + 1, s => by simp [ext64, ext64_len n]; omega

theorem comp64_len (C H bs : List Int) : (comp64 C H bs).length = 8 := by simp [comp64, sum8w]

theorem comps64_len (C : List Int) : ∀ (n : Nat) (H bs : List Int), H.length = 8 → (comps64 C n H bs).length = 8
  | 0, _, _, h => h
  | n + 1, H, bs, _ => comps64_len C n _ _ (comp64_len C H bs)

theorem sh8_eq {v x : Int} (hx : InK .u8 x) : sh8 v x = (v * 256 + x) % 18446744073709551616 := by
  obtain ⟨b, rfl, hb⟩ := hx.nat
  have hb : b < 256 := hb
  unfold sh8
  have e1 : IntKind.u64.wrap (b : Int) = (b : Int) := by rw [IntKind.wrap_u64]; omega
  obtain ⟨q, hq⟩ : ∃ q : Nat, (v % 72057594037927936) = (q : Int) := Int.eq_ofNat_of_zero_le (Int.emod_nonneg _ (by decide))
  have hq2 : q < 72057594037927936 := by omega
  have e2 : IntKind.u64.wrap (v * 2 ^ 8) = ((q * 256 : Nat) : Int) := by
    rw [IntKind.wrap_u64]
    have : (v * 2 ^ 8 : Int) = v * 256 := rfl
    rw [this]
    omega
  rw [e1, e2, (bits_nats (k := .u64) rfl (show q * 256 < 2 ^ 64 by omega) (show b < 2 ^ 64 by omega)).2.1]
  have e3 : q * 256 ||| b = q * 256 + b := by
    rw [Nat.mul_comm]
    exact (Nat.two_pow_add_eq_or_of_lt (i := 8) hb q).symm
  rw [e3]
  omega

/-- eight bytes behind whatever word -/
theorem word64_any {bs : List Int} (h : ∀ i, InK .u8 (bs.getD i 0)) (v : Int) (o : Nat) : word64 v bs o 8 = word64 0 bs o 8 := by
  simp only [word64, sh8_eq (h _)]
  omega

end Go.Sha

/- A digest that is fed part by part, on lists; nothing of a program stands here. -/
namespace Go.Sha
open Go.Fw

def narrowB (h : Int) : Bool := h == 224 || h == 256
/-- bytes of a block -/
def blk (h : Int) : Nat := if narrowB h = true then 64 else 128

theorem blk_pos (h : Int) : 0 < blk h := by unfold blk; split <;> decide
theorem blk_le (h : Int) : blk h ≤ 128 := by unfold blk; split <;> decide

def compH (h : Int) (C H bs : List Int) : List Int := if narrowB h = true then comp32 C H bs else comp64 C H bs
def compsH (h : Int) (C : List Int) (n : Nat) (H bs : List Int) : List Int := if narrowB h = true then comps32 C n H bs else comps64 C n H bs

theorem compsH_zero (h : Int) (C H bs : List Int) : compsH h C 0 H bs = H := by unfold compsH; split <;> rfl
theorem compsH_succ (h : Int) (C : List Int) (n : Nat) (H bs : List Int) : compsH h C (n + 1) H bs = compsH h C n (compH h C H bs) (bs.drop (blk h)) := by
  unfold compsH compH blk; split <;> rfl
theorem compsH_len (h : Int) (C : List Int) (n : Nat) (H bs : List Int) (hH : H.length = 8) : (compsH h C n H bs).length = 8 := by
  unfold compsH; split
  · exact comps32_len C n H bs hH
  · exact comps64_len C n H bs hH

theorem words32_front {bs : List Int} (k : Nat) (hk : 64 ≤ k) : ∀ n, n ≤ 16 → words32 (bs.take k) n = words32 bs n
  | 0, _ => rfl
  | n + 1, hn => by
    have g : ∀ q, q < 64 → (bs.take k).getD q 0 = bs.getD q 0 := fun q hq => by
      simp [List.getD_eq_getElem?_getD, List.getElem?_take, show q < k by omega]
    simp only [words32]
    rw [words32_front k hk n (by omega), g _ (by omega), g _ (by omega), g _ (by omega), g _ (by omega)]

theorem word64_front {bs : List Int} (k : Nat) (v : Int) (o : Nat) : ∀ n, o + n ≤ k → word64 v (bs.take k) o n = word64 v bs o n
  | 0, _ => rfl
  | n + 1, hn => by
    simp only [word64]
    rw [word64_front k v o n (by omega)]
    congr 1
    simp [List.getD_eq_getElem?_getD, List.getElem?_take, show o + n < k by omega]

theorem words64_front {bs : List Int} (k : Nat) (hk : 128 ≤ k) : ∀ n, n ≤ 16 → words64 (bs.take k) n = words64 bs n
  | 0, _ => rfl
  | n + 1, hn => by
    simp only [words64]
    rw [words64_front k hk n (by omega), word64_front k 0 (8 * n) 8 (by omega)]

/-- of a list the first block alone counts -/
theorem compH_front (h : Int) (C H bs : List Int) (k : Nat) (hk : blk h ≤ k) : compH h C H (bs.take k) = compH h C H bs := by
  unfold compH blk at *
  split
  · rename_i hn
    rw [if_pos hn] at hk
    unfold comp32 rv32
    rw [words32_front k hk 16 (Nat.le_refl _)]
  · rename_i hn
    rw [if_neg hn] at hk
    unfold comp64 rv64
    rw [words64_front k hk 16 (Nat.le_refl _)]

theorem compsH_front (h : Int) (C : List Int) : ∀ (n : Nat) (H bs : List Int) (k : Nat), n * blk h ≤ k → compsH h C n H (bs.take k) = compsH h C n H bs
  | 0, H, bs, k, _ => by rw [compsH_zero, compsH_zero]
  | n + 1, H, bs, k, hk => by
    have h1 : (n + 1) * blk h = n * blk h + blk h := Nat.succ_mul n _
    rw [compsH_succ, compsH_succ, compH_front h C H bs k (by omega), List.drop_take, compsH_front h C n _ _ (k - blk h) (by omega)]

theorem compsH_add (h : Int) (C : List Int) : ∀ (n m : Nat) (H bs : List Int), compsH h C (n + m) H bs = compsH h C m (compsH h C n H bs) (bs.drop (n * blk h))
  | 0, m, H, bs => by rw [compsH_zero, Nat.zero_add, Nat.zero_mul, List.drop_zero]
  | n + 1, m, H, bs => by
    rw [show n + 1 + m = (n + m) + 1 by omega, compsH_succ, compsH_succ, compsH_add h C n m, List.drop_drop, Nat.succ_mul, Nat.add_comm (blk h)]

/-- what is held of what was fed -/
structure Fed (h : Int) (C H0 xs : List Int) (H half : List Int) : Prop where
  words : H = compsH h C (xs.length / blk h) H0 xs
  held : half.take (xs.length % blk h) = xs.drop (xs.length / blk h * blk h)
  len : half.length = 128

theorem Fed.start (h : Int) (C H0 : List Int) : Fed h C H0 [] H0 (List.replicate 128 0) := by
  refine ⟨?_, ?_, by simp⟩
  · simp [compsH_zero]
  · simp

/-- bytes written over a list -/
def over (l : List Int) (o : Nat) (ys : List Int) : List Int := l.take o ++ ys ++ l.drop (o + ys.length)

theorem over_len {l ys : List Int} {o : Nat} (h : o + ys.length ≤ l.length) : (over l o ys).length = l.length := by
  simp [over]; omega

theorem over_front {l ys : List Int} {o : Nat} (h : o + ys.length ≤ l.length) : (over l o ys).take (o + ys.length) = l.take o ++ ys := by
  unfold over
  rw [List.take_append_of_le_length (by simp; omega), List.take_of_length_le (by simp; omega)]

theorem div_add_lt {n m b : Nat} (hb : 0 < b) (h : n % b + m < b) : (n + m) / b = n / b ∧ (n + m) % b = n % b + m := by
  have h1 := Nat.div_add_mod n b
  have h2 : n + m = n % b + m + b * (n / b) := by omega
  constructor
  · rw [h2, Nat.add_mul_div_left _ _ hb, Nat.div_eq_of_lt h, Nat.zero_add]
  · rw [h2, Nat.add_mul_mod_self_left, Nat.mod_eq_of_lt h]

/-- fed less than what fills a block -/
theorem Fed.less {h : Int} {C H0 xs H half ys : List Int} (f : Fed h C H0 xs H half) (hl : xs.length % blk h + ys.length < blk h) : Fed h C H0 (xs ++ ys) H (over half (xs.length % blk h) ys) := by
  have hb := blk_le h
  obtain ⟨d1, d2⟩ := div_add_lt (blk_pos h) hl
  have hle : xs.length / blk h * blk h ≤ xs.length := Nat.div_mul_le_self _ _
  refine ⟨?_, ?_, by rw [over_len (by rw [f.len]; omega)]; exact f.len⟩
  · rw [List.length_append, d1, f.words]
    have := compsH_front h C (xs.length / blk h) H0 (xs ++ ys) xs.length hle
    rw [List.take_left] at this
    exact this
  · rw [List.length_append, d1, d2, over_front (by rw [f.len]; omega), f.held, List.drop_append_of_le_length hle]

/-- a block is filled, and taken -/
theorem Fed.fill {h : Int} {C H0 xs H half ys : List Int} (f : Fed h C H0 xs H half) (hl : xs.length % blk h + ys.length = blk h) :
    Fed h C H0 (xs ++ ys) (compsH h C 1 H ((over half (xs.length % blk h) ys).take (blk h))) (over half (xs.length % blk h) ys) := by
  have hb := blk_le h
  have hp := blk_pos h
  have h1 := Nat.div_add_mod xs.length (blk h)
  have h2 : xs.length + ys.length = (xs.length / blk h + 1) * blk h := by rw [Nat.succ_mul, Nat.mul_comm]; omega
  have d1 : (xs.length + ys.length) / blk h = xs.length / blk h + 1 := by rw [h2]; exact Nat.mul_div_cancel _ hp
  have d2 : (xs.length + ys.length) % blk h = 0 := by rw [h2]; exact Nat.mul_mod_left _ _
  have hle : xs.length / blk h * blk h ≤ xs.length := Nat.div_mul_le_self _ _
  refine ⟨?_, ?_, by rw [over_len (by rw [f.len]; omega)]; exact f.len⟩
  · rw [List.length_append, d1, compsH_add, f.words]
    have e1 := compsH_front h C (xs.length / blk h) H0 (xs ++ ys) xs.length hle
    rw [List.take_left] at e1
    rw [← e1]
    congr 1
    have e2 := over_front (l := half) (ys := ys) (o := xs.length % blk h) (by rw [f.len]; omega)
    rw [hl] at e2
    rw [e2, f.held, List.drop_append_of_le_length hle]
  · rw [List.length_append, d1, d2]
    simp
    omega

/-- whole blocks are taken, what is left is held; nothing was held -/
theorem Fed.whole {h : Int} {C H0 xs H half ys : List Int} (f : Fed h C H0 xs H half) (hz : xs.length % blk h = 0) :
    Fed h C H0 (xs ++ ys) (compsH h C (ys.length / blk h) H (ys.take (ys.length / blk h * blk h))) (over half 0 (ys.drop (ys.length / blk h * blk h))) := by
  have hb := blk_le h
  have hp := blk_pos h
  have h1 := Nat.div_add_mod xs.length (blk h)
  have hx : xs.length = xs.length / blk h * blk h := by rw [Nat.mul_comm]; omega
  have d1 : (xs.length + ys.length) / blk h = xs.length / blk h + ys.length / blk h := by
    have : xs.length + ys.length = ys.length + blk h * (xs.length / blk h) := by omega
    rw [this, Nat.add_mul_div_left _ _ hp, Nat.add_comm]
  have d2 : (xs.length + ys.length) % blk h = ys.length % blk h := by
    have : xs.length + ys.length = ys.length + blk h * (xs.length / blk h) := by omega
    rw [this, Nat.add_mul_mod_self_left]
  have hyl := Nat.div_add_mod ys.length (blk h)
  have hym := Nat.mod_lt ys.length hp
  have hyle : ys.length / blk h * blk h ≤ ys.length := Nat.div_mul_le_self _ _
  have hrl : (ys.drop (ys.length / blk h * blk h)).length = ys.length % blk h := by
    rw [List.length_drop]
    have : blk h * (ys.length / blk h) = ys.length / blk h * blk h := Nat.mul_comm _ _
    omega
  refine ⟨?_, ?_, by rw [over_len (by rw [hrl, f.len]; omega)]; exact f.len⟩
  · rw [List.length_append, d1, compsH_add, f.words]
    have e1 := compsH_front h C (xs.length / blk h) H0 (xs ++ ys) xs.length (by omega)
    rw [List.take_left] at e1
    rw [← e1, compsH_front h C _ _ ys _ (Nat.le_refl _)]
    congr 1
    rw [← hx, List.drop_left]
  · rw [List.length_append, d1, d2]
    have := over_front (l := half) (ys := ys.drop (ys.length / blk h * blk h)) (o := 0) (by rw [hrl, f.len]; omega)
    rw [hrl, Nat.zero_add] at this
    rw [this, List.take_zero, List.nil_append, Nat.add_mul, ← hx, List.drop_append]
    simp

end Go.Sha

/- 'or' for 'xor' where no bit is in both, and where two of three decide; sums in another order; nothing of a program stands here. -/
namespace Go.Sha
open Go.Fw

theorem bits_bv {k : IntKind} (hs : k.signed = false) (x y : Int) :
    bits .and k x y = (((BitVec.ofInt k.bits x &&& BitVec.ofInt k.bits y).toNat : Nat) : Int) ∧ bits .or k x y = (((BitVec.ofInt k.bits x ||| BitVec.ofInt k.bits y).toNat : Nat) : Int) ∧
    bits .xor k x y = (((BitVec.ofInt k.bits x ^^^ BitVec.ofInt k.bits y).toNat : Nat) : Int) :=
  ⟨wrap_nat hs _ (BitVec.isLt _), wrap_nat hs _ (BitVec.isLt _), wrap_nat hs _ (BitVec.isLt _)⟩

theorem bv_of {n : Nat} (v : BitVec n) : BitVec.ofInt n ((v.toNat : Nat) : Int) = v := by
  rw [BitVec.ofInt_natCast]
  apply BitVec.eq_of_toNat_eq
  simp

theorem or_comm_bits {k : IntKind} (hs : k.signed = false) (x y : Int) : bits .or k x y = bits .or k y x := by
  rw [(bits_bv hs x y).2.1, (bits_bv hs y x).2.1, BitVec.or_comm]

theorem ch_or {k : IntKind} (hs : k.signed = false) (m : Int) (hm : BitVec.ofInt k.bits m = BitVec.allOnes k.bits) (e f g : Int) :
    bits .or k (bits .and k e f) (bits .and k (bits .xor k m e) g) = bits .xor k (bits .and k e f) (bits .and k (bits .xor k m e) g) := by
  rw [(bits_bv hs _ _).2.1, (bits_bv hs (bits .and k e f) _).2.2, (bits_bv hs e f).1, (bits_bv hs (bits .xor k m e) g).1, (bits_bv hs m e).2.2]
  simp only [bv_of, hm]
  congr 2
  apply BitVec.eq_of_getLsbD_eq
  intro i hi
  simp only [BitVec.getLsbD_or, BitVec.getLsbD_and, BitVec.getLsbD_xor, BitVec.getLsbD_allOnes, hi, decide_true]
  cases (BitVec.ofInt k.bits e).getLsbD i <;> cases (BitVec.ofInt k.bits f).getLsbD i <;> cases (BitVec.ofInt k.bits g).getLsbD i <;> rfl

theorem maj_or {k : IntKind} (hs : k.signed = false) (a b c : Int) :
    bits .or k (bits .or k (bits .and k a b) (bits .and k a c)) (bits .and k b c) = bits .xor k (bits .xor k (bits .and k a b) (bits .and k a c)) (bits .and k b c) := by
  rw [(bits_bv hs _ _).2.1, (bits_bv hs (bits .and k a b) (bits .and k a c)).2.1, (bits_bv hs (bits .xor k _ _) _).2.2, (bits_bv hs (bits .and k a b) (bits .and k a c)).2.2, (bits_bv hs a b).1, (bits_bv hs a c).1, (bits_bv hs b c).1]
  simp only [bv_of]
  congr 2
  apply BitVec.eq_of_getLsbD_eq
  intro i hi
  simp only [BitVec.getLsbD_or, BitVec.getLsbD_and, BitVec.getLsbD_xor]
  cases (BitVec.ofInt k.bits a).getLsbD i <;> cases (BitVec.ofInt k.bits b).getLsbD i <;> cases (BitVec.ofInt k.bits c).getLsbD i <;> rfl

theorem all32 : BitVec.ofInt IntKind.u32.bits IntKind.u32.max = BitVec.allOnes IntKind.u32.bits := by decide +kernel
theorem all64 : BitVec.ofInt IntKind.u64.bits IntKind.u64.max = BitVec.allOnes IntKind.u64.bits := by decide +kernel

theorem rr32_or (x : Int) (n : Nat) : bits .or .u32 (Int.fdiv x (2 ^ n)) (IntKind.u32.wrap (x * 2 ^ (32 - n))) = rr32 x n := or_comm_bits rfl _ _
theorem rr64_or (x : Int) (n : Nat) : bits .or .u64 (Int.fdiv x (2 ^ n)) (IntKind.u64.wrap (x * 2 ^ (64 - n))) = rr64 x n := or_comm_bits rfl _ _

theorem sch32_ref (x y w16 w7 : Int) :
    IntKind.u32.wrap ((IntKind.u32.wrap ((IntKind.u32.wrap ((bits .xor .u32 (bits .xor .u32 (rr32 y 17) (rr32 y 19)) (Int.fdiv y (2 ^ 10))) + w7)) + (bits .xor .u32 (bits .xor .u32 (rr32 x 7) (rr32 x 18)) (Int.fdiv x (2 ^ 3))))) + w16) = sch32 x y w16 w7 := by
  unfold sch32
  simp only [IntKind.wrap_u32]
  omega
theorem sch64_ref (x y w16 w7 : Int) :
    IntKind.u64.wrap ((IntKind.u64.wrap ((IntKind.u64.wrap ((bits .xor .u64 (bits .xor .u64 (rr64 y 19) (rr64 y 61)) (Int.fdiv y (2 ^ 6))) + w7)) + (bits .xor .u64 (bits .xor .u64 (rr64 x 1) (rr64 x 8)) (Int.fdiv x (2 ^ 7))))) + w16) = sch64 x y w16 w7 := by
  unfold sch64
  simp only [IntKind.wrap_u64]
  omega

end Go.Sha

/- Package digest: narrow takes blocks: what it computes. -/
set_option linter.unusedVariables false
namespace Go.Sh
open Go.Fw Go.Sha Go.RowKit Go.Proofs.Tryd

theorem neg_and31 : ∀ n : Nat, n < 32 → 0 < n → bits .and .u64 (IntKind.u64.wrap (-(n : Int))) 31 = ((32 - n : Nat) : Int) := by decide +kernel

theorem RL32 (x : Int) {n : Nat} (h0 : 0 < n) (h1 : n < 32) : bits_RotateLeft32 x (-(n : Int)) = some (rr32 x n, ()) := by
  have e1 := neg_and31 n h1 h0
  have e2 : IntKind.u64.wrap (32 - ((32 - n : Nat) : Int)) = (n : Int) := by rw [IntKind.wrap_u64]; omega
  have m1 : min (32 - n) IntKind.u32.bits = 32 - n := Nat.min_eq_left (by simp only [IntKind.bits]; omega)
  have m2 : min n IntKind.u32.bits = n := Nat.min_eq_left (by simp only [IntKind.bits]; omega)
  unfold bits_RotateLeft32
  rw [e1, e2]
  simp only [Int.toNat_natCast, m1, m2, Int.natCast_nonneg, if_true, rr32]

theorem add_add (p : Addr) (a b : Nat) : (p.add a).add b = p.add (a + b) := by
  unfold Addr.add
  by_cases h1 : a = 0 <;> by_cases h2 : b = 0 <;> simp [h1, h2, Nat.add_assoc]

theorem rdD {κ : IntKind} {w : World} {s : Sl} {zs : List Int} (h : RdS κ w s zs) : ∃ p, (zs ≠ [] → s.a = some p) ∧ ∀ i, i < zs.length → ldI κ (p.add i) w = some (zs.getD i 0) := by
  obtain ⟨p, h1, h2⟩ := h.ld
  refine ⟨p, h1, fun i hi => ?_⟩
  rw [h2 i hi, List.getD_eq_getElem?_getD, List.getElem?_eq_getElem hi]; rfl

/-- the row of a block's cells from its front on -/
theorem row_front {κ : IntKind} {cs : List Value} {xs : List Int} {i : Nat} (h : cs.take xs.length = ints κ xs) (hi : i < xs.length) : cs[i]? = some (.int κ (xs.getD i 0)) := by
  have h1 : (cs.take xs.length)[i]? = (ints κ xs)[i]? := by rw [h]
  rw [List.getElem?_take, if_pos hi] at h1
  rw [h1, List.getD_eq_getElem?_getD, List.getElem?_eq_getElem hi]
  simp [ints, hi]

theorem front_set {κ : IntKind} {cs : List Value} {xs : List Int} (h : cs.take xs.length = ints κ xs) (hl : xs.length < cs.length) (x : Int) :
    (cs.set xs.length (.int κ x)).take (xs ++ [x]).length = ints κ (xs ++ [x]) := by
  rw [ints_append, ← h]
  simp only [List.length_append, List.length_cons, List.length_nil, Nat.zero_add]
  rw [List.take_add_one, List.take_set_of_le (Nat.le_refl _)]
  simp [hl]

theorem narrow_l1 (K : Nat) (h0 : Option Addr) {b : Sl} {bs : List Int} (hbl : 64 ≤ bs.length) (hlim : bs.length ≤ 140737488355328) {gw : Nat} (hne : ∀ p, b.a = some p → p.block ≠ gw) :
    ∀ (d i n : Nat) (w : World) (cs : List Value), i + d = 16 → d < n → RdS .u8 w b bs → Bk 174 w gw cs → cs.length = 64 → cs.take i = ints .u32 (words32 bs i) →
      ∃ w' cs', digest_narrow_l1 K n h0 b ⟨gw, 0, none⟩ (i : Int) w = some ((), w') ∧ Bk 174 w' gw cs' ∧ cs'.length = 64 ∧ cs'.take 16 = ints .u32 (words32 bs 16) ∧ Upd (· = gw) w w' := by
  intro d
  induction d with
  | zero =>
    intro i n w cs hi hn hr hb hc ht
    obtain ⟨n, rfl⟩ : ∃ m, n = m + 1 := ⟨n - 1, by omega⟩
    have : i = 16 := by omega
    subst this
    refine ⟨w, cs, ?_, hb, hc, ht, Upd.refl _ _⟩
    show digest_narrow_l1_b K (digest_narrow_l1 K n) h0 b ⟨gw, 0, none⟩ ((16 : Nat) : Int) w = _
    simp [digest_narrow_l1_b]
  | succ d ih =>
    intro i n w cs hi hn hr hb hc ht
    obtain ⟨n, rfl⟩ : ∃ m, n = m + 1 := ⟨n - 1, by omega⟩
    have hbn : bs ≠ [] := fun e => by rw [e] at hbl; simp at hbl
    obtain ⟨p, hp, hl⟩ := rdD hr.drew
    have hcap := hr.cap
    have hlen := hr.len
    have hd : decide ((i : Int) < 16) = true := by simp; omega
    have e4 : IntKind.i64.wrap (4 * (i : Int)) = ((4 * i : Nat) : Int) := by rw [w64 (by omega) (by omega)]; omega
    have e44 : IntKind.i64.wrap (((4 * i : Nat) : Int) + 4) = ((4 * i + 4 : Nat) : Int) := by rw [w64 (by omega) (by omega)]; omega
    have e1 : IntKind.i64.wrap ((i : Int) + 1) = ((i + 1 : Nat) : Int) := by rw [w64 (by omega) (by omega)]; rfl
    have c1 : (0 : Int) ≤ ((4 * i + 4 : Nat) : Int) ∧ ((4 * i + 4 : Nat) : Int) ≤ ((b.cap : Nat) : Int) := by omega
    have c2 : (0 : Int) ≤ ((4 * i : Nat) : Int) ∧ ((4 * i : Nat) : Int) ≤ ((4 * i + 4 : Nat) : Int) := by omega
    have e5 : 4 * i + 4 - 4 * i = 4 := by omega
    have hsl : sla b.a (4 * i) b.cap 1 = some (p.add (4 * i)) := by
      have : b.cap ≠ 4 * i := by omega
      simp [sla, hp hbn, this]
    have l0 := hl (4 * i) (by omega)
    have l1 := hl (4 * i + 1) (by omega)
    have l2 := hl (4 * i + 2) (by omega)
    have l3 := hl (4 * i + 3) (by omega)
    have c3 : (0 : Int) ≤ (i : Int) ∧ (i : Int) < ((64 : Nat) : Int) := by omega
    have k0 : (0 : Int) ≤ 0 ∧ (0 : Int) < ((4 : Nat) : Int) := by decide
    have k1 : (0 : Int) ≤ 1 ∧ (1 : Int) < ((4 : Nat) : Int) := by decide
    have k2 : (0 : Int) ≤ 2 ∧ (2 : Int) < ((4 : Nat) : Int) := by decide
    have k3 : (0 : Int) ≤ 3 ∧ (3 : Int) < ((4 : Nat) : Int) := by decide
    obtain ⟨w1, s1, s2, s3⟩ := hb.drew.stC (i := i) (by omega) (.int .u32 (word32 (bs.getD (4 * i) 0) (bs.getD (4 * i + 1) 0) (bs.getD (4 * i + 2) 0) (bs.getD (4 * i + 3) 0)))
    have s1' : stC ((⟨gw, 0, none⟩ : Addr).add (i * 1)) (.int .u32 (word32 (bs.getD (4 * i) 0) (bs.getD (4 * i + 1) 0) (bs.getD (4 * i + 2) 0) (bs.getD (4 * i + 3) 0))) w.drew = some w1 := by
      rw [add_lit, Nat.mul_one, Nat.zero_add]; exact s1
    have ht' : cs.take (words32 bs i).length = ints .u32 (words32 bs i) := by rw [words32_len]; exact ht
    have hfs := front_set ht' (by rw [words32_len]; omega) (word32 (bs.getD (4 * i) 0) (bs.getD (4 * i + 1) 0) (bs.getD (4 * i + 2) 0) (bs.getD (4 * i + 3) 0))
    rw [words32_len] at hfs
    have hfs' : (cs.set i (.int .u32 (word32 (bs.getD (4 * i) 0) (bs.getD (4 * i + 1) 0) (bs.getD (4 * i + 2) 0) (bs.getD (4 * i + 3) 0)))).take (i + 1) = ints .u32 (words32 bs (i + 1)) := by
      have : (words32 bs i ++ [word32 (bs.getD (4 * i) 0) (bs.getD (4 * i + 1) 0) (bs.getD (4 * i + 2) 0) (bs.getD (4 * i + 3) 0)]).length = i + 1 := by simp [words32_len]
      rw [this] at hfs; exact hfs
    obtain ⟨w2, cs2, h1, h2, h3, h4, h5⟩ := ih (i + 1) n w1 _ (by omega) (by omega) (hr.drew.upd s3 (fun q hq e => hne q hq e)) s2 (by simpa using hc) hfs'
    refine ⟨w2, cs2, ?_, h2, h3, h4, (s3.predrew).trans' h5 fun _ _ e => e⟩
    show digest_narrow_l1_b K (digest_narrow_l1 K n) h0 b ⟨gw, 0, none⟩ (i : Int) w = _
    unfold digest_narrow_l1_b
    rw [hd, if_pos rfl, e4, e44]
    simp only [Int.toNat_natCast, e5]
    rw [if_pos c1, if_pos c2, hsl]
    simp only [Option.bind_some]
    rw [if_pos k0, if_pos k1, if_pos k2, if_pos k3]
    simp only [add_add, Nat.zero_mul, Nat.one_mul, Nat.add_zero, Nat.reduceMul, l0, l1, l2, l3, Option.bind_some]
    rw [if_pos c3]
    show (stC ((⟨gw, 0, none⟩ : Addr).add (i * 1)) (.int .u32 (word32 (bs.getD (4 * i) 0) (bs.getD (4 * i + 1) 0) (bs.getD (4 * i + 2) 0) (bs.getD (4 * i + 3) 0))) w.drew).bind _ = _
    rw [s1', Option.bind_some, e1, h1]

theorem narrow_l2 (K : Nat) (h0 : Option Addr) {b : Sl} {gw : Nat} :
    ∀ (d n : Nat) (w : World) (cs : List Value) (S : List Int), S.length + d = 64 → 16 ≤ S.length → d < n → Bk 174 w gw cs → cs.length = 64 → cs.take S.length = ints .u32 S →
      ∃ w' cs', digest_narrow_l2 K n h0 b ⟨gw, 0, none⟩ ((S.length : Nat) : Int) w = some ((), w') ∧ Bk 174 w' gw cs' ∧ cs' = ints .u32 (ext32 d S) ∧ Upd (· = gw) w w' := by
  intro d
  induction d with
  | zero =>
    intro n w cs S hi h16 hn hb hc ht
    obtain ⟨n, rfl⟩ : ∃ m, n = m + 1 := ⟨n - 1, by omega⟩
    have hS : S.length = 64 := by omega
    refine ⟨w, cs, ?_, hb, ?_, Upd.refl _ _⟩
    · show digest_narrow_l2_b K (digest_narrow_l2 K n) h0 b ⟨gw, 0, none⟩ ((S.length : Nat) : Int) w = _
      rw [hS]
      simp [digest_narrow_l2_b]
    · rw [hS, List.take_of_length_le (by omega)] at ht; exact ht
  | succ d ih =>
    intro n w cs S hi h16 hn hb hc ht
    obtain ⟨n, rfl⟩ : ∃ m, n = m + 1 := ⟨n - 1, by omega⟩
    have hd : decide (((S.length : Nat) : Int) < 64) = true := by simp; omega
    have e15 : IntKind.i64.wrap (((S.length : Nat) : Int) - 15) = ((S.length - 15 : Nat) : Int) := by rw [w64 (by omega) (by omega)]; omega
    have e2 : IntKind.i64.wrap (((S.length : Nat) : Int) - 2) = ((S.length - 2 : Nat) : Int) := by rw [w64 (by omega) (by omega)]; omega
    have e16 : IntKind.i64.wrap (((S.length : Nat) : Int) - 16) = ((S.length - 16 : Nat) : Int) := by rw [w64 (by omega) (by omega)]; omega
    have e7 : IntKind.i64.wrap (((S.length : Nat) : Int) - 7) = ((S.length - 7 : Nat) : Int) := by rw [w64 (by omega) (by omega)]; omega
    have e1 : IntKind.i64.wrap (((S.length : Nat) : Int) + 1) = ((S.length + 1 : Nat) : Int) := by rw [w64 (by omega) (by omega)]; rfl
    have c15 : (0 : Int) ≤ ((S.length - 15 : Nat) : Int) ∧ ((S.length - 15 : Nat) : Int) < ((64 : Nat) : Int) := by omega
    have c2 : (0 : Int) ≤ ((S.length - 2 : Nat) : Int) ∧ ((S.length - 2 : Nat) : Int) < ((64 : Nat) : Int) := by omega
    have c16 : (0 : Int) ≤ ((S.length - 16 : Nat) : Int) ∧ ((S.length - 16 : Nat) : Int) < ((64 : Nat) : Int) := by omega
    have c7 : (0 : Int) ≤ ((S.length - 7 : Nat) : Int) ∧ ((S.length - 7 : Nat) : Int) < ((64 : Nat) : Int) := by omega
    have c0 : (0 : Int) ≤ ((S.length : Nat) : Int) ∧ ((S.length : Nat) : Int) < ((64 : Nat) : Int) := by omega
    have l15 := hb.drew.ldI (row_front ht (i := S.length - 15) (by omega))
    have l2 := hb.drew.ldI (row_front ht (i := S.length - 2) (by omega))
    have l16 := hb.drew.drew.ldI (row_front ht (i := S.length - 16) (by omega))
    have l7 := hb.drew.drew.ldI (row_front ht (i := S.length - 7) (by omega))
    have r7 := RL32 (S.getD (S.length - 15) 0) (n := 7) (by decide) (by decide)
    have r18 := RL32 (S.getD (S.length - 15) 0) (n := 18) (by decide) (by decide)
    have r17 := RL32 (S.getD (S.length - 2) 0) (n := 17) (by decide) (by decide)
    have r19 := RL32 (S.getD (S.length - 2) 0) (n := 19) (by decide) (by decide)
    have r7 : bits_RotateLeft32 (S.getD (S.length - 15) 0) (-7) = some (rr32 (S.getD (S.length - 15) 0) 7, ()) := r7
    have r18 : bits_RotateLeft32 (S.getD (S.length - 15) 0) (-18) = some (rr32 (S.getD (S.length - 15) 0) 18, ()) := r18
    have r17 : bits_RotateLeft32 (S.getD (S.length - 2) 0) (-17) = some (rr32 (S.getD (S.length - 2) 0) 17, ()) := r17
    have r19 : bits_RotateLeft32 (S.getD (S.length - 2) 0) (-19) = some (rr32 (S.getD (S.length - 2) 0) 19, ()) := r19
    let x := sch32 (S.getD (S.length - 15) 0) (S.getD (S.length - 2) 0) (S.getD (S.length - 16) 0) (S.getD (S.length - 7) 0)
    obtain ⟨w1, s1, s2, s3⟩ := hb.drew.drew.stC (i := S.length) (by omega) (.int .u32 x)
    have s1' : stC ((⟨gw, 0, none⟩ : Addr).add (S.length * 1)) (.int .u32 x) w.drew.drew = some w1 := by rw [add_lit, Nat.mul_one, Nat.zero_add]; exact s1
    have hfs := front_set ht (by omega) x
    have hSl : (S ++ [x]).length = S.length + 1 := by simp
    obtain ⟨w2, cs2, h1, h2, h3, h5⟩ := ih n w1 _ (S ++ [x]) (by rw [hSl]; omega) (by rw [hSl]; omega) (by omega) s2 (by simpa using hc) hfs
    rw [hSl] at h1
    refine ⟨w2, cs2, ?_, h2, by rw [h3]; rfl, (s3.predrew.predrew).trans' h5 fun _ _ e => e⟩
    show digest_narrow_l2_b K (digest_narrow_l2 K n) h0 b ⟨gw, 0, none⟩ ((S.length : Nat) : Int) w = _
    unfold digest_narrow_l2_b
    rw [hd, if_pos rfl, e15, e2, e16, e7]
    simp only [Int.toNat_natCast]
    rw [if_pos c15, if_pos c2]
    simp only [add_lit, Nat.mul_one, Nat.zero_add]
    rw [l15, Option.bind_some, l2, Option.bind_some, if_pos c16, if_pos c7, l16, Option.bind_some, l7, Option.bind_some, r7, Option.bind_some, r18, Option.bind_some, r17, Option.bind_some, r19, Option.bind_some, if_pos c0]
    show (stC ⟨gw, S.length, none⟩ (.int .u32 x) w.drew.drew).bind _ = _
    rw [s1, Option.bind_some, e1, h1]

theorem at_get {κ : IntKind} {cs : List Value} {xs : List Int} {o i : Nat} (h : (cs.drop o).take xs.length = ints κ xs) (hi : i < xs.length) : cs[o + i]? = some (.int κ (xs.getD i 0)) := by
  have := row_front h hi
  rwa [List.getElem?_drop] at this

theorem narrow_l3 (K : Nat) {gh oh gv : Nat} {b : Sl} {w4 : Addr} {eh : TypeId} {H : List Int} (hH : H.length = 8) {ch : List Value} (hne : gh ≠ gv) (hAt : (ch.drop oh).take 8 = ints .u64 H) :
    ∀ (d i n : Nat) (w : World) (cs : List Value), i + d = 8 → d < n → Bk eh w gh ch → Bk 176 w gv cs → cs.length = 8 → cs.take i = ints .u32 ((H.map IntKind.u32.wrap).take i) →
      ∃ w', digest_narrow_l3 K n (some ⟨gh, oh, none⟩) b w4 ⟨gv, 0, none⟩ (i : Int) w = some ((), w') ∧ Bk 176 w' gv (ints .u32 (H.map IntKind.u32.wrap)) ∧ Upd (· = gv) w w' := by
  intro d
  induction d with
  | zero =>
    intro i n w cs hi hn hbh hb hc ht
    obtain ⟨n, rfl⟩ : ∃ m, n = m + 1 := ⟨n - 1, by omega⟩
    have : i = 8 := by omega
    subst this
    rw [List.take_of_length_le (by omega), List.take_of_length_le (by simp [hH])] at ht
    refine ⟨w, ?_, ht ▸ hb, Upd.refl _ _⟩
    show digest_narrow_l3_b K (digest_narrow_l3 K n) (some ⟨gh, oh, none⟩) b w4 ⟨gv, 0, none⟩ ((8 : Nat) : Int) w = _
    simp [digest_narrow_l3_b]
  | succ d ih =>
    intro i n w cs hi hn hbh hb hc ht
    obtain ⟨n, rfl⟩ : ∃ m, n = m + 1 := ⟨n - 1, by omega⟩
    have hd : decide ((i : Int) < 8) = true := by simp; omega
    have e1 : IntKind.i64.wrap ((i : Int) + 1) = ((i + 1 : Nat) : Int) := by rw [w64 (by omega) (by omega)]; rfl
    have c0 : (0 : Int) ≤ (i : Int) ∧ (i : Int) < ((8 : Nat) : Int) := by omega
    have hAt' : (ch.drop oh).take H.length = ints .u64 H := by rw [hH]; exact hAt
    have l0 := hbh.ldI (at_get hAt' (i := i) (by omega))
    obtain ⟨w1, s1, s2, s3⟩ := hb.stC (i := i) (by omega) (.int .u32 (IntKind.u32.wrap (H.getD i 0)))
    have hlen : ((H.map IntKind.u32.wrap).take i).length = i := by simp [hH]; omega
    have ht' : cs.take ((H.map IntKind.u32.wrap).take i).length = ints .u32 ((H.map IntKind.u32.wrap).take i) := by rw [hlen]; exact ht
    have hfs := front_set ht' (by rw [hlen]; omega) (IntKind.u32.wrap (H.getD i 0))
    have hstep : (H.map IntKind.u32.wrap).take i ++ [IntKind.u32.wrap (H.getD i 0)] = (H.map IntKind.u32.wrap).take (i + 1) := by
      have hi8 : i < H.length := by omega
      rw [List.take_add_one, List.getElem?_map, List.getElem?_eq_getElem hi8, List.getD_eq_getElem?_getD, List.getElem?_eq_getElem hi8]
      rfl
    rw [hlen, hstep] at hfs
    have hfs' : (cs.set i (.int .u32 (IntKind.u32.wrap (H.getD i 0)))).take (i + 1) = ints .u32 ((H.map IntKind.u32.wrap).take (i + 1)) := by
      have : ((H.map IntKind.u32.wrap).take (i + 1)).length = i + 1 := by simp [hH]; omega
      rw [this] at hfs; exact hfs
    obtain ⟨w2, h1, h2, h3⟩ := ih (i + 1) n w1 _ (by omega) (by omega) (hbh.upd s3 hne) s2 (by simpa using hc) hfs'
    refine ⟨w2, ?_, h2, s3.trans' h3 fun _ _ e => e⟩
    show digest_narrow_l3_b K (digest_narrow_l3 K n) (some ⟨gh, oh, none⟩) b w4 ⟨gv, 0, none⟩ (i : Int) w = _
    unfold digest_narrow_l3_b
    rw [hd, if_pos rfl, Option.bind_some, if_pos c0]
    simp only [Int.toNat_natCast, add_lit, Nat.mul_one, Nat.zero_add]
    rw [l0, Option.bind_some, if_pos c0, s1, Option.bind_some, e1, h1]

theorem narrow_l4 (K : Nat) {h0 : Option Addr} {b : Sl} {gw : Nat} {v10 : Addr} {W C : List Int} (hW : W.length = 64) (hC : C.length = 80) :
    ∀ (m i n : Nat) (w : World) (a b1 c d e f g k : Int), i + m = 64 → m < n → Bk 174 w gw (ints .u32 W) → Rd w ⟨3, 0, none⟩ (ints .u64 C) →
      ∃ w', digest_narrow_l4 K n h0 b ⟨gw, 0, none⟩ v10 a b1 c d e f g k (i : Int) w = some (rounds32 W C m i a b1 c d e f g k, w') ∧ Upd none_ w w' := by
  intro m
  induction m with
  | zero =>
    intro i n w a b1 c d e f g k hi hn hb hr
    obtain ⟨n, rfl⟩ : ∃ m, n = m + 1 := ⟨n - 1, by omega⟩
    have : i = 64 := by omega
    subst this
    refine ⟨w, ?_, Upd.refl _ _⟩
    show digest_narrow_l4_b K (digest_narrow_l4 K n) h0 b ⟨gw, 0, none⟩ v10 a b1 c d e f g k ((64 : Nat) : Int) w = _
    simp [digest_narrow_l4_b, rounds32]
  | succ m ih =>
    intro i n w a b1 c d e f g k hi hn hb hr
    obtain ⟨n, rfl⟩ : ∃ m, n = m + 1 := ⟨n - 1, by omega⟩
    have hd : decide ((i : Int) < 64) = true := by simp; omega
    have e1 : IntKind.i64.wrap ((i : Int) + 1) = ((i + 1 : Nat) : Int) := by rw [w64 (by omega) (by omega)]; rfl
    have c80 : (0 : Int) ≤ (i : Int) ∧ (i : Int) < ((80 : Nat) : Int) := by omega
    have c64 : (0 : Int) ≤ (i : Int) ∧ (i : Int) < ((64 : Nat) : Int) := by omega
    have l0 : ldI .u64 ⟨3, i, none⟩ w = some (C.getD i 0) := by
      have := hr i (.int .u64 (C.getD i 0)) (by simp [ints, List.getD_eq_getElem?_getD, show i < C.length by omega])
      rw [add_lit, Nat.zero_add] at this
      simp [ldI, this, asI]
    have l1 : ldI .u32 ⟨gw, i, none⟩ w.drew = some (W.getD i 0) := hb.drew.ldI (by simp [ints, List.getD_eq_getElem?_getD, show i < W.length by omega])
    have r6 : bits_RotateLeft32 e (-6) = some (rr32 e 6, ()) := RL32 e (n := 6) (by decide) (by decide)
    have r11 : bits_RotateLeft32 e (-11) = some (rr32 e 11, ()) := RL32 e (n := 11) (by decide) (by decide)
    have r25 : bits_RotateLeft32 e (-25) = some (rr32 e 25, ()) := RL32 e (n := 25) (by decide) (by decide)
    have r2 : bits_RotateLeft32 a (-2) = some (rr32 a 2, ()) := RL32 a (n := 2) (by decide) (by decide)
    have r13 : bits_RotateLeft32 a (-13) = some (rr32 a 13, ()) := RL32 a (n := 13) (by decide) (by decide)
    have r22 : bits_RotateLeft32 a (-22) = some (rr32 a 22, ()) := RL32 a (n := 22) (by decide) (by decide)
    obtain ⟨w1, h1, h2⟩ := ih (i + 1) n w.drew (IntKind.u32.wrap (t1_32 e f g k (IntKind.u32.wrap (Int.fdiv (C.getD i 0) (2 ^ 32))) (W.getD i 0) + t2_32 a b1 c)) a b1 c
      (IntKind.u32.wrap (d + t1_32 e f g k (IntKind.u32.wrap (Int.fdiv (C.getD i 0) (2 ^ 32))) (W.getD i 0))) e f g (by omega) (by omega) hb.drew (hr.upd (S := none_) (Upd.refl _ _).drew fun _ => id)
    refine ⟨w1, ?_, h2.predrew⟩
    show digest_narrow_l4_b K (digest_narrow_l4 K n) h0 b ⟨gw, 0, none⟩ v10 a b1 c d e f g k (i : Int) w = _
    unfold digest_narrow_l4_b
    rw [hd, if_pos rfl, if_pos c80]
    simp only [Int.toNat_natCast, add_lit, Nat.mul_one, Nat.zero_add]
    rw [l0, Option.bind_some, if_pos c64, r6, Option.bind_some, r11, Option.bind_some, r25, Option.bind_some, l1, Option.bind_some, r2, Option.bind_some, r13, Option.bind_some, r22, Option.bind_some, e1]
    exact h1

theorem built176 (x0 x1 x2 x3 x4 x5 x6 x7 : Int) : prog.built 176 [(0, (.int .u32 x0)), (1, (.int .u32 x1)), (2, (.int .u32 x2)), (3, (.int .u32 x3)), (4, (.int .u32 x4)), (5, (.int .u32 x5)), (6, (.int .u32 x6)), (7, (.int .u32 x7))] =
    some (ints .u32 [x0, x1, x2, x3, x4, x5, x6, x7]).toArray := by kernel_rfl

theorem seg_snoc {cs vs : List Value} {o : Nat} (h : o + vs.length < cs.length) (v : Value) : (seg cs o vs).set (o + vs.length) v = seg cs o (vs ++ [v]) := by
  apply List.ext_getElem?
  intro i
  rw [List.getElem?_set, seg_length (by omega), seg_get (by omega), seg_get (by simp; omega)]
  simp only [List.length_append, List.length_cons, List.length_nil, Nat.zero_add]
  by_cases h1 : o + vs.length = i
  · subst h1
    rw [if_pos rfl, if_pos h, if_neg (by omega), if_pos (by omega)]
    simp
  · rw [if_neg h1]
    by_cases h2 : i < o
    · simp [h2]
    · rw [if_neg h2, if_neg h2]
      by_cases h3 : i < o + vs.length
      · rw [if_pos h3, if_pos (by omega), List.getElem?_append_left (by omega)]
      · rw [if_neg h3, if_neg (by omega)]

theorem seg_nil (cs : List Value) (o : Nat) : seg cs o [] = cs := by simp [seg]

theorem narrow_l5 (K : Nat) {gh oh gv : Nat} {b : Sl} {w4 : Addr} {eh : TypeId} {v x : List Int} (hv : v.length = 8) (hx : x.length = 8) {ch : List Value} (hne : gh ≠ gv) (hch : oh + 8 ≤ ch.length) :
    ∀ (d i n : Nat) (w : World), i + d = 8 → d < n → Bk eh w gh (seg ch oh (ints .u64 ((sum8 v x).take i))) → Bk 176 w gv (ints .u32 v) →
      ∃ w', digest_narrow_l5 K n (some ⟨gh, oh, none⟩) b w4 ⟨gv, 0, none⟩ (ints .u32 x).toArray (i : Int) w = some ((), w') ∧
        Bk eh w' gh (seg ch oh (ints .u64 (sum8 v x))) ∧ Upd (· = gh) w w' := by
  intro d
  induction d with
  | zero =>
    intro i n w hi hn hb hbv
    obtain ⟨n, rfl⟩ : ∃ m, n = m + 1 := ⟨n - 1, by omega⟩
    have : i = 8 := by omega
    subst this
    rw [List.take_of_length_le (by simp [sum8])] at hb
    refine ⟨w, ?_, hb, Upd.refl _ _⟩
    show digest_narrow_l5_b K (digest_narrow_l5 K n) (some ⟨gh, oh, none⟩) b w4 ⟨gv, 0, none⟩ (ints .u32 x).toArray ((8 : Nat) : Int) w = _
    simp [digest_narrow_l5_b]
  | succ d ih =>
    intro i n w hi hn hb hbv
    obtain ⟨n, rfl⟩ : ∃ m, n = m + 1 := ⟨n - 1, by omega⟩
    have hd : decide ((i : Int) < 8) = true := by simp; omega
    have e1 : IntKind.i64.wrap ((i : Int) + 1) = ((i + 1 : Nat) : Int) := by rw [w64 (by omega) (by omega)]; rfl
    have c0 : (0 : Int) ≤ (i : Int) ∧ (i : Int) < ((8 : Nat) : Int) := by omega
    have hxi : i < x.length := by omega
    have hvi : i < v.length := by omega
    have hg : (ints .u32 x).toArray[i]? = some (.int .u32 (x.getD i 0)) := by
      rw [List.getElem?_toArray]; simp [ints, List.getD_eq_getElem?_getD, hxi]
    have l0 : ldI .u32 ⟨gv, i, none⟩ w.drew = some (v.getD i 0) := hbv.drew.ldI (by simp [ints, List.getD_eq_getElem?_getD, hvi])
    let out := sum8 v x
    have hol : (ints .u64 (out.take i)).length = i := by simp [ints, out, sum8]; omega
    have hsl : (seg ch oh (ints .u64 (out.take i))).length = ch.length := seg_length (by rw [hol]; omega)
    obtain ⟨w1, s1, s2, s3⟩ := hb.drew.stC (i := oh + i) (by rw [hsl]; omega) (.int .u64 (IntKind.u64.wrap (IntKind.u32.wrap (v.getD i 0 + x.getD i 0))))
    have hstep : (seg ch oh (ints .u64 (out.take i))).set (oh + i) (.int .u64 (IntKind.u64.wrap (IntKind.u32.wrap (v.getD i 0 + x.getD i 0)))) = seg ch oh (ints .u64 (out.take (i + 1))) := by
      have h1 := seg_snoc (cs := ch) (vs := ints .u64 (out.take i)) (o := oh) (by rw [hol]; omega) (.int .u64 (IntKind.u64.wrap (IntKind.u32.wrap (v.getD i 0 + x.getD i 0))))
      rw [hol] at h1
      rw [h1]
      congr 1
      rw [List.take_add_one, ints_append]
      congr 1
      have : out[i]? = some (IntKind.u64.wrap (IntKind.u32.wrap (v.getD i 0 + x.getD i 0))) := by
        simp only [out, sum8, List.getElem?_map, List.getElem?_range (show i < 8 by omega)]; rfl
      rw [this]; rfl
    rw [hstep] at s2
    obtain ⟨w2, h1, h2, h3⟩ := ih (i + 1) n w1 (by omega) (by omega) s2 (hbv.drew.upd s3 (fun e => hne e.symm))
    refine ⟨w2, ?_, h2, s3.predrew.trans' h3 fun _ _ e => e⟩
    show digest_narrow_l5_b K (digest_narrow_l5 K n) (some ⟨gh, oh, none⟩) b w4 ⟨gv, 0, none⟩ (ints .u32 x).toArray (i : Int) w = _
    unfold digest_narrow_l5_b
    rw [hd, if_pos rfl, if_pos c0]
    simp only [Int.toNat_natCast, add_lit, Nat.mul_one, Nat.zero_add]
    rw [hg, Option.bind_some]
    simp only [asI, if_true, Option.bind_some]
    rw [if_pos c0, l0, Option.bind_some, if_pos c0, add_lit, s1, Option.bind_some, e1, h1]

/-- ONE BLOCK: of a slice of at least 64 bytes that lies in another block than the words, or whose bytes do. -/
theorem narrow_block {K : Nat} (hK : 18446744073709551616 ≤ K) (rec : Option Addr → Sl → Addr → World → Option (Unit × World)) {gh oh gw : Nat} {b : Sl} {eh : TypeId} {bs H C : List Int} (hH : H.length = 8) (hC : C.length = 80) {ch : List Value}
    (hbl : 64 ≤ bs.length) (hlim : bs.length ≤ 140737488355328) (hbw : ∀ p, b.a = some p → p.block ≠ gw) (hhw : gh ≠ gw) (hch : oh + 8 ≤ ch.length) (hAt : (ch.drop oh).take 8 = ints .u64 H)
    {w : World} {cw : List Value} (hr : RdS .u8 w b bs) (hbh : Bk eh w gh ch) (hb : Bk 174 w gw cw) (hcw : cw.length = 64) (hT : Rd w ⟨3, 0, none⟩ (ints .u64 C)) (hg2 : gw ≠ 3) :
    ∃ w' cw', digest_narrow_l0_b K rec (some ⟨gh, oh, none⟩) b ⟨gw, 0, none⟩ w = rec (some ⟨gh, oh, none⟩) ⟨sla b.a 64 b.cap 1, b.len - 64, b.cap - 64⟩ ⟨gw, 0, none⟩ w' ∧
      Bk eh w' gh (seg ch oh (ints .u64 (comp32 C H bs))) ∧ Bk 174 w' gw cw' ∧ cw'.length = 64 ∧ Upd (fun k => k = gh ∨ k = gw) w w' := by
  obtain ⟨w1, c1, h1, b1, l1, t1, u1⟩ := narrow_l1 K (some ⟨gh, oh, none⟩) hbl hlim hbw 16 0 K w cw rfl (by omega) hr hb hcw (by simp [words32])
  have h1 : digest_narrow_l1 K K (some ⟨gh, oh, none⟩) b ⟨gw, 0, none⟩ 0 w = _ := h1
  obtain ⟨w2, c2, h2, b2, t2, u2⟩ := narrow_l2 K (some ⟨gh, oh, none⟩) (b := b) 48 K w1 c1 (words32 bs 16) (by rw [words32_len]) (by rw [words32_len]; decide) (by omega) b1 l1 (by rw [words32_len]; exact t1)
  rw [words32_len] at h2
  have h2 : digest_narrow_l2 K K (some ⟨gh, oh, none⟩) b ⟨gw, 0, none⟩ 16 w1 = _ := h2
  rw [t2] at b2
  obtain ⟨w3, n3, b3, u3, z3⟩ := newB_ok z176 176 w2
  have b3 : Bk 176 w3 w2.heap.size z176.toList := b3
  have hbh2 : Bk eh w2 gh ch := (hbh.upd u1 hhw).upd u2 hhw
  have hgv : gh ≠ w2.heap.size := fun e => by have := hbh2.lt; omega
  have hgwv : gw ≠ w2.heap.size := fun e => by have := b2.lt; omega
  obtain ⟨w4, h4, b4, u4⟩ := narrow_l3 K (b := b) (w4 := ⟨gw, 0, none⟩) hH hgv hAt 8 0 K w3 _ rfl (by omega) (hbh2.upd0 u3) b3 rfl (by simp)
  have h4 : digest_narrow_l3 K K (some ⟨gh, oh, none⟩) b ⟨gw, 0, none⟩ ⟨w2.heap.size, 0, none⟩ 0 w3 = _ := h4
  have hT4 : Rd w4 ⟨3, 0, none⟩ (ints .u64 C) := by
    have hlt := hT.lt (fun e => by have := congrArg List.length e; simp [hC] at this)
    have hlt : 3 < w.heap.size := hlt
    have := u1.size; have := u2.size
    exact (((hT.upd u1 fun _ e => hg2 e.symm).upd u2 fun _ e => hg2 e.symm).upd u3 fun _ => id).upd u4 fun _ e => (by have e : 3 = w2.heap.size := e; omega)
  have b4w : Bk 174 w4 gw (ints .u32 (ext32 48 (words32 bs 16))) := (b2.upd0 u3).upd u4 hgwv
  have hvl : (H.map IntKind.u32.wrap).length = 8 := by rw [List.length_map, hH]
  have lv : ∀ i, i < 8 → ldI .u32 ⟨w2.heap.size, i, none⟩ w4.drew = some ((H.map IntKind.u32.wrap).getD i 0) := fun i hi => b4.drew.ldI (by
    have : i < (H.map IntKind.u32.wrap).length := by omega
    rw [ints, List.getElem?_map, List.getElem?_eq_getElem this, List.getD_eq_getElem?_getD, List.getElem?_eq_getElem this]; rfl)
  have h5x := narrow_l4 K (h0 := some ⟨gh, oh, none⟩) (b := b) (v10 := ⟨w2.heap.size, 0, none⟩) (W := ext32 48 (words32 bs 16)) (by rw [ext32_len, words32_len]) hC 64 0 K w4.drew ((H.map IntKind.u32.wrap).getD 0 0) ((H.map IntKind.u32.wrap).getD 1 0) ((H.map IntKind.u32.wrap).getD 2 0) ((H.map IntKind.u32.wrap).getD 3 0) ((H.map IntKind.u32.wrap).getD 4 0) ((H.map IntKind.u32.wrap).getD 5 0) ((H.map IntKind.u32.wrap).getD 6 0) ((H.map IntKind.u32.wrap).getD 7 0) rfl (by omega) b4w.drew
    (hT4.upd (S := none_) (Upd.refl _ _).drew fun _ => id)
  obtain ⟨y, hy⟩ : ∃ y, rv32 C H bs = y := ⟨_, rfl⟩
  unfold rv32 at hy
  rw [hy] at h5x
  obtain ⟨w5, h5, u5⟩ := h5x
  have hc : comp32 C H bs = sum8 (H.map IntKind.u32.wrap) (list8 y) := by unfold comp32 rv32; rw [hy]
  rw [hc]
  have b5v := (b4.drew).upd0 u5
  have b5h : Bk eh w5 gh (seg ch oh (ints .u64 ((sum8 (H.map IntKind.u32.wrap) (list8 y)).take 0))) := by
    rw [List.take_zero]
    show Bk eh w5 gh (seg ch oh [])
    rw [seg_nil]
    exact ((((hbh2.upd0 u3).upd u4 hgv).drew).upd0 u5)
  obtain ⟨w6, h6, b6, u6⟩ := narrow_l5 K (b := b) (w4 := ⟨gw, 0, none⟩) hvl (x := list8 y) rfl hgv hch 8 0 K w5 rfl (by omega) b5h b5v
  refine ⟨w6, _, ?_, b6, ((((b4w).drew).upd0 u5)).upd u6 (fun e => hhw e.symm), by simp [ints, ext32_len, words32_len], ?_⟩
  · have hlen := hr.len
    have hd : decide (((b.len : Nat) : Int) ≥ 64) = true := by simp; omega
    have k64 : (0 : Int) ≤ 64 ∧ (64 : Int) ≤ ((b.len : Nat) : Int) := by omega
    unfold digest_narrow_l0_b
    rw [hd, if_pos rfl, h1, bnd_ok, h2, bnd_ok, n3, bnd_ok, h4, bnd_ok]
    simp only [add_lit, Nat.zero_mul, Nat.one_mul, Nat.add_zero, Nat.zero_add, Nat.reduceMul]
    rw [lv 0 (by decide), Option.bind_some, lv 1 (by decide), Option.bind_some, lv 2 (by decide), Option.bind_some, lv 3 (by decide), Option.bind_some, lv 4 (by decide), Option.bind_some, lv 5 (by decide), Option.bind_some, lv 6 (by decide), Option.bind_some, lv 7 (by decide), Option.bind_some]
    have h5' : digest_narrow_l4 K K (some ⟨gh, oh, none⟩) b ⟨gw, 0, none⟩ ⟨w2.heap.size, 0, none⟩ ((H.map IntKind.u32.wrap).getD 0 0) ((H.map IntKind.u32.wrap).getD 1 0) ((H.map IntKind.u32.wrap).getD 2 0) ((H.map IntKind.u32.wrap).getD 3 0) ((H.map IntKind.u32.wrap).getD 4 0) ((H.map IntKind.u32.wrap).getD 5 0) ((H.map IntKind.u32.wrap).getD 6 0) ((H.map IntKind.u32.wrap).getD 7 0) 0 w4.drew = some (y, w5) := h5
    have h6' : digest_narrow_l5 K K (some ⟨gh, oh, none⟩) b ⟨gw, 0, none⟩ ⟨w2.heap.size, 0, none⟩ (ints .u32 [y.1, y.2.1, y.2.2.1, y.2.2.2.1, y.2.2.2.2.1, y.2.2.2.2.2.1, y.2.2.2.2.2.2.1, y.2.2.2.2.2.2.2.1]).toArray 0 w5 = some ((), w6) := h6
    rw [h5', bnd_ok, built176, Option.bind_some, h6', bnd_ok, if_pos k64]
  · have q1 : Upd (fun k => k = gh ∨ k = gw) w w2 := (u1.trans' u2 fun _ _ e => e).mono fun _ _ e => .inr e
    have q2 : Upd (fun k => k = gh ∨ k = gw) w w4 := (q1.and0 u3).trans' u4 fun k hk e => by
      have := u1.size; have := u2.size; omega
    exact (q2.drew.and0 u5).trans' u6 fun _ _ e => .inl e

theorem seg_seg {cs a b : List Value} {o : Nat} (h : a.length = b.length) (hl : o + a.length ≤ cs.length) : seg (seg cs o a) o b = seg cs o b := by
  apply List.ext_getElem?
  intro i
  have h1 : (seg cs o a).length = cs.length := seg_length hl
  rw [seg_get (cs := seg cs o a) (by omega), seg_get (cs := cs) (vs := b) (by omega), seg_get hl]
  by_cases c1 : i < o
  · simp [c1]
  · by_cases c2 : i < o + b.length
    · simp [c1, c2]
    · simp [c1, c2, h]

theorem seg_at {cs a : List Value} {o : Nat} (hl : o + a.length ≤ cs.length) : ((seg cs o a).drop o).take a.length = a := by
  simp only [seg, List.append_assoc]
  rw [List.drop_left' (by simp; omega), List.take_left]

theorem narrow_loop {K : Nat} (hK : 18446744073709551616 ≤ K) {gh oh gw : Nat} {eh : TypeId} {C : List Int} (hC : C.length = 80) (hhw : gh ≠ gw) (hg2 : gw ≠ 3) (hg3 : gh ≠ 3) :
    ∀ (m n : Nat) (w : World) (b : Sl) (bs H : List Int) (ch cw : List Value), bs.length / 64 = m → m < n → bs.length ≤ 140737488355328 → H.length = 8 → oh + 8 ≤ ch.length → (ch.drop oh).take 8 = ints .u64 H →
      (∀ p, b.a = some p → bs ≠ [] → p.block ≠ gw) → ((∀ p, b.a = some p → p.block ≠ gh) ∨ bs.length < 128) → RdS .u8 w b bs → Bk eh w gh ch → Bk 174 w gw cw → cw.length = 64 → Rd w ⟨3, 0, none⟩ (ints .u64 C) →
      ∃ w', digest_narrow_l0 K n (some ⟨gh, oh, none⟩) b ⟨gw, 0, none⟩ w = some ((), w') ∧ Bk eh w' gh (seg ch oh (ints .u64 (comps32 C m H bs))) ∧ Upd (fun k => k = gh ∨ k = gw) w w' := by
  intro m
  induction m with
  | zero =>
    intro n w b bs H ch cw hm hn hlim hH hch hAt hbw hbh hr hb hw hcw hT
    obtain ⟨n, rfl⟩ : ∃ k, n = k + 1 := ⟨n - 1, by omega⟩
    refine ⟨w, ?_, ?_, Upd.refl _ _⟩
    · show digest_narrow_l0_b K (digest_narrow_l0 K n) (some ⟨gh, oh, none⟩) b ⟨gw, 0, none⟩ w = _
      have hd : decide (((b.len : Nat) : Int) ≥ 64) = false := by rw [hr.len]; simp; omega
      unfold digest_narrow_l0_b
      rw [hd, if_neg (by decide)]
    · have : seg ch oh (ints .u64 (comps32 C 0 H bs)) = ch := by
        show seg ch oh (ints .u64 H) = ch
        rw [← hAt]
        apply List.ext_getElem?
        intro i
        have hl : ((ch.drop oh).take 8).length = 8 := by simp; omega
        rw [seg_get (by omega), hl]
        by_cases c1 : i < oh
        · simp [c1]
        · by_cases c2 : i < oh + 8
          · rw [if_neg c1, if_pos c2, List.getElem?_take, if_pos (by omega), List.getElem?_drop]; congr 1; omega
          · rw [if_neg c1, if_neg c2]
      rw [this]; exact hb
  | succ m ih =>
    intro n w b bs H ch cw hm hn hlim hH hch hAt hbw hbh hr hb hw hcw hT
    obtain ⟨n, rfl⟩ : ∃ k, n = k + 1 := ⟨n - 1, by omega⟩
    have h64 : 64 ≤ bs.length := by omega
    have hbs : bs ≠ [] := fun e => by rw [e] at h64; simp at h64
    replace hbw : ∀ p, b.a = some p → p.block ≠ gw := fun p hp => hbw p hp hbs
    obtain ⟨w1, cw1, h1, b1, bw1, l1, u1⟩ := narrow_block hK (digest_narrow_l0 K n) hH hC h64 hlim hbw hhw hch hAt hr hb hw hcw hT hg2
    have hcl : (ints .u64 (comp32 C H bs)).length = 8 := by rw [ints_length, comp32_len]
    have hT1 := hT.upd u1 fun _ e => by rcases e with e | e; exact hg3 e.symm; exact hg2 e.symm
    have hlen := hr.len
    have hcap := hr.cap
    by_cases hz : bs.length < 128
    · -- the last one: what is left is not read
      have hm0 : m = 0 := by omega
      subst hm0
      obtain ⟨n, rfl⟩ : ∃ k, n = k + 1 := ⟨n - 1, by omega⟩
      refine ⟨w1, ?_, b1, u1⟩
      show digest_narrow_l0_b K (digest_narrow_l0 K (n + 1)) (some ⟨gh, oh, none⟩) b ⟨gw, 0, none⟩ w = _
      rw [h1]
      show digest_narrow_l0_b K (digest_narrow_l0 K n) (some ⟨gh, oh, none⟩) ⟨sla b.a 64 b.cap 1, b.len - 64, b.cap - 64⟩ ⟨gw, 0, none⟩ w1 = _
      have hd : decide (((b.len - 64 : Nat) : Int) ≥ 64) = false := by rw [hlen]; simp; omega
      unfold digest_narrow_l0_b
      rw [hd, if_neg (by decide)]
    · have hbg : ∀ p, b.a = some p → p.block ≠ gh := by
        rcases hbh with h | h
        · exact h
        · omega
      have hr1 := (hr.upd u1 fun p hp e => by rcases e with e | e; exact hbg p hp e; exact hbw p hp e).sub (lo := 64) (hi := bs.length) h64 (Nat.le_refl _)
      rw [List.take_length] at hr1
      have hblk : ∀ q, sla b.a 64 b.cap 1 = some q → ∃ p, b.a = some p ∧ q.block = p.block := by
        intro q hq
        unfold sla at hq
        split at hq
        · exact ⟨q, hq, rfl⟩
        · cases hb' : b.a with
          | none => rw [hb'] at hq; simp at hq
          | some p => rw [hb'] at hq; simp at hq; exact ⟨p, rfl, by rw [← hq]; unfold Addr.add; split <;> rfl⟩
      obtain ⟨w2, h2, b2, u2⟩ := ih n w1 ⟨sla b.a 64 b.cap 1, bs.length - 64, b.cap - 64⟩ (bs.drop 64) (comp32 C H bs) (seg ch oh (ints .u64 (comp32 C H bs))) cw1 (by simp; omega) (by omega) (by simp; omega) (comp32_len C H bs)
        (by rw [seg_length (by omega)]; exact hch) (by have := seg_at (cs := ch) (a := ints .u64 (comp32 C H bs)) (o := oh) (by omega); rwa [hcl] at this)
        (fun q hq _ => by obtain ⟨p, hp, e⟩ := hblk q hq; rw [e]; exact hbw p hp) (.inl fun q hq => by obtain ⟨p, hp, e⟩ := hblk q hq; rw [e]; exact hbg p hp) hr1 b1 bw1 l1 hT1
      refine ⟨w2, ?_, ?_, u1.trans' u2 fun _ _ e => e⟩
      · show digest_narrow_l0_b K (digest_narrow_l0 K n) (some ⟨gh, oh, none⟩) b ⟨gw, 0, none⟩ w = _
        rw [h1, hlen, h2]
      · rw [seg_seg (by rw [hcl, ints_length, comps32_len C m _ _ (comp32_len C H bs)]) (by omega)] at b2
        exact b2

/-- narrow: the blocks of a slice are taken. -/
theorem narrow_ok {K : Nat} (hK : 18446744073709551616 ≤ K) {gh oh : Nat} {eh : TypeId} {C : List Int} (hC : C.length = 80) (hg3 : gh ≠ 3) {w : World} {b : Sl} {bs H : List Int} {ch : List Value}
    (hlim : bs.length ≤ 140737488355328) (hH : H.length = 8) (hch : oh + 8 ≤ ch.length) (hAt : (ch.drop oh).take 8 = ints .u64 H)
    (hbv : ∀ p, b.a = some p → bs ≠ [] → p.block < w.heap.size) (hbh : (∀ p, b.a = some p → p.block ≠ gh) ∨ bs.length < 128) (hr : RdS .u8 w b bs) (hb : Bk eh w gh ch) (hT : Rd w ⟨3, 0, none⟩ (ints .u64 C)) :
    ∃ w', digest_narrow K (some ⟨gh, oh, none⟩) b w = some ((), w') ∧ Bk eh w' gh (seg ch oh (ints .u64 (comps32 C (bs.length / 64) H bs))) ∧ Upd (· = gh) w w' := by
  obtain ⟨w1, n1, b1, u1, z1⟩ := newB_ok z174 174 w
  have b1 : Bk 174 w1 w.heap.size z174.toList := b1
  have hlt : 3 < w.heap.size := hT.lt (fun e => by have := congrArg List.length e; simp [hC] at this)
  obtain ⟨w2, h2, b2, u2⟩ := narrow_loop hK hC (gw := w.heap.size) (fun e => by have := hb.lt; omega) (by omega) hg3 (bs.length / 64) K w1 b bs H ch _ rfl (by omega) hlim hH hch hAt
    (fun p hp hne e => by have := hbv p hp hne; omega) hbh (hr.upd0 u1) (hb.upd0 u1) b1 rfl (hT.upd u1 fun _ => id)
  refine ⟨w2, ?_, b2, (u1.mono fun _ _ e => e.elim).trans' u2 fun k hk e => by rcases e with e | e; exact e; omega⟩
  unfold digest_narrow
  rw [n1, bnd_ok, h2, bnd_ok]

end Go.Sh

/- Package digest: wide takes blocks: what it computes. -/
set_option linter.unusedVariables false
namespace Go.Sh
open Go.Fw Go.Sha Go.RowKit Go.Proofs.Tryd

theorem neg_and63 : ∀ n : Nat, n < 64 → 0 < n → bits .and .u64 (IntKind.u64.wrap (-(n : Int))) 63 = ((64 - n : Nat) : Int) := by decide +kernel

theorem RL64 (x : Int) {n : Nat} (h0 : 0 < n) (h1 : n < 64) : bits_RotateLeft64 x (-(n : Int)) = some (rr64 x n, ()) := by
  have e1 := neg_and63 n h1 h0
  have e2 : IntKind.u64.wrap (64 - ((64 - n : Nat) : Int)) = (n : Int) := by rw [IntKind.wrap_u64]; omega
  have m1 : min (64 - n) IntKind.u64.bits = 64 - n := Nat.min_eq_left (by simp only [IntKind.bits]; omega)
  have m2 : min n IntKind.u64.bits = n := Nat.min_eq_left (by simp only [IntKind.bits]; omega)
  unfold bits_RotateLeft64
  rw [e1, e2]
  simp only [Int.toNat_natCast, m1, m2, Int.natCast_nonneg, if_true, rr64]

theorem wide_l3 (K : Nat) (h0 : Option Addr) {b : Sl} {gw : Nat} :
    ∀ (d n : Nat) (w : World) (cs : List Value) (S : List Int), S.length + d = 80 → 16 ≤ S.length → d < n → Bk 175 w gw cs → cs.length = 80 → cs.take S.length = ints .u64 S →
      ∃ w' cs', digest_wide_l3 K n h0 b ⟨gw, 0, none⟩ ((S.length : Nat) : Int) w = some ((), w') ∧ Bk 175 w' gw cs' ∧ cs' = ints .u64 (ext64 d S) ∧ Upd (· = gw) w w' := by
  intro d
  induction d with
  | zero =>
    intro n w cs S hi h16 hn hb hc ht
    obtain ⟨n, rfl⟩ : ∃ m, n = m + 1 := ⟨n - 1, by omega⟩
    have hS : S.length = 80 := by omega
    refine ⟨w, cs, ?_, hb, ?_, Upd.refl _ _⟩
    · show digest_wide_l3_b K (digest_wide_l3 K n) h0 b ⟨gw, 0, none⟩ ((S.length : Nat) : Int) w = _
      rw [hS]
      simp [digest_wide_l3_b]
    · rw [hS, List.take_of_length_le (by omega)] at ht; exact ht
  | succ d ih =>
    intro n w cs S hi h16 hn hb hc ht
    obtain ⟨n, rfl⟩ : ∃ m, n = m + 1 := ⟨n - 1, by omega⟩
    have hd : decide (((S.length : Nat) : Int) < 80) = true := by simp; omega
    have e15 : IntKind.i64.wrap (((S.length : Nat) : Int) - 15) = ((S.length - 15 : Nat) : Int) := by rw [w64 (by omega) (by omega)]; omega
    have e2 : IntKind.i64.wrap (((S.length : Nat) : Int) - 2) = ((S.length - 2 : Nat) : Int) := by rw [w64 (by omega) (by omega)]; omega
    have e16 : IntKind.i64.wrap (((S.length : Nat) : Int) - 16) = ((S.length - 16 : Nat) : Int) := by rw [w64 (by omega) (by omega)]; omega
    have e7 : IntKind.i64.wrap (((S.length : Nat) : Int) - 7) = ((S.length - 7 : Nat) : Int) := by rw [w64 (by omega) (by omega)]; omega
    have e1 : IntKind.i64.wrap (((S.length : Nat) : Int) + 1) = ((S.length + 1 : Nat) : Int) := by rw [w64 (by omega) (by omega)]; rfl
    have c15 : (0 : Int) ≤ ((S.length - 15 : Nat) : Int) ∧ ((S.length - 15 : Nat) : Int) < ((80 : Nat) : Int) := by omega
    have c2 : (0 : Int) ≤ ((S.length - 2 : Nat) : Int) ∧ ((S.length - 2 : Nat) : Int) < ((80 : Nat) : Int) := by omega
    have c16 : (0 : Int) ≤ ((S.length - 16 : Nat) : Int) ∧ ((S.length - 16 : Nat) : Int) < ((80 : Nat) : Int) := by omega
    have c7 : (0 : Int) ≤ ((S.length - 7 : Nat) : Int) ∧ ((S.length - 7 : Nat) : Int) < ((80 : Nat) : Int) := by omega
    have c0 : (0 : Int) ≤ ((S.length : Nat) : Int) ∧ ((S.length : Nat) : Int) < ((80 : Nat) : Int) := by omega
    have l15 := hb.drew.ldI (row_front ht (i := S.length - 15) (by omega))
    have l2 := hb.drew.ldI (row_front ht (i := S.length - 2) (by omega))
    have l16 := hb.drew.drew.ldI (row_front ht (i := S.length - 16) (by omega))
    have l7 := hb.drew.drew.ldI (row_front ht (i := S.length - 7) (by omega))
    have r7 := RL64 (S.getD (S.length - 15) 0) (n := 1) (by decide) (by decide)
    have r18 := RL64 (S.getD (S.length - 15) 0) (n := 8) (by decide) (by decide)
    have r17 := RL64 (S.getD (S.length - 2) 0) (n := 19) (by decide) (by decide)
    have r19 := RL64 (S.getD (S.length - 2) 0) (n := 61) (by decide) (by decide)
    have r7 : bits_RotateLeft64 (S.getD (S.length - 15) 0) (-1) = some (rr64 (S.getD (S.length - 15) 0) 1, ()) := r7
    have r18 : bits_RotateLeft64 (S.getD (S.length - 15) 0) (-8) = some (rr64 (S.getD (S.length - 15) 0) 8, ()) := r18
    have r17 : bits_RotateLeft64 (S.getD (S.length - 2) 0) (-19) = some (rr64 (S.getD (S.length - 2) 0) 19, ()) := r17
    have r19 : bits_RotateLeft64 (S.getD (S.length - 2) 0) (-61) = some (rr64 (S.getD (S.length - 2) 0) 61, ()) := r19
    let x := sch64 (S.getD (S.length - 15) 0) (S.getD (S.length - 2) 0) (S.getD (S.length - 16) 0) (S.getD (S.length - 7) 0)
    obtain ⟨w1, s1, s2, s3⟩ := hb.drew.drew.stC (i := S.length) (by omega) (.int .u64 x)
    have s1' : stC ((⟨gw, 0, none⟩ : Addr).add (S.length * 1)) (.int .u64 x) w.drew.drew = some w1 := by rw [add_lit, Nat.mul_one, Nat.zero_add]; exact s1
    have hfs := front_set ht (by omega) x
    have hSl : (S ++ [x]).length = S.length + 1 := by simp
    obtain ⟨w2, cs2, h1, h2, h3, h5⟩ := ih n w1 _ (S ++ [x]) (by rw [hSl]; omega) (by rw [hSl]; omega) (by omega) s2 (by simpa using hc) hfs
    rw [hSl] at h1
    refine ⟨w2, cs2, ?_, h2, by rw [h3]; rfl, (s3.predrew.predrew).trans' h5 fun _ _ e => e⟩
    show digest_wide_l3_b K (digest_wide_l3 K n) h0 b ⟨gw, 0, none⟩ ((S.length : Nat) : Int) w = _
    unfold digest_wide_l3_b
    rw [hd, if_pos rfl, e15, e2, e16, e7]
    simp only [Int.toNat_natCast]
    rw [if_pos c15, if_pos c2]
    simp only [add_lit, Nat.mul_one, Nat.zero_add]
    rw [l15, Option.bind_some, l2, Option.bind_some, if_pos c16, if_pos c7, l16, Option.bind_some, l7, Option.bind_some, r7, Option.bind_some, r18, Option.bind_some, r17, Option.bind_some, r19, Option.bind_some, if_pos c0]
    show (stC ⟨gw, S.length, none⟩ (.int .u64 x) w.drew.drew).bind _ = _
    rw [s1, Option.bind_some, e1, h1]

theorem wide_l4 (K : Nat) {h0 : Option Addr} {b : Sl} {gw : Nat} {W C : List Int} (hW : W.length = 80) (hC : C.length = 80) :
    ∀ (m i n : Nat) (w : World) (a b1 c d e f g k : Int), i + m = 80 → m < n → Bk 175 w gw (ints .u64 W) →
      ∃ w', digest_wide_l4 K n h0 b ⟨gw, 0, none⟩ a b1 c d e f g k (ints .u64 C).toArray (i : Int) w = some (rounds64 W C m i a b1 c d e f g k, w') ∧ Upd none_ w w' := by
  intro m
  induction m with
  | zero =>
    intro i n w a b1 c d e f g k hi hn hb
    obtain ⟨n, rfl⟩ : ∃ m, n = m + 1 := ⟨n - 1, by omega⟩
    have : i = 80 := by omega
    subst this
    refine ⟨w, ?_, Upd.refl _ _⟩
    show digest_wide_l4_b K (digest_wide_l4 K n) h0 b ⟨gw, 0, none⟩ a b1 c d e f g k (ints .u64 C).toArray ((80 : Nat) : Int) w = _
    simp [digest_wide_l4_b, rounds64]
  | succ m ih =>
    intro i n w a b1 c d e f g k hi hn hb
    obtain ⟨n, rfl⟩ : ∃ m, n = m + 1 := ⟨n - 1, by omega⟩
    have hd : decide ((i : Int) < 80) = true := by simp; omega
    have e1 : IntKind.i64.wrap ((i : Int) + 1) = ((i + 1 : Nat) : Int) := by rw [w64 (by omega) (by omega)]; rfl
    have c80 : (0 : Int) ≤ (i : Int) ∧ (i : Int) < ((80 : Nat) : Int) := by omega
    have hg : (ints .u64 C).toArray[i]? = some (.int .u64 (C.getD i 0)) := by
      rw [List.getElem?_toArray]; simp [ints, List.getD_eq_getElem?_getD, show i < C.length by omega]
    have l1 : ldI .u64 ⟨gw, i, none⟩ w.drew = some (W.getD i 0) := hb.drew.ldI (by simp [ints, List.getD_eq_getElem?_getD, show i < W.length by omega])
    have q14 : bits_RotateLeft64 e (-14) = some (rr64 e 14, ()) := RL64 e (n := 14) (by decide) (by decide)
    have q18 : bits_RotateLeft64 e (-18) = some (rr64 e 18, ()) := RL64 e (n := 18) (by decide) (by decide)
    have q41 : bits_RotateLeft64 e (-41) = some (rr64 e 41, ()) := RL64 e (n := 41) (by decide) (by decide)
    have q28 : bits_RotateLeft64 a (-28) = some (rr64 a 28, ()) := RL64 a (n := 28) (by decide) (by decide)
    have q34 : bits_RotateLeft64 a (-34) = some (rr64 a 34, ()) := RL64 a (n := 34) (by decide) (by decide)
    have q39 : bits_RotateLeft64 a (-39) = some (rr64 a 39, ()) := RL64 a (n := 39) (by decide) (by decide)
    obtain ⟨w1, h1, h2⟩ := ih (i + 1) n w.drew (IntKind.u64.wrap (t1_64 e f g k (C.getD i 0) (W.getD i 0) + t2_64 a b1 c)) a b1 c
      (IntKind.u64.wrap (d + t1_64 e f g k (C.getD i 0) (W.getD i 0))) e f g (by omega) (by omega) hb.drew
    refine ⟨w1, ?_, h2.predrew⟩
    show digest_wide_l4_b K (digest_wide_l4 K n) h0 b ⟨gw, 0, none⟩ a b1 c d e f g k (ints .u64 C).toArray (i : Int) w = _
    unfold digest_wide_l4_b
    rw [hd, if_pos rfl, if_pos c80]
    simp only [Int.toNat_natCast, add_lit, Nat.mul_one, Nat.zero_add]
    rw [hg, Option.bind_some]
    simp only [asI, if_true, Option.bind_some]
    rw [if_pos c80, q14, Option.bind_some, q18, Option.bind_some, q41, Option.bind_some, l1, Option.bind_some, q28, Option.bind_some, q34, Option.bind_some, q39, Option.bind_some, e1]
    exact h1

theorem ints_set {κ : IntKind} (xs : List Int) (i : Nat) (x : Int) : (ints κ xs).set i (.int κ x) = ints κ (xs.set i x) := by
  simp only [ints, List.map_set]

theorem wide_l2 (K : Nat) (h0 : Option Addr) {b s : Sl} {bs xs : List Int} {o : Nat} (hx8 : xs.length = 8) (hxs : ∀ j, j < 8 → xs.getD j 0 = bs.getD (o + j) 0) {gw i : Nat} {a30 : Int} (hi80 : i < 80) (hne : ∀ p, s.a = some p → p.block ≠ gw) {v : Int} {ws : List Int} (hws : ws.length = 80) :
    ∀ (d j n : Nat) (w : World), j + d = 8 → d < n → RdS .u8 w s xs → Bk 175 w gw (ints .u64 (ws.set i (word64 v bs o j))) → (∀ j, j < 8 → InK .u8 (bs.getD (o + j) 0)) →
      ∃ w', digest_wide_l2 K n h0 b ⟨gw, 0, none⟩ (i : Int) a30 s 8 (j : Int) w = some ((), w') ∧ Bk 175 w' gw (ints .u64 (ws.set i (word64 v bs o 8))) ∧ Upd (· = gw) w w' := by
  intro d
  induction d with
  | zero =>
    intro j n w hj hn hr hb hin
    obtain ⟨n, rfl⟩ : ∃ m, n = m + 1 := ⟨n - 1, by omega⟩
    have : j = 8 := by omega
    subst this
    refine ⟨w, ?_, hb, Upd.refl _ _⟩
    show digest_wide_l2_b K (digest_wide_l2 K n) h0 b ⟨gw, 0, none⟩ (i : Int) a30 s 8 ((8 : Nat) : Int) w = _
    simp [digest_wide_l2_b]
  | succ d ih =>
    intro j n w hj hn hr hb hin
    obtain ⟨n, rfl⟩ : ∃ m, n = m + 1 := ⟨n - 1, by omega⟩
    obtain ⟨p, hp, hl⟩ := rdD hr
    have hxn : xs ≠ [] := fun e => by rw [e] at hx8; cases hx8
    have hlen := hr.len
    have hd : decide ((j : Int) < 8) = true := by simp; omega
    have e1 : IntKind.i64.wrap ((j : Int) + 1) = ((j + 1 : Nat) : Int) := by rw [w64 (by omega) (by omega)]; rfl
    have c1 : (0 : Int) ≤ (j : Int) ∧ (j : Int) < ((s.len : Nat) : Int) := by omega
    have c2 : (0 : Int) ≤ (i : Int) ∧ (i : Int) < ((80 : Nat) : Int) := by omega
    have lx := hl j (by omega)
    rw [hxs j (by omega)] at lx
    have lw : ldI .u64 ⟨gw, i, none⟩ w = some (word64 v bs o j) := hb.ldI (by simp [ints, hws, hi80])
    obtain ⟨w1, s1, s2, s3⟩ := hb.stC (i := i) (by rw [ints_length, List.length_set, hws]; exact hi80) (.int .u64 (word64 v bs o (j + 1)))
    rw [ints_set, List.set_set] at s2
    obtain ⟨w2, h1, h2, h3⟩ := ih (j + 1) n w1 (by omega) (by omega) (hr.upd s3 fun q hq e => hne q hq e) s2 hin
    refine ⟨w2, ?_, h2, s3.trans' h3 fun _ _ e => e⟩
    show digest_wide_l2_b K (digest_wide_l2 K n) h0 b ⟨gw, 0, none⟩ (i : Int) a30 s 8 (j : Int) w = _
    unfold digest_wide_l2_b
    rw [hd, if_pos rfl, hp hxn, Option.bind_some, if_pos c1]
    simp only [Int.toNat_natCast, add_lit, Nat.mul_one, Nat.zero_add]
    rw [lx, Option.bind_some, if_pos c2, lw, Option.bind_some, if_pos c2]
    show (stC ⟨gw, i, none⟩ (.int .u64 (word64 v bs o (j + 1))) w).bind _ = _
    rw [s1, Option.bind_some, e1, h1]

theorem wide_l1 {K : Nat} (hK : 18446744073709551616 ≤ K) (h0 : Option Addr) {b : Sl} {bs : List Int} (hin : ∀ i, InK .u8 (bs.getD i 0)) (hbl : 128 ≤ bs.length) (hlim : bs.length ≤ 140737488355328) {gw : Nat} (hne : ∀ p, b.a = some p → p.block ≠ gw) :
    ∀ (d i n : Nat) (w : World) (ws : List Int), i + d = 16 → d < n → RdS .u8 w b bs → Bk 175 w gw (ints .u64 ws) → ws.length = 80 → ws.take i = words64 bs i →
      ∃ w' ws', digest_wide_l1 K n h0 b ⟨gw, 0, none⟩ (i : Int) w = some ((), w') ∧ Bk 175 w' gw (ints .u64 ws') ∧ ws'.length = 80 ∧ ws'.take 16 = words64 bs 16 ∧ Upd (· = gw) w w' := by
  intro d
  induction d with
  | zero =>
    intro i n w ws hi hn hr hb hc ht
    obtain ⟨n, rfl⟩ : ∃ m, n = m + 1 := ⟨n - 1, by omega⟩
    have : i = 16 := by omega
    subst this
    refine ⟨w, ws, ?_, hb, hc, ht, Upd.refl _ _⟩
    show digest_wide_l1_b K (digest_wide_l1 K n) h0 b ⟨gw, 0, none⟩ ((16 : Nat) : Int) w = _
    simp [digest_wide_l1_b]
  | succ d ih =>
    intro i n w ws hi hn hr hb hc ht
    obtain ⟨n, rfl⟩ : ∃ m, n = m + 1 := ⟨n - 1, by omega⟩
    have hcap := hr.cap
    have hlen := hr.len
    have hd : decide ((i : Int) < 16) = true := by simp; omega
    have e8 : IntKind.i64.wrap (8 * (i : Int)) = ((8 * i : Nat) : Int) := by rw [w64 (by omega) (by omega)]; omega
    have e88 : IntKind.i64.wrap (((8 * i : Nat) : Int) + 8) = ((8 * i + 8 : Nat) : Int) := by rw [w64 (by omega) (by omega)]; omega
    have e1 : IntKind.i64.wrap ((i : Int) + 1) = ((i + 1 : Nat) : Int) := by rw [w64 (by omega) (by omega)]; rfl
    have c1 : (0 : Int) ≤ ((8 * i + 8 : Nat) : Int) ∧ ((8 * i + 8 : Nat) : Int) ≤ ((b.cap : Nat) : Int) := by omega
    have c2 : (0 : Int) ≤ ((8 * i : Nat) : Int) ∧ ((8 * i : Nat) : Int) ≤ ((8 * i + 8 : Nat) : Int) := by omega
    have hs := hr.sub (lo := 8 * i) (hi := 8 * i + 8) (by omega) (by omega)
    have hx8 : ((bs.take (8 * i + 8)).drop (8 * i)).length = 8 := by simp; omega
    have hblk : ∀ q, sla b.a (8 * i) b.cap 1 = some q → q.block ≠ gw := by
      intro q hq
      unfold sla at hq
      split at hq
      · exact hne q hq
      · cases hb' : b.a with
        | none => rw [hb'] at hq; simp at hq
        | some p =>
          rw [hb'] at hq; simp at hq
          have : q.block = p.block := by rw [← hq]; unfold Addr.add; split <;> rfl
          rw [this]; exact hne p hb'
    have hb0 : Bk 175 w gw (ints .u64 (ws.set i (word64 (ws.getD i 0) bs (8 * i) 0))) := by
      have : ws.set i (word64 (ws.getD i 0) bs (8 * i) 0) = ws := by
        show ws.set i (ws.getD i 0) = ws
        rw [List.getD_eq_getElem?_getD, List.getElem?_eq_getElem (show i < ws.length by omega)]
        exact List.set_getElem_self _
      rw [this]; exact hb
    obtain ⟨w1, h1, b1, u1⟩ := wide_l2 K h0 (b := b) (s := ⟨sla b.a (8 * i) b.cap 1, 8 * i + 8 - 8 * i, b.cap - 8 * i⟩) (bs := bs) (o := 8 * i) hx8
      (fun j hj => by simp [List.getD_eq_getElem?_getD, List.getElem?_drop, List.getElem?_take, show 8 * i + j < 8 * i + 8 by omega]) (i := i) (a30 := (i : Int)) (by omega) hblk (v := ws.getD i 0) hc 8 0 K w rfl (by omega) hs hb0 (fun j _ => hin _)
    have h1 : digest_wide_l2 K K h0 b ⟨gw, 0, none⟩ (i : Int) (i : Int) ⟨sla b.a (8 * i) b.cap 1, 8 * i + 8 - 8 * i, b.cap - 8 * i⟩ 8 0 w = _ := h1
    rw [word64_any hin] at b1
    have ht1 : (ws.set i (word64 0 bs (8 * i) 8)).take (i + 1) = words64 bs (i + 1) := by
      rw [List.take_add_one, List.take_set_of_le (Nat.le_refl _), ht]
      simp [words64, show i < ws.length by omega]
    obtain ⟨w2, ws2, h2, b2, l2, t2, u2⟩ := ih (i + 1) n w1 _ (by omega) (by omega) (hr.upd u1 fun q hq e => hne q hq e) b1 (by simpa using hc) ht1
    refine ⟨w2, ws2, ?_, b2, l2, t2, u1.trans' u2 fun _ _ e => e⟩
    have e8s : 8 * i + 8 - 8 * i = 8 := by omega
    show digest_wide_l1_b K (digest_wide_l1 K n) h0 b ⟨gw, 0, none⟩ (i : Int) w = _
    unfold digest_wide_l1_b
    rw [hd, if_pos rfl, e8, e88]
    simp only [Int.toNat_natCast]
    rw [if_pos c1, if_pos c2]
    have c8 : (((8 * i + 8 - 8 * i : Nat)) : Int) = 8 := by omega
    rw [c8, h1, bnd_ok, e1, h2]

theorem built150 (x0 x1 x2 x3 x4 x5 x6 x7 : Int) : prog.built 150 [(0, (.int .u64 x0)), (1, (.int .u64 x1)), (2, (.int .u64 x2)), (3, (.int .u64 x3)), (4, (.int .u64 x4)), (5, (.int .u64 x5)), (6, (.int .u64 x6)), (7, (.int .u64 x7))] =
    some (ints .u64 [x0, x1, x2, x3, x4, x5, x6, x7]).toArray := by kernel_rfl

theorem wide_l5 (K : Nat) {gh oh : Nat} {b : Sl} {w4 : Addr} {eh : TypeId} {H x : List Int} (hH : H.length = 8) (hx : x.length = 8) {ch : List Value} (hch : oh + 8 ≤ ch.length) (hAt : (ch.drop oh).take 8 = ints .u64 H) :
    ∀ (d i n : Nat) (w : World), i + d = 8 → d < n → Bk eh w gh (seg ch oh (ints .u64 ((sum8w H x).take i))) →
      ∃ w', digest_wide_l5 K n (some ⟨gh, oh, none⟩) b w4 (ints .u64 x).toArray (i : Int) w = some ((), w') ∧ Bk eh w' gh (seg ch oh (ints .u64 (sum8w H x))) ∧ Upd (· = gh) w w' := by
  intro d
  induction d with
  | zero =>
    intro i n w hi hn hb
    obtain ⟨n, rfl⟩ : ∃ m, n = m + 1 := ⟨n - 1, by omega⟩
    have : i = 8 := by omega
    subst this
    rw [List.take_of_length_le (by simp [sum8w])] at hb
    refine ⟨w, ?_, hb, Upd.refl _ _⟩
    show digest_wide_l5_b K (digest_wide_l5 K n) (some ⟨gh, oh, none⟩) b w4 (ints .u64 x).toArray ((8 : Nat) : Int) w = _
    simp [digest_wide_l5_b]
  | succ d ih =>
    intro i n w hi hn hb
    obtain ⟨n, rfl⟩ : ∃ m, n = m + 1 := ⟨n - 1, by omega⟩
    have hd : decide ((i : Int) < 8) = true := by simp; omega
    have e1 : IntKind.i64.wrap ((i : Int) + 1) = ((i + 1 : Nat) : Int) := by rw [w64 (by omega) (by omega)]; rfl
    have c0 : (0 : Int) ≤ (i : Int) ∧ (i : Int) < ((8 : Nat) : Int) := by omega
    have hxi : i < x.length := by omega
    have hg : (ints .u64 x).toArray[i]? = some (.int .u64 (x.getD i 0)) := by
      rw [List.getElem?_toArray]; simp [ints, List.getD_eq_getElem?_getD, hxi]
    have hol : (ints .u64 ((sum8w H x).take i)).length = i := by simp [ints, sum8w]; omega
    have hsl : (seg ch oh (ints .u64 ((sum8w H x).take i))).length = ch.length := seg_length (by rw [hol]; omega)
    have hAt' : (ch.drop oh).take H.length = ints .u64 H := by rw [hH]; exact hAt
    have l0 : ldI .u64 ⟨gh, oh + i, none⟩ w.drew = some (H.getD i 0) := hb.drew.ldI (by
      rw [seg_get (by rw [hol]; omega), hol, if_neg (by omega), if_neg (by omega)]
      exact at_get hAt' (by omega))
    obtain ⟨w1, s1, s2, s3⟩ := hb.drew.stC (i := oh + i) (by rw [hsl]; omega) (.int .u64 (IntKind.u64.wrap (H.getD i 0 + x.getD i 0)))
    have hstep : (seg ch oh (ints .u64 ((sum8w H x).take i))).set (oh + i) (.int .u64 (IntKind.u64.wrap (H.getD i 0 + x.getD i 0))) = seg ch oh (ints .u64 ((sum8w H x).take (i + 1))) := by
      have h1 := seg_snoc (cs := ch) (vs := ints .u64 ((sum8w H x).take i)) (o := oh) (by rw [hol]; omega) (.int .u64 (IntKind.u64.wrap (H.getD i 0 + x.getD i 0)))
      rw [hol] at h1
      rw [h1]
      congr 1
      rw [List.take_add_one, ints_append]
      congr 1
      have : (sum8w H x)[i]? = some (IntKind.u64.wrap (H.getD i 0 + x.getD i 0)) := by
        simp only [sum8w, List.getElem?_map, List.getElem?_range (show i < 8 by omega)]; rfl
      rw [this]; rfl
    rw [hstep] at s2
    obtain ⟨w2, h1, h2, h3⟩ := ih (i + 1) n w1 (by omega) (by omega) s2
    refine ⟨w2, ?_, h2, s3.predrew.trans' h3 fun _ _ e => e⟩
    show digest_wide_l5_b K (digest_wide_l5 K n) (some ⟨gh, oh, none⟩) b w4 (ints .u64 x).toArray (i : Int) w = _
    unfold digest_wide_l5_b
    rw [hd, if_pos rfl, if_pos c0]
    simp only [Int.toNat_natCast, Nat.mul_one]
    rw [hg, Option.bind_some]
    simp only [asI, if_true, Option.bind_some]
    rw [if_pos c0, add_lit, l0, Option.bind_some, if_pos c0, s1, Option.bind_some, e1, h1]

theorem ldA_of_rd {w : World} {g : Nat} {vs : List Value} (h : Rd w ⟨g, 0, none⟩ vs) (hne : vs ≠ []) : ldA vs.length ⟨g, 0, none⟩ w = some vs.toArray := by
  obtain ⟨m, hm⟩ : ∃ m, vs.length = m + 1 := ⟨vs.length - 1, by have := List.length_pos_iff.2 hne; omega⟩
  have hlast := h m (vs[m]'(by omega)) (List.getElem?_eq_getElem (by omega))
  rw [add_lit, Nat.zero_add] at hlast
  unfold World.cell? at hlast
  unfold ldA
  split at hlast
  · rename_i c e fz hb
    simp only [Option.isSome_none, Bool.false_eq_true, if_false] at hlast
    have hsz : m < c.size := (Array.getElem?_eq_some_iff.1 hlast).1
    simp only [hb]
    rw [if_pos ⟨trivial, by omega⟩]
    congr 1
    apply Array.ext (by simp; omega)
    intro i h1 h2
    have h2' : i < vs.length := by simpa using h2
    have hi := h i vs[i] (List.getElem?_eq_getElem h2')
    rw [add_lit, Nat.zero_add] at hi
    simp only [World.cell?, hb, Option.isSome_none, Bool.false_eq_true, if_false] at hi
    have := (Array.getElem?_eq_some_iff.1 hi).2
    simp [this]
  · cases hlast

/-- ONE BLOCK. -/
theorem wide_block {K : Nat} (hK : 18446744073709551616 ≤ K) (rec : Option Addr → Sl → Addr → World → Option (Unit × World)) {gh oh gw : Nat} {b : Sl} {eh : TypeId} {bs H C : List Int} (hin : ∀ i, InK .u8 (bs.getD i 0)) (hH : H.length = 8) (hC : C.length = 80) {ch : List Value}
    (hbl : 128 ≤ bs.length) (hlim : bs.length ≤ 140737488355328) (hbw : ∀ p, b.a = some p → p.block ≠ gw) (hhw : gh ≠ gw) (hch : oh + 8 ≤ ch.length) (hAt : (ch.drop oh).take 8 = ints .u64 H)
    {w : World} {ws : List Int} (hr : RdS .u8 w b bs) (hbh : Bk eh w gh ch) (hb : Bk 175 w gw (ints .u64 ws)) (hcw : ws.length = 80) (hT : Rd w ⟨3, 0, none⟩ (ints .u64 C)) (hg2 : gw ≠ 3) :
    ∃ w' ws', digest_wide_l0_b K rec (some ⟨gh, oh, none⟩) b ⟨gw, 0, none⟩ w = rec (some ⟨gh, oh, none⟩) ⟨sla b.a 128 b.cap 1, b.len - 128, b.cap - 128⟩ ⟨gw, 0, none⟩ w' ∧
      Bk eh w' gh (seg ch oh (ints .u64 (comp64 C H bs))) ∧ Bk 175 w' gw (ints .u64 ws') ∧ ws'.length = 80 ∧ Upd (fun k => k = gh ∨ k = gw) w w' := by
  obtain ⟨w1, c1, h1, b1, l1, t1, u1⟩ := wide_l1 hK (some ⟨gh, oh, none⟩) hin hbl hlim hbw 16 0 K w ws rfl (by omega) hr hb hcw (by simp [words64])
  have h1 : digest_wide_l1 K K (some ⟨gh, oh, none⟩) b ⟨gw, 0, none⟩ 0 w = _ := h1
  obtain ⟨w2, c2, h2, b2, t2, u2⟩ := wide_l3 K (some ⟨gh, oh, none⟩) (b := b) 64 K w1 (ints .u64 c1) (words64 bs 16) (by rw [words64_len]) (by rw [words64_len]; decide) (by omega) b1 (by rw [ints_length]; exact l1) (by rw [words64_len, ints_take, t1])
  rw [words64_len] at h2
  have h2 : digest_wide_l3 K K (some ⟨gh, oh, none⟩) b ⟨gw, 0, none⟩ 16 w1 = _ := h2
  rw [t2] at b2
  have hbh2 : Bk eh w2 gh ch := (hbh.upd u1 hhw).upd u2 hhw
  have hT2 : Rd w2 ⟨3, 0, none⟩ (ints .u64 C) := (hT.upd u1 fun _ e => hg2 e.symm).upd u2 fun _ e => hg2 e.symm
  have hT2d : Rd w2.drew ⟨3, 0, none⟩ (ints .u64 C) := hT2.upd (S := none_) (Upd.refl _ _).drew fun _ => id
  have hCne : ints .u64 C ≠ [] := fun e => by have := congrArg List.length e; simp [hC] at this
  have hld := ldA_of_rd hT2d hCne
  rw [ints_length, hC] at hld
  have hAt' : (ch.drop oh).take H.length = ints .u64 H := by rw [hH]; exact hAt
  have lv : ∀ i, i < 8 → ldI .u64 ⟨gh, oh + i, none⟩ w2.drew = some (H.getD i 0) := fun i hi => hbh2.drew.ldI (at_get hAt' (by omega))
  have h5x := wide_l4 K (h0 := some ⟨gh, oh, none⟩) (b := b) (W := ext64 64 (words64 bs 16)) (C := C) (by rw [ext64_len, words64_len]) hC 80 0 K w2.drew (H.getD 0 0) (H.getD 1 0) (H.getD 2 0) (H.getD 3 0) (H.getD 4 0) (H.getD 5 0) (H.getD 6 0) (H.getD 7 0) rfl (by omega) b2.drew
  obtain ⟨y, hy⟩ : ∃ y, rv64 C H bs = y := ⟨_, rfl⟩
  unfold rv64 at hy
  rw [hy] at h5x
  obtain ⟨w5, h5, u5⟩ := h5x
  have hc : comp64 C H bs = sum8w H (list8 y) := by unfold comp64 rv64; rw [hy]
  rw [hc]
  have b5h : Bk eh w5 gh (seg ch oh (ints .u64 ((sum8w H (list8 y)).take 0))) := by
    rw [List.take_zero]
    show Bk eh w5 gh (seg ch oh [])
    rw [seg_nil]
    exact hbh2.drew.upd0 u5
  obtain ⟨w6, h6, b6, u6⟩ := wide_l5 K (b := b) (w4 := ⟨gw, 0, none⟩) hH (x := list8 y) rfl hch hAt 8 0 K w5 rfl (by omega) b5h
  refine ⟨w6, ext64 64 (words64 bs 16), ?_, b6, (b2.drew.upd0 u5).upd u6 (fun e => hhw e.symm), by rw [ext64_len, words64_len], ?_⟩
  · have hlen := hr.len
    have hd : decide (((b.len : Nat) : Int) ≥ 128) = true := by simp; omega
    have k64 : (0 : Int) ≤ 128 ∧ (128 : Int) ≤ ((b.len : Nat) : Int) := by omega
    have h5' : digest_wide_l4 K K (some ⟨gh, oh, none⟩) b ⟨gw, 0, none⟩ (H.getD 0 0) (H.getD 1 0) (H.getD 2 0) (H.getD 3 0) (H.getD 4 0) (H.getD 5 0) (H.getD 6 0) (H.getD 7 0) (ints .u64 C).toArray 0 w2.drew = some (y, w5) := h5
    have h6' : digest_wide_l5 K K (some ⟨gh, oh, none⟩) b ⟨gw, 0, none⟩ (ints .u64 [y.1, y.2.1, y.2.2.1, y.2.2.2.1, y.2.2.2.2.1, y.2.2.2.2.2.1, y.2.2.2.2.2.2.1, y.2.2.2.2.2.2.2.1]).toArray 0 w5 = some ((), w6) := h6
    unfold digest_wide_l0_b
    rw [hd, if_pos rfl, h1, bnd_ok, h2, bnd_ok]
    simp only [Option.bind_some, add_lit, Nat.zero_mul, Nat.one_mul, Nat.reduceMul]
    rw [lv 0 (by decide), Option.bind_some, lv 1 (by decide), Option.bind_some, lv 2 (by decide), Option.bind_some, lv 3 (by decide), Option.bind_some, lv 4 (by decide), Option.bind_some, lv 5 (by decide), Option.bind_some, lv 6 (by decide), Option.bind_some, lv 7 (by decide), Option.bind_some]
    rw [hld, Option.bind_some, h5', bnd_ok, built150, Option.bind_some, h6', bnd_ok, if_pos k64]
  · have q1 : Upd (fun k => k = gh ∨ k = gw) w w2 := (u1.trans' u2 fun _ _ e => e).mono fun _ _ e => .inr e
    exact (q1.drew.and0 u5).trans' u6 fun _ _ e => .inl e

theorem wide_loop {K : Nat} (hK : 18446744073709551616 ≤ K) {gh oh gw : Nat} {eh : TypeId} {C : List Int} (hC : C.length = 80) (hhw : gh ≠ gw) (hg2 : gw ≠ 3) (hg3 : gh ≠ 3) :
    ∀ (m n : Nat) (w : World) (b : Sl) (bs H : List Int) (ch : List Value) (ws : List Int), (∀ i, InK .u8 (bs.getD i 0)) → bs.length / 128 = m → m < n → bs.length ≤ 140737488355328 → H.length = 8 → oh + 8 ≤ ch.length → (ch.drop oh).take 8 = ints .u64 H →
      (∀ p, b.a = some p → bs ≠ [] → p.block ≠ gw) → ((∀ p, b.a = some p → p.block ≠ gh) ∨ bs.length < 256) → RdS .u8 w b bs → Bk eh w gh ch → Bk 175 w gw (ints .u64 ws) → ws.length = 80 → Rd w ⟨3, 0, none⟩ (ints .u64 C) →
      ∃ w', digest_wide_l0 K n (some ⟨gh, oh, none⟩) b ⟨gw, 0, none⟩ w = some ((), w') ∧ Bk eh w' gh (seg ch oh (ints .u64 (comps64 C m H bs))) ∧ Upd (fun k => k = gh ∨ k = gw) w w' := by
  intro m
  induction m with
  | zero =>
    intro n w b bs H ch cw hin hm hn hlim hH hch hAt hbw hbh hr hb hw hcw hT
    obtain ⟨n, rfl⟩ : ∃ k, n = k + 1 := ⟨n - 1, by omega⟩
    refine ⟨w, ?_, ?_, Upd.refl _ _⟩
    · show digest_wide_l0_b K (digest_wide_l0 K n) (some ⟨gh, oh, none⟩) b ⟨gw, 0, none⟩ w = _
      have hd : decide (((b.len : Nat) : Int) ≥ 128) = false := by rw [hr.len]; simp; omega
      unfold digest_wide_l0_b
      rw [hd, if_neg (by decide)]
    · have : seg ch oh (ints .u64 (comps64 C 0 H bs)) = ch := by
        show seg ch oh (ints .u64 H) = ch
        rw [← hAt]
        apply List.ext_getElem?
        intro i
        have hl : ((ch.drop oh).take 8).length = 8 := by simp; omega
        rw [seg_get (by omega), hl]
        by_cases c1 : i < oh
        · simp [c1]
        · by_cases c2 : i < oh + 8
          · rw [if_neg c1, if_pos c2, List.getElem?_take, if_pos (by omega), List.getElem?_drop]; congr 1; omega
          · rw [if_neg c1, if_neg c2]
      rw [this]; exact hb
  | succ m ih =>
    intro n w b bs H ch cw hin hm hn hlim hH hch hAt hbw hbh hr hb hw hcw hT
    obtain ⟨n, rfl⟩ : ∃ k, n = k + 1 := ⟨n - 1, by omega⟩
    have h64 : 128 ≤ bs.length := by omega
    have hbs : bs ≠ [] := fun e => by rw [e] at h64; simp at h64
    replace hbw : ∀ p, b.a = some p → p.block ≠ gw := fun p hp => hbw p hp hbs
    obtain ⟨w1, cw1, h1, b1, bw1, l1, u1⟩ := wide_block hK (digest_wide_l0 K n) hin hH hC h64 hlim hbw hhw hch hAt hr hb hw hcw hT hg2
    have hcl : (ints .u64 (comp64 C H bs)).length = 8 := by rw [ints_length, comp64_len]
    have hT1 := hT.upd u1 fun _ e => by rcases e with e | e; exact hg3 e.symm; exact hg2 e.symm
    have hlen := hr.len
    have hcap := hr.cap
    by_cases hz : bs.length < 256
    · -- the last one: what is left is not read
      have hm0 : m = 0 := by omega
      subst hm0
      obtain ⟨n, rfl⟩ : ∃ k, n = k + 1 := ⟨n - 1, by omega⟩
      refine ⟨w1, ?_, b1, u1⟩
      show digest_wide_l0_b K (digest_wide_l0 K (n + 1)) (some ⟨gh, oh, none⟩) b ⟨gw, 0, none⟩ w = _
      refine h1.trans ?_
      have e : digest_wide_l0 K (n + 1) = digest_wide_l0_b K (digest_wide_l0 K n) := rfl
      rw [e]
      have hd : decide (((b.len - 128 : Nat) : Int) ≥ 128) = false := by rw [hlen]; simp; omega
      unfold digest_wide_l0_b
      rw [hd, if_neg (by decide)]
    · have hbg : ∀ p, b.a = some p → p.block ≠ gh := by
        rcases hbh with h | h
        · exact h
        · omega
      have hr1 := (hr.upd u1 fun p hp e => by rcases e with e | e; exact hbg p hp e; exact hbw p hp e).sub (lo := 128) (hi := bs.length) h64 (Nat.le_refl _)
      rw [List.take_length] at hr1
      have hblk : ∀ q, sla b.a 128 b.cap 1 = some q → ∃ p, b.a = some p ∧ q.block = p.block := by
        intro q hq
        unfold sla at hq
        split at hq
        · exact ⟨q, hq, rfl⟩
        · cases hb' : b.a with
          | none => rw [hb'] at hq; simp at hq
          | some p => rw [hb'] at hq; simp at hq; exact ⟨p, rfl, by rw [← hq]; unfold Addr.add; split <;> rfl⟩
      obtain ⟨w2, h2, b2, u2⟩ := ih n w1 ⟨sla b.a 128 b.cap 1, bs.length - 128, b.cap - 128⟩ (bs.drop 128) (comp64 C H bs) (seg ch oh (ints .u64 (comp64 C H bs))) cw1 (fun i => by have := hin (128 + i); simpa [List.getD_eq_getElem?_getD, List.getElem?_drop] using this) (by simp; omega) (by omega) (by simp; omega) (comp64_len C H bs)
        (by rw [seg_length (by omega)]; exact hch) (by have := seg_at (cs := ch) (a := ints .u64 (comp64 C H bs)) (o := oh) (by omega); rwa [hcl] at this)
        (fun q hq _ => by obtain ⟨p, hp, e⟩ := hblk q hq; rw [e]; exact hbw p hp) (.inl fun q hq => by obtain ⟨p, hp, e⟩ := hblk q hq; rw [e]; exact hbg p hp) hr1 b1 bw1 l1 hT1
      refine ⟨w2, ?_, ?_, u1.trans' u2 fun _ _ e => e⟩
      · show digest_wide_l0_b K (digest_wide_l0 K n) (some ⟨gh, oh, none⟩) b ⟨gw, 0, none⟩ w = _
        rw [h1, hlen, h2]
      · rw [seg_seg (by rw [hcl, ints_length, comps64_len C m _ _ (comp64_len C H bs)]) (by omega)] at b2
        exact b2

/-- wide: the blocks of a slice are taken. -/
theorem wide_ok {K : Nat} (hK : 18446744073709551616 ≤ K) {gh oh : Nat} {eh : TypeId} {C : List Int} (hC : C.length = 80) (hg3 : gh ≠ 3) {w : World} {b : Sl} {bs H : List Int} {ch : List Value} (hin : ∀ i, InK .u8 (bs.getD i 0))
    (hlim : bs.length ≤ 140737488355328) (hH : H.length = 8) (hch : oh + 8 ≤ ch.length) (hAt : (ch.drop oh).take 8 = ints .u64 H)
    (hbv : ∀ p, b.a = some p → bs ≠ [] → p.block < w.heap.size) (hbh : (∀ p, b.a = some p → p.block ≠ gh) ∨ bs.length < 256) (hr : RdS .u8 w b bs) (hb : Bk eh w gh ch) (hT : Rd w ⟨3, 0, none⟩ (ints .u64 C)) :
    ∃ w', digest_wide K (some ⟨gh, oh, none⟩) b w = some ((), w') ∧ Bk eh w' gh (seg ch oh (ints .u64 (comps64 C (bs.length / 128) H bs))) ∧ Upd (· = gh) w w' := by
  obtain ⟨w1, n1, b1, u1, z1⟩ := newB_ok z175 175 w
  have b1 : Bk 175 w1 w.heap.size (ints .u64 (List.replicate 80 0)) := by
    have e : z175.toList = ints .u64 (List.replicate 80 0) := by simp [z175, ints]
    rw [← e]; exact b1
  have hlt : 3 < w.heap.size := hT.lt (fun e => by have := congrArg List.length e; simp [hC] at this)
  obtain ⟨w2, h2, b2, u2⟩ := wide_loop hK hC (gw := w.heap.size) (fun e => by have := hb.lt; omega) (by omega) hg3 (bs.length / 128) K w1 b bs H ch (List.replicate 80 0) hin rfl (by omega) hlim hH hch hAt
    (fun p hp hne e => by have := hbv p hp hne; omega) hbh (hr.upd0 u1) (hb.upd0 u1) b1 (by simp) (hT.upd u1 fun _ => id)
  refine ⟨w2, ?_, b2, (u1.mono fun _ _ e => e.elim).trans' u2 fun k hk e => by rcases e with e | e; exact e; omega⟩
  unfold digest_wide
  rw [n1, bnd_ok, h2, bnd_ok]

end Go.Sh

/- Texts of this claim, put together: EscQ, EscR, EscS, EscT, EscU, EscV, EscEq, Mends -/
import Derived.Test.YteomkfcfhlljkaaAllLawbacpnd
import Derived.Laws.StructEq
/- A text read: the document. -/
set_option linter.unusedVariables false
set_option maxRecDepth 100000
namespace Go.Sh
open Go.Fw Go.Gf Go.RowKit Go.Proofs.Try

/-- letters of a word ahead -/
theorem rd_letters : ∀ (W R wd : List Nat) (O : List F), (∀ c ∈ W, gapB c = false) → rdP (W ++ R) wd O = rdP R (wd ++ W.map lowN) O
  | [], R, wd, O, _ => by simp
  | c :: W, R, wd, O, h => by
    show (if gapB c = true then _ else rdP (W ++ R) (wd ++ [lowN c]) O) = _
    rw [if_neg (by rw [h c (by simp)]; decide), rd_letters W R _ O fun x hx => h x (by simp [hx])]
    simp
theorem rd_end {R wd : List Nat} (hR : R = [] ∨ ∃ c R', R = c :: R' ∧ gapB c = true) (O : List F) : rdP R wd O = (endW wd O).bind fun O' => rdP R [] O' := by
  rcases hR with rfl | ⟨c, R', rfl, hc⟩
  · show endW wd O = (endW wd O).bind fun O' => endW [] O'
    cases endW wd O <;> rfl
  · have e : ∀ wd O, rdP (c :: R') wd O = (endW wd O).bind fun O' => rdP R' [] O' := fun wd O => by
      show (if gapB c = true then (endW wd O).bind (fun O' => rdP R' [] O') else _) = _
      rw [if_pos hc]
    rw [e]
    congr 1
    funext O'
    rw [e]; rfl

theorem rgap (c : Nat) : ref11_gap (c : Int) = some (gapB c, ()) := by
  have e32 : ((c : Int) == 32) = (c == 32) := by rw [Bool.eq_iff_iff, beq_iff_eq, beq_iff_eq]; omega
  have e9 : ((c : Int) == 9) = (c == 9) := by rw [Bool.eq_iff_iff, beq_iff_eq, beq_iff_eq]; omega
  have e10 : ((c : Int) == 10) = (c == 10) := by rw [Bool.eq_iff_iff, beq_iff_eq, beq_iff_eq]; omega
  have e13 : ((c : Int) == 13) = (c == 13) := by rw [Bool.eq_iff_iff, beq_iff_eq, beq_iff_eq]; omega
  have e45 : ((c : Int) == 45) = (c == 45) := by rw [Bool.eq_iff_iff, beq_iff_eq, beq_iff_eq]; omega
  unfold ref11_gap gapB
  rw [e32, e9, e10, e13, e45]
  cases h1 : c == 32 <;> cases h2 : c == 9 <;> cases h3 : c == 10 <;> cases h4 : c == 13 <;> cases h5 : c == 45 <;> rfl

theorem text_at {t : ByteArray} {T : List Nat} (hT : IsText t T) {i : Nat} (hi : i < T.length) : ∃ b : UInt8, t[i]? = some b ∧ b.toNat = T[i] := by
  obtain ⟨b, b1, b2⟩ := hT.2 i hi
  refine ⟨b, b1, ?_⟩
  rw [b2, List.getD_eq_getElem?_getD, List.getElem?_eq_getElem hi]; rfl

/-- how far a word goes -/
def scanN (T : List Nat) : Nat → Nat → Nat
  | 0, i => i
  | d + 1, i => if gapB (T.getD i 0) = true then i else scanN T d (i + 1)
theorem scan_spec (T : List Nat) : ∀ (d i : Nat), i + d = T.length → i ≤ scanN T d i ∧ scanN T d i ≤ T.length ∧ (∀ k, i ≤ k → k < scanN T d i → gapB (T.getD k 0) = false) ∧ (scanN T d i < T.length → gapB (T.getD (scanN T d i) 0) = true)
  | 0, i, h => ⟨Nat.le_refl _, by show i ≤ _; omega, fun k h1 h2 => by have : k < i := h2; omega, fun h2 => by have : i < T.length := h2; omega⟩
  | d + 1, i, h => by
    unfold scanN
    by_cases hg : gapB (T.getD i 0) = true
    · rw [if_pos hg]
      exact ⟨Nat.le_refl _, by omega, fun k h1 h2 => by omega, fun _ => hg⟩
    · rw [if_neg hg]
      obtain ⟨a, b, c, e⟩ := scan_spec T d (i + 1) (by omega)
      refine ⟨by omega, b, fun k h1 h2 => ?_, e⟩
      by_cases hk : k = i
      · rw [hk]; simpa using hg
      · exact c k (by omega) h2

theorem read_l1 {K : Nat} {t : ByteArray} {T : List Nat} (hT : IsText t T) (hTl : T.length ≤ 1024) {out : Sl} {fr : Int} (w : World) :
    ∀ (d i f : Nat), i + d = T.length → d < f → ref11_Read_l1 K f t out (i : Int) fr w = some ((((scanN T d i : Nat) : Int), ()), w) := by
  intro d
  have hsz := hT.1
  induction d with
  | zero =>
    intro i f hi hf
    obtain ⟨f, rfl⟩ : ∃ q, f = q + 1 := ⟨f - 1, by omega⟩
    show ref11_Read_l1_b K (ref11_Read_l1 K f) t out (i : Int) fr w = _
    unfold ref11_Read_l1_b
    rw [if_neg (by simp only [decide_eq_true_eq]; omega)]
    rfl
  | succ d ih =>
    intro i f hi hf
    obtain ⟨f, rfl⟩ : ∃ q, f = q + 1 := ⟨f - 1, by omega⟩
    have hiT : i < T.length := by omega
    obtain ⟨b, b1, b2⟩ := text_at hT hiT
    have hg : T.getD i 0 = T[i] := by rw [List.getD_eq_getElem?_getD, List.getElem?_eq_getElem hiT]; rfl
    have e3 : IntKind.i64.wrap ((i : Int) + 1) = ((i + 1 : Nat) : Int) := by rw [w64 (by omega) (by omega)]; rfl
    show ref11_Read_l1_b K (ref11_Read_l1 K f) t out (i : Int) fr w = _
    unfold ref11_Read_l1_b scanN
    rw [if_pos (decide_eq_true (show (i : Int) < ((t.size : Nat) : Int) by omega)), if_pos (Int.natCast_nonneg _), Int.toNat_natCast, b1, Option.bind_some, b2, rgap, Option.bind_some, hg]
    dsimp only
    by_cases hgp : gapB T[i] = true
    · rw [if_neg (by rw [hgp]; decide), if_pos hgp]
    · rw [if_pos (by simpa using hgp), if_neg hgp, e3]
      exact ih (i + 1) f (by omega) (by omega)

theorem read_l2f {K : Nat} (hK : 300 ≤ K) {t : ByteArray} {T : List Nat} (hT : IsText t T) (hTb : ∀ c ∈ T, c < 256) (hTl : T.length ≤ 1024) {out : Sl} {i5 : Int} {fr : Nat} (hfr : fr + 5 ≤ T.length) (w : World) :
    ∀ (d k f : Nat) (v : Int), k + d = 5 → d < f → ∃ v', ref11_Read_l2 K f t out i5 (fr : Int) v false (k : Int) w = some ((v', false, ()), w) := by
  intro d
  have hsz := hT.1
  induction d with
  | zero =>
    intro k f v hk hf
    obtain ⟨f, rfl⟩ : ∃ q, f = q + 1 := ⟨f - 1, by omega⟩
    refine ⟨v, ?_⟩
    show ref11_Read_l2_b K (ref11_Read_l2 K f) t out i5 (fr : Int) v false (k : Int) w = _
    unfold ref11_Read_l2_b
    rw [if_neg (by simp only [decide_eq_true_eq]; omega)]
  | succ d ih =>
    intro k f v hk hf
    obtain ⟨f, rfl⟩ : ∃ q, f = q + 1 := ⟨f - 1, by omega⟩
    obtain ⟨b, b1, b2⟩ := text_at hT (i := fr + k) (by omega)
    have e3 : IntKind.i64.wrap ((k : Int) + 1) = ((k + 1 : Nat) : Int) := by rw [w64 (by omega) (by omega)]; rfl
    have e4 : IntKind.i64.wrap ((fr : Int) + (k : Int)) = ((fr + k : Nat) : Int) := by rw [w64 (by omega) (by omega)]; rfl
    have hs4 : ∃ c : Nat, bnd (ref11_Read_s3 K ((b.toNat : Nat) : Int) w) (fun y_8 w_9 => ref11_Read_s4 K ((b.toNat : Nat) : Int) y_8.1 w_9) = some (((c : Int), ()), w) := by
      unfold ref11_Read_s3 ref11_Read_s4
      have hb : b.toNat < 256 := b.toNat_lt
      by_cases h1 : 65 ≤ b.toNat
      · rw [if_pos (decide_eq_true (show ((b.toNat : Nat) : Int) ≥ 65 by omega)), bnd_ok]
        by_cases h2 : b.toNat ≤ 90
        · refine ⟨b.toNat + 32, ?_⟩
          rw [if_pos (decide_eq_true (show ((b.toNat : Nat) : Int) ≤ 90 by omega))]
          have : IntKind.u8.wrap (((b.toNat : Nat) : Int) + 32) = ((b.toNat + 32 : Nat) : Int) := by rw [IntKind.wrap_u8]; omega
          rw [this]
        · exact ⟨b.toNat, by rw [if_neg (by simp only [decide_eq_true_eq]; omega)]⟩
      · exact ⟨b.toNat, by rw [if_neg (by simp only [decide_eq_true_eq]; omega), bnd_ok, if_neg (by decide)]⟩
    obtain ⟨c, hc⟩ := hs4
    have hrun : ∀ (v : Int) (wl : Bool), ref11_Read_l2 K (f + 1) t out i5 (fr : Int) v wl (k : Int) w = (if ((Int.tmod (k : Int) 2) == 0) = true then ((ref11_place K str1 (c : Int)).bind fun r_12 =>
  bnd (ref11_Read_s5 K wl r_12.1 w) fun y_13 w_14 =>
  ref11_Read_l2 K f t out i5 (fr : Int) (IntKind.i64.wrap ((IntKind.i64.wrap (v * 16)) + r_12.1)) y_13.1 (IntKind.i64.wrap ((k : Int) + 1)) w_14) else ((ref11_place K str2 (c : Int)).bind fun r_15 =>
  bnd (ref11_Read_s6 K wl r_15.1 w) fun y_16 w_17 =>
  ref11_Read_l2 K f t out i5 (fr : Int) (IntKind.i64.wrap ((IntKind.i64.wrap (v * 4)) + r_15.1)) y_16.1 (IntKind.i64.wrap ((k : Int) + 1)) w_17)) := fun v wl => by
      show ref11_Read_l2_b K (ref11_Read_l2 K f) t out i5 (fr : Int) v wl (k : Int) w = _
      unfold ref11_Read_l2_b
      rw [if_pos (decide_eq_true (show (k : Int) < 5 by omega)), e4, if_pos (Int.natCast_nonneg _), Int.toNat_natCast, b1, Option.bind_some]
      have h := hc
      cases hs3 : ref11_Read_s3 K ((b.toNat : Nat) : Int) w with
      | none => rw [hs3] at h; cases h
      | some y =>
        rw [hs3] at h
        obtain ⟨y, w9⟩ := y
        have h : ref11_Read_s4 K ((b.toNat : Nat) : Int) y.1 w9 = some (((c : Int), ()), w) := h
        rw [bnd_ok, h, bnd_ok]
    rw [hrun, e3]
    split
    · rw [place_ok hK c isC (by decide), Option.bind_some]
      unfold ref11_Read_s5
      rw [if_neg (by decide), bnd_ok]
      exact ih (k + 1) f _ (by omega) (by omega)
    · rw [place_ok hK c isV (by decide), Option.bind_some]
      unfold ref11_Read_s6
      rw [if_neg (by decide), bnd_ok]
      exact ih (k + 1) f _ (by omega) (by omega)

theorem read_l2 {K : Nat} (hK : 300 ≤ K) {t : ByteArray} {T : List Nat} (hT : IsText t T) (hTb : ∀ c ∈ T, c < 256) (hTl : T.length ≤ 1024) {out : Sl} {i5 : Int} {fr : Nat} (hfr : fr + 5 ≤ T.length) (w : World) :
    ∀ (d k f v : Nat), k + d = 5 → d < f → v < bdW k → ∃ v' wl, ref11_Read_l2 K f t out i5 (fr : Int) (v : Int) true (k : Int) w = some ((v', wl, ()), w) ∧
      (match wvG ((((T.drop fr).take 5).map lowN).drop k) k v with | some j => wl = true ∧ v' = (j : Int) | none => wl = false) := by
  intro d
  have hsz := hT.1
  have hwl : (((T.drop fr).take 5).map lowN).length = 5 := by rw [List.length_map, List.length_take, List.length_drop]; omega
  induction d with
  | zero =>
    intro k f v hk hf hv
    obtain ⟨f, rfl⟩ : ∃ q, f = q + 1 := ⟨f - 1, by omega⟩
    refine ⟨v, true, ?_, ?_⟩
    · show ref11_Read_l2_b K (ref11_Read_l2 K f) t out i5 (fr : Int) (v : Int) true (k : Int) w = _
      unfold ref11_Read_l2_b
      rw [if_neg (by simp only [decide_eq_true_eq]; omega)]
    · rw [List.drop_eq_nil_of_le (by omega)]
      exact ⟨rfl, rfl⟩
  | succ d ih =>
    intro k f v hk hf hv
    obtain ⟨f, rfl⟩ : ∃ q, f = q + 1 := ⟨f - 1, by omega⟩
    obtain ⟨b, b1, b2⟩ := text_at hT (i := fr + k) (by omega)
    have e3 : IntKind.i64.wrap ((k : Int) + 1) = ((k + 1 : Nat) : Int) := by rw [w64 (by omega) (by omega)]; rfl
    have e4 : IntKind.i64.wrap ((fr : Int) + (k : Int)) = ((fr + k : Nat) : Int) := by rw [w64 (by omega) (by omega)]; rfl
    have hc256 := hTb _ (List.getElem_mem (show fr + k < T.length by omega))
    have hs3 : ref11_Read_s3 K ((b.toNat : Nat) : Int) w = some ((decide (65 ≤ b.toNat ∧ b.toNat ≤ 90), ()), w) := by
      unfold ref11_Read_s3
      by_cases h1 : 65 ≤ b.toNat
      · rw [if_pos (decide_eq_true (show ((b.toNat : Nat) : Int) ≥ 65 by omega))]
        have : decide (((b.toNat : Nat) : Int) ≤ 90) = decide (65 ≤ b.toNat ∧ b.toNat ≤ 90) := by rw [decide_eq_decide]; omega
        rw [this]
      · rw [if_neg (by simp only [decide_eq_true_eq]; omega), decide_eq_false (show ¬ (65 ≤ b.toNat ∧ b.toNat ≤ 90) by omega)]
    have hs4 : ref11_Read_s4 K ((b.toNat : Nat) : Int) (decide (65 ≤ b.toNat ∧ b.toNat ≤ 90)) w = some ((((lowN T[fr + k] : Nat) : Int), ()), w) := by
      unfold ref11_Read_s4 lowN
      rw [← b2]
      by_cases h1 : 65 ≤ b.toNat ∧ b.toNat ≤ 90
      · rw [if_pos (decide_eq_true h1), if_pos h1]
        have : IntKind.u8.wrap (((b.toNat : Nat) : Int) + 32) = ((b.toNat + 32 : Nat) : Int) := by rw [IntKind.wrap_u8]; omega
        rw [this]
      · rw [if_neg (fun h => h1 (of_decide_eq_true h)), if_neg h1]
    have hwk : (((T.drop fr).take 5).map lowN).drop k = lowN T[fr + k] :: (((T.drop fr).take 5).map lowN).drop (k + 1) := by
      rw [List.drop_eq_getElem_cons (by omega)]
      simp
    have hvb := bd_le k
    rw [hwk]
    have hwv : wvG (lowN T[fr + k] :: (((T.drop fr).take 5).map lowN).drop (k + 1)) k v = (plG (setOf k) (lowN T[fr + k]) 0).bind fun j => wvG ((((T.drop fr).take 5).map lowN).drop (k + 1)) (k + 1) (v * mulOf k + j) := rfl
    rw [hwv]
    have hrun : ref11_Read_l2 K (f + 1) t out i5 (fr : Int) (v : Int) true (k : Int) w = (if ((Int.tmod (k : Int) 2) == 0) = true then ((ref11_place K str1 ((lowN T[fr + k] : Nat) : Int)).bind fun r_12 =>
  bnd (ref11_Read_s5 K true r_12.1 w) fun y_13 w_14 =>
  ref11_Read_l2 K f t out i5 (fr : Int) (IntKind.i64.wrap ((IntKind.i64.wrap ((v : Int) * 16)) + r_12.1)) y_13.1 (IntKind.i64.wrap ((k : Int) + 1)) w_14) else ((ref11_place K str2 ((lowN T[fr + k] : Nat) : Int)).bind fun r_15 =>
  bnd (ref11_Read_s6 K true r_15.1 w) fun y_16 w_17 =>
  ref11_Read_l2 K f t out i5 (fr : Int) (IntKind.i64.wrap ((IntKind.i64.wrap ((v : Int) * 4)) + r_15.1)) y_16.1 (IntKind.i64.wrap ((k : Int) + 1)) w_17)) := by
      show ref11_Read_l2_b K (ref11_Read_l2 K f) t out i5 (fr : Int) (v : Int) true (k : Int) w = _
      unfold ref11_Read_l2_b
      rw [if_pos (decide_eq_true (show (k : Int) < 5 by omega)), e4, if_pos (Int.natCast_nonneg _), Int.toNat_natCast, b1, Option.bind_some, hs3, bnd_ok]
      dsimp only
      rw [hs4, bnd_ok]
    have key : ∃ S : ByteArray, IsText S (setOf k) ∧ ref11_Read_l2 K (f + 1) t out i5 (fr : Int) (v : Int) true (k : Int) w = (ref11_place K S ((lowN T[fr + k] : Nat) : Int)).bind fun r => ref11_Read_l2 K f t out i5 (fr : Int) (IntKind.i64.wrap ((IntKind.i64.wrap ((v : Int) * ((mulOf k : Nat) : Int))) + r.1)) (decide (r.1 ≥ 0)) ((k + 1 : Nat) : Int) w := by
      rw [hrun, e3]
      have hm : Int.tmod (k : Int) 2 = ((k % 2 : Nat) : Int) := rfl
      rw [hm]
      unfold setOf mulOf
      by_cases h1 : k % 2 = 1
      · refine ⟨str2, by rw [if_pos h1]; exact isV, ?_⟩
        rw [if_neg (by rw [h1]; decide), if_pos h1]
        rfl
      · refine ⟨str1, by rw [if_neg h1]; exact isC, ?_⟩
        rw [if_pos (by rw [beq_iff_eq]; omega), if_neg h1]
        rfl
    obtain ⟨S, hS, hk2⟩ := key
    have hsm := set_mul k
    have hmn : mulOf k ≤ 16 := by unfold mulOf; split <;> omega
    rw [hk2, place_ok hK _ hS (by rw [hsm]; omega), Option.bind_some]
    cases hp : plG (setOf k) (lowN T[fr + k]) 0 with
    | none =>
      have ea : atI none = -1 := rfl
      rw [ea]
      dsimp only
      obtain ⟨v', h⟩ := read_l2f hK hT hTb hTl (out := out) (i5 := i5) hfr w d (k + 1) f (IntKind.i64.wrap ((IntKind.i64.wrap ((v : Int) * ((mulOf k : Nat) : Int))) + -1)) (by omega) (by omega)
      exact ⟨v', false, h, rfl⟩
    | some j =>
      have ea : atI (some j) = (j : Int) := rfl
      rw [ea, Option.bind_some]
      dsimp only
      have hj := pl_mul hp
      have hvm : v * mulOf k ≤ 65536 * 16 := Nat.mul_le_mul (by omega) hmn
      have e5 : IntKind.i64.wrap ((v : Int) * ((mulOf k : Nat) : Int)) = ((v * mulOf k : Nat) : Int) := by rw [← Int.natCast_mul, w64 (by omega) (by omega)]
      have e6 : IntKind.i64.wrap (((v * mulOf k : Nat) : Int) + (j : Int)) = ((v * mulOf k + j : Nat) : Int) := by rw [w64 (by omega) (by omega)]; rfl
      rw [e5, e6, decide_eq_true (show ((j : Nat) : Int) ≥ 0 by omega)]
      exact ih (k + 1) f _ (by omega) (by omega) (bd_step (by omega) hv hj)

theorem read_l0 {K : Nat} (hK : 18446744073709551616 ≤ K) {t : ByteArray} {T : List Nat} (hT : IsText t T) (hTb : ∀ c ∈ T, c < 256) (hTl : T.length ≤ 1024) :
    ∀ (d i f : Nat) (w : World) (so : Sl) (O : List F), i + d = T.length → d < f → OwnS 5 w so (fb O) → O.length ≤ 2 * i →
      match rdP (T.drop i) [] O with
      | none => ∃ w', ref11_Read_l0 K f t so (i : Int) w = some (.ret (nilF, false, ()), w') ∧ Upd (fun k => so.blk = some k) w w'
      | some l => ∃ s' w', ref11_Read_l0 K f t so (i : Int) w = some (.norm (s', ()), w') ∧ OwnS 5 w' s' (fb l) ∧ Upd (fun k => so.blk = some k) w w' ∧ (∀ k, s'.blk = some k → so.blk = some k ∨ w.heap.size ≤ k) ∧ l.length ≤ 2 * T.length := by
  have hsz := hT.1
  intro d
  induction d using Nat.strongRecOn with
  | _ d ih =>
  intro i f w so O hi hf ho hO
  obtain ⟨f, rfl⟩ : ∃ q, f = q + 1 := ⟨f - 1, by omega⟩
  have hun : ref11_Read_l0 K (f + 1) t so (i : Int) w = ref11_Read_l0_b K (ref11_Read_l0 K f) t so (i : Int) w := rfl
  rw [hun]
  unfold ref11_Read_l0_b
  by_cases hiT : i < T.length
  · obtain ⟨b, b1, b2⟩ := text_at hT hiT
    have e3 : IntKind.i64.wrap ((i : Int) + 1) = ((i + 1 : Nat) : Int) := by rw [w64 (by omega) (by omega)]; rfl
    have hg : T.getD i 0 = T[i] := by rw [List.getD_eq_getElem?_getD, List.getElem?_eq_getElem hiT]; rfl
    rw [if_pos (decide_eq_true (show (i : Int) < ((t.size : Nat) : Int) by omega)), if_pos (Int.natCast_nonneg _), Int.toNat_natCast, b1, Option.bind_some, b2, rgap, Option.bind_some]
    dsimp only
    by_cases hgp : gapB T[i] = true
    · rw [if_pos hgp, e3]
      have hrd : rdP (T.drop i) [] O = rdP (T.drop (i + 1)) [] O := by
        rw [List.drop_eq_getElem_cons hiT]
        show (if gapB T[i] = true then _ else _) = _
        rw [if_pos hgp]; rfl
      rw [hrd]
      exact ih (d - 1) (by omega) (i + 1) f w so O (by omega) (by omega) ho (by omega)
    · rw [if_neg hgp, read_l1 hT hTl w d i K hi (by omega), bnd_ok]
      dsimp only
      obtain ⟨sc1, sc2, sc3, sc4⟩ := scan_spec T d i hi
      have hsi : i < scanN T d i := by
        rcases Nat.lt_or_ge i (scanN T d i) with h | h
        · exact h
        · have he : scanN T d i = i := by omega
          have := sc4 (by omega)
          rw [he, hg] at this
          exact absurd this hgp
      obtain ⟨E, hE⟩ : ∃ E, E = scanN T d i := ⟨_, rfl⟩
      rw [← hE] at sc1 sc2 sc3 sc4 hsi ⊢
      -- the word, and what is behind it
      obtain ⟨W, hW⟩ : ∃ W, W = (T.drop i).take (E - i) := ⟨_, rfl⟩
      have hWl : W.length = E - i := by rw [hW, List.length_take, List.length_drop]; omega
      have hsplit : T.drop i = W ++ T.drop E := by
        rw [hW]
        conv => lhs; rw [← List.take_append_drop (E - i) (T.drop i)]
        rw [List.drop_drop, show i + (E - i) = E by omega]
      have hWg : ∀ c ∈ W, gapB c = false := fun c hc => by
        obtain ⟨k, hk, rfl⟩ := List.getElem_of_mem hc
        have hk' : i + k < T.length := by omega
        have := sc3 (i + k) (by omega) (by omega)
        rw [List.getD_eq_getElem?_getD, List.getElem?_eq_getElem hk'] at this
        have e : W[k] = T[i + k] := by simp [hW]
        rw [e]; exact this
      have hR : T.drop E = [] ∨ ∃ c R', T.drop E = c :: R' ∧ gapB c = true := by
        by_cases h : E < T.length
        · right
          refine ⟨T[E], T.drop (E + 1), List.drop_eq_getElem_cons h, ?_⟩
          have := sc4 h
          rwa [List.getD_eq_getElem?_getD, List.getElem?_eq_getElem h] at this
        · left; exact List.drop_eq_nil_of_le (by omega)
      have hrd : rdP (T.drop i) [] O = (endW (W.map lowN) O).bind fun O' => rdP (T.drop E) [] O' := by
        rw [hsplit, rd_letters W _ _ _ hWg, List.nil_append, rd_end hR]
      rw [hrd]
      have hWne : W.map lowN ≠ [] := fun e => by have := congrArg List.length e; simp at this; rw [this] at hWl; simp at hWl; omega
      have e5 : IntKind.i64.wrap (((E : Nat) : Int) - (i : Int)) = ((E - i : Nat) : Int) := by rw [w64 (by omega) (by omega)]; omega
      rw [e5]
      unfold endW
      rw [if_neg hWne, List.length_map, hWl]
      by_cases h5 : E - i = 5
      · rw [if_neg (show ¬ ((((E - i : Nat)) : Int) != 5) = true by rw [h5]; decide), if_neg (show ¬ (E - i ≠ 5) by omega), Option.bind_some]
        have hW5 : (T.drop i).take 5 = W := by rw [hW, h5]
        obtain ⟨v', wl, l1, l2⟩ := read_l2 (K := K) (by omega) hT hTb hTl (out := so) (i5 := ((E : Nat) : Int)) (fr := i) (by omega) w 5 0 K 0 (by omega) (by omega) (by decide)
        rw [hW5, List.drop_zero] at l2
        have l1 : ref11_Read_l2 K K t so ((E : Nat) : Int) (i : Int) 0 true 0 w = some ((v', wl, ()), w) := l1
        have hwN : ref11_Read_s7 K v' (!wl) w = some ((((worthN (W.map lowN) : Nat) : Int), ()), w) := by
          unfold ref11_Read_s7 worthN
          cases hw : wvG (W.map lowN) 0 0 with
          | none => rw [hw] at l2; rw [l2, if_pos (by rfl)]; rfl
          | some j => rw [hw] at l2; rw [l2.1, l2.2, if_neg (by decide)]; rfl
        have hlt := worthN_lt (wd := W.map lowN) (by rw [List.length_map, hWl, h5])
        rw [l1, bnd_ok]
        dsimp only
        rw [hwN, bnd_ok]
        dsimp only
        obtain ⟨w1, a1, a2, a3, a4⟩ := bldS_ok sliceB (fb (worthB (W.map lowN))) (fun v hv => by obtain ⟨x, _, rfl⟩ := List.mem_map.1 hv; rfl) (by rw [fb_length]; simp [worthB]) (by rw [fb_length]; simp [worthB]) w
        have g1 : IntKind.u8.wrap (IntKind.i64.wrap (Int.tdiv ((worthN (W.map lowN) : Nat) : Int) 256)) = ((worthN (W.map lowN) / 256 % 256 : Nat) : Int) := by
          have : Int.tdiv ((worthN (W.map lowN) : Nat) : Int) 256 = ((worthN (W.map lowN) / 256 : Nat) : Int) := rfl
          rw [this, w64 (by omega) (by omega), IntKind.wrap_u8]; rfl
        have g2 : IntKind.u8.wrap (Int.tmod ((worthN (W.map lowN) : Nat) : Int) 256) = ((worthN (W.map lowN) % 256 : Nat) : Int) := by
          have : Int.tmod ((worthN (W.map lowN) : Nat) : Int) 256 = ((worthN (W.map lowN) % 256 : Nat) : Int) := rfl
          rw [this, IntKind.wrap_u8]; omega
        have a1 : bldS prog 25 2 #[(0, (.int .u8 ((worthN (W.map lowN) / 256 % 256 : Nat) : Int))), (1, (.int .u8 ((worthN (W.map lowN) % 256 : Nat) : Int)))] w = some (⟨some ⟨w.heap.size, 0, none⟩, 2, 2⟩, w1) := a1
        have a2 : OwnS 5 w1 ⟨some ⟨w.heap.size, 0, none⟩, 2, 2⟩ (fb (worthB (W.map lowN))) := a2
        have hol := ho.len
        rw [fb_length] at hol
        obtain ⟨s2, w2, c1, c2, c3, c4, c5⟩ := apd_ok sliceB (ho.upd0 a3) (a2.src ints_one) (by show (so.len + 2) * 1 ≤ _; omega)
        rw [← fb_append] at c3
        have q1 := a3.size
        have u2 : Upd (fun k => so.blk = some k) w w2 := (a3.mono (T := fun k => so.blk = some k) fun _ _ e => e.elim).trans' c4 fun _ _ e => e
        have q2 := u2.size
        have hs2 : ∀ k, s2.blk = some k → so.blk = some k ∨ w.heap.size ≤ k := fun k hk => by
          rcases c5 with e | e
          · rw [e] at hk; exact .inl hk
          · rw [e] at hk; have e2 : w1.heap.size = k := Option.some.inj hk; exact .inr (by omega)
        have hrec := ih (T.length - E) (by omega) E f w2 s2 _ (by omega) (by omega) c3 (by rw [List.length_append]; show O.length + 2 ≤ _; omega)
        rw [g1, g2, a1, bnd_ok]
        dsimp only
        rw [c1, bnd_ok]
        cases hrr : rdP (T.drop E) [] (O ++ worthB (W.map lowN)) with
        | none =>
          rw [hrr] at hrec
          obtain ⟨w', y1, y2⟩ := hrec
          exact ⟨w', y1, u2.trans' y2 fun k hk e => (hs2 k e).elim id fun e2 => absurd hk (by omega)⟩
        | some l =>
          rw [hrr] at hrec
          obtain ⟨s', w', y1, y2, y3, y4, y5⟩ := hrec
          exact ⟨s', w', y1, y2, u2.trans' y3 (fun k hk e => (hs2 k e).elim id fun e2 => absurd hk (by omega)), fun k hk => (y4 k hk).elim (hs2 k) fun e => .inr (by omega), y5⟩
      · rw [if_pos (show ((((E - i : Nat)) : Int) != 5) = true by rw [bne_iff_ne]; omega), if_pos (show E - i ≠ 5 from h5), Option.bind_none]
        exact ⟨w, rfl, Upd.refl _ _⟩
  · rw [if_neg (by simp only [decide_eq_true_eq]; omega), List.drop_eq_nil_of_le (by omega)]
    exact ⟨so, w, rfl, ho, Upd.refl _ _, fun k hk => .inl hk, by omega⟩

theorem Read_ok {K : Nat} (hK : 18446744073709551616 ≤ K) (w : World) {t : ByteArray} {T : List Nat} (hT : IsText t T) (hTb : ∀ c ∈ T, c < 256) (hTl : T.length ≤ 1024) :
    ∃ s v w', ref11_Read K t w = some ((s, v, ()), w') ∧ Upd none_ w w' ∧ (match rdP T [] [] with | some l => v = true ∧ OwnS 5 w' s (fb l) ∧ Fresh w.heap.size s ∧ l.length ≤ 2 * T.length | none => v = false) := by
  have h := read_l0 hK hT hTb hTl T.length 0 K w nilF [] (by omega) (by omega) (OwnS.nil _ _) (by simp)
  rw [List.drop_zero] at h
  unfold ref11_Read
  cases hr : rdP T [] [] with
  | none =>
    rw [hr] at h
    obtain ⟨w', y1, y2⟩ := h
    have y1 : ref11_Read_l0 K K t nilF 0 w = _ := y1
    exact ⟨nilF, false, w', by rw [y1, bnd_ok], y2.mono (fun k _ e => by cases e), rfl⟩
  | some l =>
    rw [hr] at h
    obtain ⟨s', w', y1, y2, y3, y4, y5⟩ := h
    have y1 : ref11_Read_l0 K K t nilF 0 w = _ := y1
    exact ⟨s', true, w', by rw [y1, bnd_ok], y3.mono (fun k _ e => by cases e), rfl, y2, fun k hk => (y4 k hk).elim (fun e => by cases e) id, y5⟩

end Go.Sh

/- A share that is read out of bytes: the program, the document. -/
set_option linter.unusedVariables false
set_option maxRecDepth 100000
namespace Go.Sh
open Go.Fw Go.Gf Go.RowKit Go.Proofs.Try

def bAt (c : List F) (i : Nat) : Nat := (c.getD i 0).n
theorem bAt_lt (c : List F) (i : Nat) : bAt c i < 256 := (c.getD i 0).lt
def setN (c : List F) : Nat := bAt c 0 * 256 + bAt c 1
/-- a share's cells -/
def shL (s need idx size : Nat) : List Value := [.int .u16 (s : Int), .int .i64 (need : Int), .int .i64 (idx : Int), .int .i64 (size : Int)]
def fitB (c : List F) : Bool := decide (1 ≤ bAt c 2 ∧ bAt c 2 ≤ 16 ∧ 1 ≤ bAt c 3 ∧ 1 ≤ bAt c 4 ∧ bAt c 4 ≤ 64 ∧ c.length = 5 + (bAt c 4 + 4) + (5 + (bAt c 4 + 4)) % 2 + 4 ∧ ((5 + (bAt c 4 + 4)) % 2 = 1 → bAt c (5 + (bAt c 4 + 4)) = 0))
def valsP (c : List F) : List F := (c.drop 5).take (bAt c 4 + 4)
theorem fitB_iff (c : List F) : fitB c = true ↔ (1 ≤ bAt c 2 ∧ bAt c 2 ≤ 16 ∧ 1 ≤ bAt c 3 ∧ 1 ≤ bAt c 4 ∧ bAt c 4 ≤ 64 ∧ c.length = 5 + (bAt c 4 + 4) + (5 + (bAt c 4 + 4)) % 2 + 4 ∧ ((5 + (bAt c 4 + 4)) % 2 = 1 → bAt c (5 + (bAt c 4 + 4)) = 0)) := by unfold fitB; rw [decide_eq_true_eq]
theorem vals_len {c : List F} (h : fitB c = true) : (valsP c).length = bAt c 4 + 4 := by
  obtain ⟨_, _, _, _, _, h6, _⟩ := (fitB_iff c).1 h
  unfold valsP
  rw [List.length_take, List.length_drop]; omega

theorem built84 (a b c d : Int) : prog.built 33 [(0, (.int .u16 a)), (1, (.int .i64 b)), (2, (.int .i64 c)), (3, (.int .i64 d))] = some #[.int .u16 a, .int .i64 b, .int .i64 c, .int .i64 d] := by kernel_rfl
theorem built84z : prog.built 33 [] = some (shL 0 0 0 0).toArray := by kernel_rfl
theorem built102 (a b c d : Int) : prog.built 55 [(0, (.agg #[.int .u16 a, .int .i64 b, .int .i64 c, .int .i64 d]))] = some #[.int .u16 a, .int .i64 b, .int .i64 c, .int .i64 d, .slice none 0 0] := by kernel_rfl
theorem built102z : prog.built 55 [] = some (shL 0 0 0 0 ++ [slF nilF]).toArray := by kernel_rfl
theorem z102_eq : z55 = (shL 0 0 0 0 ++ [slF nilF]).toArray := by kernel_rfl
theorem z84_eq : z33 = (shL 0 0 0 0).toArray := by kernel_rfl

theorem byte_at {w : World} {b : Sl} {c : List F} (hs : BSrc w b c) {i : Nat} (hi : i < c.length) : ∃ p, b.a = some p ∧ ldI .u8 (p.add i) w = some ((bAt c i : Nat) : Int) := by
  obtain ⟨p, p1, p2⟩ := src_cell hs hi
  refine ⟨p, p1, ?_⟩
  rw [p2]
  unfold bAt bF
  rw [List.getD_eq_getElem?_getD, List.getElem?_eq_getElem hi]; rfl

theorem wrap_u16F (n : Int) : IntKind.u16.wrap n = n % 65536 := by simp [IntKind.wrap, IntKind.bits, IntKind.signed]
theorem set_or {a b : Nat} (ha : a < 256) (hb : b < 256) : bits .or .u16 (IntKind.u16.wrap ((IntKind.u16.wrap (a : Int)) * 2 ^ 8)) (IntKind.u16.wrap (b : Int)) = ((a * 256 + b : Nat) : Int) := by
  have e1 : IntKind.u16.wrap (a : Int) = (a : Int) := by rw [wrap_u16F]; omega
  have e2 : IntKind.u16.wrap (b : Int) = (b : Int) := by rw [wrap_u16F]; omega
  have e3 : (a : Int) * 2 ^ 8 = ((a * 256 : Nat) : Int) := by simp
  have e4 : IntKind.u16.wrap ((a * 256 : Nat) : Int) = ((a * 256 : Nat) : Int) := by rw [wrap_u16F]; omega
  rw [e1, e2, e3, e4, (bits_nats (k := .u16) rfl (show a * 256 < 2 ^ 16 by omega) (show b < 2 ^ 16 by omega)).2.1]
  have := Nat.two_pow_add_eq_or_of_lt (i := 8) (show b < 2 ^ 8 by omega) a
  rw [Nat.mul_comm] at this
  rw [show a * 256 = a * 2 ^ 8 from rfl, ← this]
theorem set_add {a b : Nat} (ha : a < 256) (hb : b < 256) : IntKind.u16.wrap ((IntKind.u16.wrap ((IntKind.u16.wrap (a : Int)) * 256)) + (IntKind.u16.wrap (b : Int))) = ((a * 256 + b : Nat) : Int) := by
  have e1 : IntKind.u16.wrap (a : Int) = (a : Int) := by rw [wrap_u16F]; omega
  have e2 : IntKind.u16.wrap (b : Int) = (b : Int) := by rw [wrap_u16F]; omega
  rw [e1, e2]
  have e4 : IntKind.u16.wrap ((a : Int) * 256) = ((a * 256 : Nat) : Int) := by rw [wrap_u16F]; omega
  rw [e4, wrap_u16F]; omega
theorem i64_nat {a : Nat} (ha : a < 256) : IntKind.i64.wrap (a : Int) = (a : Int) := w64 (by omega) (by omega)

theorem shL_one (s n i z : Nat) : ∀ v ∈ shL s n i z, v.oneCell' = true := fun v hv => by
  simp only [shL, List.mem_cons, List.not_mem_nil, or_false] at hv
  rcases hv with rfl | rfl | rfl | rfl <;> rfl
theorem shS_one (s n i z : Nat) (sv : Sl) : ∀ v ∈ shL s n i z ++ [slF sv], v.oneCell' = true := fun v hv => by
  rcases List.mem_append.1 hv with h | h
  · exact shL_one s n i z v h
  · simp only [List.mem_singleton] at h; rw [h]; rfl

theorem read_s0 {w : World} {b : Sl} {c : List F} (hs : BSrc w b c) (h5 : 5 ≤ c.length) :
    ∃ g w', escrow_read_s0 b w = some ((⟨g, 0, none⟩, ()), w') ∧ Bk 55 w' g (shL (setN c) (bAt c 2) (bAt c 3) (bAt c 4) ++ [slF nilF]) ∧ Upd none_ w w' ∧ w.heap.size ≤ g := by
  have hbl : b.len = c.length := by rw [hs.len, fb_length]
  have hd := hs.upd0 (Upd.refl none_ w).drew
  obtain ⟨p, p1, p2⟩ := byte_at hd (i := 0) (by omega)
  obtain ⟨p', q1, q2⟩ := byte_at hd (i := 1) (by omega)
  obtain rfl : p' = p := Option.some.inj (q1.symm.trans p1)
  obtain ⟨p'', r1, r2⟩ := byte_at hd (i := 2) (by omega)
  obtain rfl : p'' = p' := Option.some.inj (r1.symm.trans p1)
  obtain ⟨p''', s1, s2⟩ := byte_at hd (i := 3) (by omega)
  obtain rfl : p''' = p'' := Option.some.inj (s1.symm.trans p1)
  obtain ⟨p4, t1, t2⟩ := byte_at hd (i := 4) (by omega)
  obtain rfl : p4 = p''' := Option.some.inj (t1.symm.trans p1)
  obtain ⟨w1, a1, a2, a3, a4⟩ := newB_ok z55 55 w.drew
  have a2 : Bk 55 w1 w.heap.size (shL 0 0 0 0 ++ [slF nilF]) := by rw [z102_eq] at a2; exact a2
  have a1 : newB z55 55 w.drew = some (⟨w.heap.size, 0, none⟩, w1) := a1
  have hd1 := hd.upd0 a3
  obtain ⟨w2, b1, b2, b3⟩ := a2.stA (o := 0) (vs := (shL (setN c) (bAt c 2) (bAt c 3) (bAt c 4) ++ [slF nilF]).toArray) (by simp [shL]) (fun v hv => shS_one _ _ _ _ _ v hv)
  have b2 : Bk 55 w2 w.heap.size (shL (setN c) (bAt c 2) (bAt c 3) (bAt c 4) ++ [slF nilF]) := b2
  have hlt := src_ltF hs
  have hcne : c ≠ [] := fun e => by rw [e] at h5; simp at h5
  have hd2 : BSrc w2 b c := src_updF hd1 b3 fun q hq _ => by have := hlt q hq hcne; omega
  have L : ∀ {W : World}, BSrc W b c → ldI .u8 (p4.add 0) W = some ((bAt c 0 : Nat) : Int) ∧ ldI .u8 (p4.add 1) W = some ((bAt c 1 : Nat) : Int) ∧ ldI .u8 (p4.add 2) W = some ((bAt c 2 : Nat) : Int) ∧ ldI .u8 (p4.add 3) W = some ((bAt c 3 : Nat) : Int) ∧ ldI .u8 (p4.add 4) W = some ((bAt c 4 : Nat) : Int) := fun hW => by
    have get : ∀ i, i < c.length → ldI .u8 (p4.add i) _ = some ((bAt c i : Nat) : Int) := fun i hi => by
      obtain ⟨p0, x1, x2⟩ := byte_at hW hi
      obtain rfl : p0 = p4 := Option.some.inj (x1.symm.trans p1)
      exact x2
    exact ⟨get 0 (by omega), get 1 (by omega), get 2 (by omega), get 3 (by omega), get 4 (by omega)⟩
  obtain ⟨x0, x1, x2, x3, x4⟩ := L hd
  obtain ⟨y0, y1, y2, y3, y4⟩ := L hd1
  obtain ⟨v0, v1, v2, v3, v4⟩ := L hd2
  have c0 : (0 : Int) ≤ 0 ∧ (0 : Int) < ((b.len : Nat) : Int) := by omega
  have c1 : (0 : Int) ≤ 1 ∧ (1 : Int) < ((b.len : Nat) : Int) := by omega
  have c2 : (0 : Int) ≤ 2 ∧ (2 : Int) < ((b.len : Nat) : Int) := by omega
  have c3 : (0 : Int) ≤ 3 ∧ (3 : Int) < ((b.len : Nat) : Int) := by omega
  have c4 : (0 : Int) ≤ 4 ∧ (4 : Int) < ((b.len : Nat) : Int) := by omega
  have hset := set_or (bAt_lt c 0) (bAt_lt c 1)
  refine ⟨w.heap.size, w2, ?_, b2, ((Upd.refl none_ w).drew.and0 a3).trans' b3 fun k hk e => by omega, Nat.le_refl _⟩
  unfold escrow_read_s0
  rw [p1, Option.bind_some, if_pos c0, Option.bind_some, if_pos c1, Option.bind_some, if_pos c2, Option.bind_some, if_pos c3, Option.bind_some, if_pos c4]
  simp only [Nat.mul_one]
  rw [x0, Option.bind_some, x1, Option.bind_some, x2, Option.bind_some, x3, Option.bind_some, x4, Option.bind_some, hset, i64_nat (bAt_lt c 2), i64_nat (bAt_lt c 3), i64_nat (bAt_lt c 4), built84, Option.bind_some, built102, Option.bind_some, a1, bnd_ok, y4, Option.bind_some, sameK_selfF, y3, Option.bind_some, sameK_selfF, y2, Option.bind_some, sameK_selfF, y1, Option.bind_some, sameK_selfF, y0, Option.bind_some, sameK_selfF, if_pos (by rfl)]
  have b1 : stA ⟨w.heap.size, 0, none⟩ #[.int .u16 ((bAt c 0 * 256 + bAt c 1 : Nat) : Int), .int .i64 ((bAt c 2 : Nat) : Int), .int .i64 ((bAt c 3 : Nat) : Int), .int .i64 ((bAt c 4 : Nat) : Int), .slice none 0 0] w1 = some w2 := b1
  rw [b1, Option.bind_some, v4, Option.bind_some, sameK_selfF, v3, Option.bind_some, sameK_selfF, v2, Option.bind_some, sameK_selfF, v1, Option.bind_some, sameK_selfF, v0, Option.bind_some, sameK_selfF]

theorem fits_s0 {w : World} {b : Sl} {c : List F} (hs : BSrc w b c) (h5 : 5 ≤ c.length) :
    ∃ g w', ref11_Fits_s0 b w = some ((⟨g, 0, none⟩, ()), w') ∧ Bk 33 w' g (shL (setN c) (bAt c 2) (bAt c 3) (bAt c 4)) ∧ Upd none_ w w' ∧ w.heap.size ≤ g := by
  have hbl : b.len = c.length := by rw [hs.len, fb_length]
  have hd := hs.upd0 (Upd.refl none_ w).drew
  obtain ⟨p4, p1, p2⟩ := byte_at hd (i := 0) (by omega)
  obtain ⟨w1, a1, a2, a3, a4⟩ := newB_ok z33 33 w.drew
  have a2 : Bk 33 w1 w.heap.size (shL 0 0 0 0) := by rw [z84_eq] at a2; exact a2
  have a1 : newB z33 33 w.drew = some (⟨w.heap.size, 0, none⟩, w1) := a1
  have hd1 := hd.upd0 a3
  obtain ⟨w2, b1, b2, b3⟩ := a2.stA (o := 0) (vs := (shL (setN c) (bAt c 2) (bAt c 3) (bAt c 4)).toArray) (by simp [shL]) (fun v hv => shL_one _ _ _ _ v hv)
  have b2 : Bk 33 w2 w.heap.size (shL (setN c) (bAt c 2) (bAt c 3) (bAt c 4)) := b2
  have hlt := src_ltF hs
  have hcne : c ≠ [] := fun e => by rw [e] at h5; simp at h5
  have hd2 : BSrc w2 b c := src_updF hd1 b3 fun q hq _ => by have := hlt q hq hcne; omega
  have L : ∀ {W : World}, BSrc W b c → ldI .u8 (p4.add 0) W = some ((bAt c 0 : Nat) : Int) ∧ ldI .u8 (p4.add 1) W = some ((bAt c 1 : Nat) : Int) ∧ ldI .u8 (p4.add 2) W = some ((bAt c 2 : Nat) : Int) ∧ ldI .u8 (p4.add 3) W = some ((bAt c 3 : Nat) : Int) ∧ ldI .u8 (p4.add 4) W = some ((bAt c 4 : Nat) : Int) := fun hW => by
    have get : ∀ i, i < c.length → ldI .u8 (p4.add i) _ = some ((bAt c i : Nat) : Int) := fun i hi => by
      obtain ⟨p0, x1, x2⟩ := byte_at hW hi
      obtain rfl : p0 = p4 := Option.some.inj (x1.symm.trans p1)
      exact x2
    exact ⟨get 0 (by omega), get 1 (by omega), get 2 (by omega), get 3 (by omega), get 4 (by omega)⟩
  obtain ⟨x0, x1, x2, x3, x4⟩ := L hd
  obtain ⟨y0, y1, y2, y3, y4⟩ := L hd1
  obtain ⟨v0, v1, v2, v3, v4⟩ := L hd2
  have c0 : (0 : Int) ≤ 0 ∧ (0 : Int) < ((b.len : Nat) : Int) := by omega
  have c1 : (0 : Int) ≤ 1 ∧ (1 : Int) < ((b.len : Nat) : Int) := by omega
  have c2 : (0 : Int) ≤ 2 ∧ (2 : Int) < ((b.len : Nat) : Int) := by omega
  have c3 : (0 : Int) ≤ 3 ∧ (3 : Int) < ((b.len : Nat) : Int) := by omega
  have c4 : (0 : Int) ≤ 4 ∧ (4 : Int) < ((b.len : Nat) : Int) := by omega
  have hset := set_add (bAt_lt c 0) (bAt_lt c 1)
  refine ⟨w.heap.size, w2, ?_, b2, ((Upd.refl none_ w).drew.and0 a3).trans' b3 fun k hk e => by omega, Nat.le_refl _⟩
  unfold ref11_Fits_s0
  rw [p1, Option.bind_some, if_pos c0, Option.bind_some, if_pos c1, Option.bind_some, if_pos c2, Option.bind_some, if_pos c3, Option.bind_some, if_pos c4]
  simp only [Nat.mul_one]
  rw [x0, Option.bind_some, x1, Option.bind_some, x2, Option.bind_some, x3, Option.bind_some, x4, Option.bind_some, hset, i64_nat (bAt_lt c 2), i64_nat (bAt_lt c 3), i64_nat (bAt_lt c 4), built84, Option.bind_some, a1, bnd_ok, y4, Option.bind_some, sameK_selfF, y3, Option.bind_some, sameK_selfF, y2, Option.bind_some, sameK_selfF, y1, Option.bind_some, sameK_selfF, y0, Option.bind_some, sameK_selfF, if_pos (by rfl)]
  have b1 : stA ⟨w.heap.size, 0, none⟩ #[.int .u16 ((bAt c 0 * 256 + bAt c 1 : Nat) : Int), .int .i64 ((bAt c 2 : Nat) : Int), .int .i64 ((bAt c 3 : Nat) : Int), .int .i64 ((bAt c 4 : Nat) : Int)] w1 = some w2 := b1
  rw [b1, Option.bind_some, v4, Option.bind_some, sameK_selfF, v3, Option.bind_some, sameK_selfF, v2, Option.bind_some, sameK_selfF, v1, Option.bind_some, sameK_selfF, v0, Option.bind_some, sameK_selfF]

end Go.Sh

/- A share that is read out of bytes, whole. -/
set_option linter.unusedVariables false
set_option maxRecDepth 100000
namespace Go.Sh
open Go.Fw Go.Gf Go.RowKit Go.Proofs.Try

theorem sh_lds {e : TypeId} {w : World} {g : Nat} {s n i z : Nat} {tl : List Value} (b : Bk e w g (shL s n i z ++ tl)) :
    ldI .u16 (⟨g, 0, none⟩ : Addr) w = some (s : Int) ∧ ldI .i64 (⟨g, 1, none⟩ : Addr) w = some (n : Int) ∧ ldI .i64 (⟨g, 2, none⟩ : Addr) w = some (i : Int) ∧ ldI .i64 (⟨g, 3, none⟩ : Addr) w = some (z : Int) :=
  ⟨b.ldI rfl, b.ldI rfl, b.ldI rfl, b.ldI rfl⟩

theorem set_shL (s n i z : Nat) (a b : Sl) : (shL s n i z ++ [slF a]).set 4 (slF b) = shL s n i z ++ [slF b] := rfl

/-- the first test of a share's numbers -/
def okN (c : List F) : Bool := decide (1 ≤ bAt c 2 ∧ bAt c 2 ≤ 16 ∧ 1 ≤ bAt c 3 ∧ 1 ≤ bAt c 4 ∧ bAt c 4 ≤ 64)

theorem read_s1 {w : World} {g : Nat} {e : TypeId} {c : List F} {tl : List Value} (b : Bk e w g (shL (setN c) (bAt c 2) (bAt c 3) (bAt c 4) ++ tl)) : escrow_read_s1 ⟨g, 0, none⟩ w = some ((!okN c, ()), w) := by
  obtain ⟨l0, l1, l2, l3⟩ := sh_lds b
  unfold escrow_read_s1 okN
  simp only [add_lit, Nat.zero_add, l1, l2, l3, Option.bind_some]
  by_cases h1 : 1 ≤ bAt c 2
  · rw [if_neg (by simp only [decide_eq_true_eq]; omega)]
    by_cases h2 : bAt c 2 ≤ 16
    · rw [if_neg (by simp only [decide_eq_true_eq]; omega)]
      by_cases h3 : 1 ≤ bAt c 3
      · rw [if_neg (by simp only [decide_eq_true_eq]; omega)]
        by_cases h4 : 1 ≤ bAt c 4
        · rw [if_neg (by simp only [decide_eq_true_eq]; omega)]
          by_cases h5 : bAt c 4 ≤ 64
          · rw [decide_eq_false (show ¬ ((bAt c 4 : Nat) : Int) > 64 by omega), decide_eq_true ⟨h1, h2, h3, h4, h5⟩]; rfl
          · rw [decide_eq_true (show ((bAt c 4 : Nat) : Int) > 64 by omega), decide_eq_false (fun h => h5 h.2.2.2.2)]; rfl
        · rw [if_pos (by simp only [decide_eq_true_eq]; omega), decide_eq_false (fun h => h4 h.2.2.2.1)]; rfl
      · rw [if_pos (by simp only [decide_eq_true_eq]; omega), decide_eq_false (fun h => h3 h.2.2.1)]; rfl
    · rw [if_pos (by simp only [decide_eq_true_eq]; omega), decide_eq_false (fun h => h2 h.2.1)]; rfl
  · rw [if_pos (by simp only [decide_eq_true_eq]; omega), decide_eq_false (fun h => h1 h.1)]; rfl

theorem fitB_okN {c : List F} : fitB c = (okN c && decide (c.length = 5 + (bAt c 4 + 4) + (5 + (bAt c 4 + 4)) % 2 + 4 ∧ ((5 + (bAt c 4 + 4)) % 2 = 1 → bAt c (5 + (bAt c 4 + 4)) = 0))) := by
  unfold fitB okN
  rw [Bool.eq_iff_iff]
  simp only [Bool.and_eq_true, decide_eq_true_eq]
  constructor
  · rintro ⟨a, b, c, d, e, f, g⟩; exact ⟨⟨a, b, c, d, e⟩, f, g⟩
  · rintro ⟨⟨a, b, c, d, e⟩, f, g⟩; exact ⟨a, b, c, d, e, f, g⟩

theorem read_ok {w : World} {b : Sl} {c : List F} (hs : BSrc w b c) (h5 : 5 ≤ c.length) (hl : c.length ≤ 1000) :
    ∃ cs w', escrow_read b w = some ((cs, fitB c, ()), w') ∧ Upd none_ w w' ∧ (if fitB c = true then ∃ sv, cs = (shL (setN c) (bAt c 2) (bAt c 3) (bAt c 4) ++ [slF sv]).toArray ∧ BSrc w' sv (valsP c) ∧ (∀ q, sv.a = some q → ∃ p, b.a = some p ∧ q.block = p.block) else cs = (shL 0 0 0 0 ++ [slF nilF]).toArray) := by
  have hbl : b.len = c.length := by rw [hs.len, fb_length]
  obtain ⟨w1, a1, a2, a3, a4⟩ := newB_ok z55 55 w
  have a2 : Bk 55 w1 w.heap.size (shL 0 0 0 0 ++ [slF nilF]) := by rw [z102_eq] at a2; exact a2
  obtain ⟨g, w2, b1, b2, b3, b4⟩ := read_s0 (hs.upd0 a3) h5
  have u2 := a3.and0 b3
  have q1 := a3.size
  have q2 := b3.size
  have zero : ∀ (w3 : World), Upd none_ w1 w3 → ∃ w4, ((prog.built 55 []).bind fun cs_37 =>
  if (cs_37).size = 5 then ((stA ⟨w.heap.size, 0, none⟩ cs_37 w3).bind fun w_38 =>
  (ldA 5 ⟨w.heap.size, 0, none⟩ w_38).bind fun res_39 =>
  some ((res_39, false, ()), w_38)) else none) = some (((shL 0 0 0 0 ++ [slF nilF]).toArray, false, ()), w4) ∧ Upd none_ w w4 := fun w3 u3 => by
    obtain ⟨w4, c1, c2, c3⟩ := (a2.upd0 u3).stA (o := 0) (vs := (shL 0 0 0 0 ++ [slF nilF]).toArray) (by simp [shL]) (fun v hv => shS_one _ _ _ _ _ v hv)
    have c2 : Bk 55 w4 w.heap.size (shL 0 0 0 0 ++ [slF nilF]) := c2
    have c4 := c2.ldA (i := 0) (n := 5) (by simp [shL])
    have c4 : ldA 5 ⟨w.heap.size, 0, none⟩ w4 = some (shL 0 0 0 0 ++ [slF nilF]).toArray := c4
    exact ⟨w4, by rw [built102z, Option.bind_some, if_pos (by rfl), c1, Option.bind_some, c4, Option.bind_some], (a3.and0 u3).trans' c3 fun k hk e => by omega⟩
  unfold escrow_read
  rw [a1, bnd_ok, b1, bnd_ok]
  dsimp only
  rw [read_s1 b2, bnd_ok]
  dsimp only
  obtain ⟨l0, l1, l2, l3⟩ := sh_lds b2
  by_cases hok : okN c = true
  · have hb := hok
    unfold okN at hb
    obtain ⟨h1, h2, h3, h4, h64⟩ := of_decide_eq_true hb
    obtain ⟨n, hn⟩ : ∃ n, n = bAt c 4 + 4 := ⟨_, rfl⟩
    have e1 : IntKind.i64.wrap (((bAt c 4 : Nat) : Int) + 4) = ((n : Nat) : Int) := by rw [w64 (by omega) (by omega)]; omega
    have e2 : IntKind.i64.wrap (5 + ((n : Nat) : Int)) = ((5 + n : Nat) : Int) := by rw [w64 (by omega) (by omega)]; omega
    have e3 : Int.tmod ((5 + n : Nat) : Int) 2 = (((5 + n) % 2 : Nat) : Int) := rfl
    have e4 : IntKind.i64.wrap (((5 + n : Nat) : Int) + (((5 + n) % 2 : Nat) : Int)) = ((5 + n + (5 + n) % 2 : Nat) : Int) := by rw [w64 (by omega) (by omega)]; omega
    have e5 : IntKind.i64.wrap (((5 + n + (5 + n) % 2 : Nat) : Int) + 4) = ((5 + n + (5 + n) % 2 + 4 : Nat) : Int) := by rw [w64 (by omega) (by omega)]; omega
    have hf : fitB c = decide (c.length = 5 + n + (5 + n) % 2 + 4 ∧ ((5 + n) % 2 = 1 → bAt c (5 + n) = 0)) := by rw [fitB_okN, hok, ← hn]; rfl
    have hs2 : escrow_read_s2 b ((n : Nat) : Int) (((5 + n) % 2 : Nat) : Int) w2 = some ((!fitB c, ()), w2) := by
      unfold escrow_read_s2
      rw [e2, e4, e5, hf, hbl]
      by_cases hlen : c.length = 5 + n + (5 + n) % 2 + 4
      · rw [if_neg (by rw [bne_iff_ne]; omega)]
        by_cases hp : (5 + n) % 2 = 1
        · obtain ⟨p, p1, p2⟩ := byte_at (hs.upd0 u2) (i := 5 + n) (by omega)
          have cc : (0 : Int) ≤ ((5 + n : Nat) : Int) ∧ ((5 + n : Nat) : Int) < ((c.length : Nat) : Int) := by omega
          rw [if_pos (by rw [hp]; rfl), p1, Option.bind_some, if_pos cc, Int.toNat_natCast, Nat.mul_one, p2, Option.bind_some]
          have : (((bAt c (5 + n) : Nat) : Int) != 0) = !decide (c.length = 5 + n + (5 + n) % 2 + 4 ∧ ((5 + n) % 2 = 1 → bAt c (5 + n) = 0)) := by
            by_cases hz : bAt c (5 + n) = 0
            · rw [hz, decide_eq_true ⟨hlen, fun _ => rfl⟩]; rfl
            · rw [decide_eq_false (fun h => hz (h.2 hp))]
              have : (((bAt c (5 + n) : Nat) : Int) != 0) = true := by rw [bne_iff_ne]; omega
              rw [this]; rfl
          rw [this]
        · rw [if_neg (by rw [beq_iff_eq]; omega), decide_eq_true ⟨hlen, fun h => absurd h hp⟩]; rfl
      · rw [if_pos (by rw [bne_iff_ne]; omega), decide_eq_false (fun h => hlen h.1)]; rfl
    have ea : (((⟨g, 0, none⟩ : Addr).add 0).add 3) = ⟨g, 3, none⟩ := by simp only [add_lit, Nat.zero_add]
    rw [hok, if_neg (by decide), ea, l3, Option.bind_some, e1, e2, e3, hs2, bnd_ok]
    dsimp only
    by_cases hfit : fitB c = true
    · have hcl : c.length = 5 + n + (5 + n) % 2 + 4 := (of_decide_eq_true (hf ▸ hfit)).1
      have hcap := hs.cap
      rw [hfit, if_neg (by decide)]
      have c1 : (0 : Int) ≤ ((5 + n : Nat) : Int) ∧ ((5 + n : Nat) : Int) ≤ ((b.cap : Nat) : Int) := by omega
      have c2 : (0 : Int) ≤ ((5 + n : Nat) : Int) ∧ ((5 + n : Nat) : Int) ≤ (((Int.toNat ((5 + n : Nat) : Int)) : Nat) : Int) := by rw [Int.toNat_natCast]; omega
      have c3 : (0 : Int) ≤ 5 ∧ (5 : Int) ≤ (((Int.toNat ((5 + n : Nat) : Int)) : Nat) : Int) := by rw [Int.toNat_natCast]; omega
      rw [if_pos c1, if_pos c2, if_pos c3, Int.toNat_natCast]
      obtain ⟨sv, hsv⟩ : ∃ sv : Sl, sv = ⟨sla b.a 5 (5 + n) 1, 5 + n - 5, 5 + n - 5⟩ := ⟨_, rfl⟩
      obtain ⟨w3, d1, d2, d3⟩ := b2.stC (i := 4) (by simp [shL]) (slF sv)
      rw [set_shL] at d2
      have d1 : stC ⟨g, 4, none⟩ (.slice (sla b.a 5 (5 + n) 1) (5 + n - 5) (5 + n - 5)) w2 = some w3 := by rw [hsv] at d1; exact d1
      have d4 := d2.ldA (i := 0) (n := 5) (by simp [shL])
      have d4 : ldA 5 ⟨g, 0, none⟩ w3 = some (shL (setN c) (bAt c 2) (bAt c 3) (bAt c 4) ++ [slF sv]).toArray := d4
      have hgw : g ≠ w.heap.size := by omega
      have u3 : Upd none_ w w3 := u2.trans' d3 fun k hk e => by omega
      obtain ⟨w4, f1, f2, f3⟩ := ((a2.upd0 b3).upd d3 (fun e => hgw e.symm)).stA (o := 0) (vs := (shL (setN c) (bAt c 2) (bAt c 3) (bAt c 4) ++ [slF sv]).toArray) (by simp [shL]) (fun v hv => shS_one _ _ _ _ _ v hv)
      have f2 : Bk 55 w4 w.heap.size (shL (setN c) (bAt c 2) (bAt c 3) (bAt c 4) ++ [slF sv]) := f2
      have f4 := f2.ldA (i := 0) (n := 5) (by simp [shL])
      have f4 : ldA 5 ⟨w.heap.size, 0, none⟩ w4 = some (shL (setN c) (bAt c 2) (bAt c 3) (bAt c 4) ++ [slF sv]).toArray := f4
      have u4 : Upd none_ w w4 := u3.trans' f3 fun k hk e => by omega
      refine ⟨(shL (setN c) (bAt c 2) (bAt c 3) (bAt c 4) ++ [slF sv]).toArray, w4, ?_, u4, ?_⟩
      · rw [add_lit, Nat.zero_add, d1, Option.bind_some, d4, Option.bind_some, if_pos (by rfl), f1, Option.bind_some, f4, Option.bind_some]
      rw [if_pos rfl]
      refine ⟨sv, rfl, ?_, fun q hq => ?_⟩
      · have h0 := (hs.upd0 u4)
        have h1 := (src_subF h0 (lo := 5) (by rw [fb_length]; omega)).cut (n := n) (by show n ≤ b.len - 5; omega)
        have h1 : Fw.Src w4 ⟨sla b.a 5 b.cap 1, n, b.cap - 5⟩ ((fb c).drop 5 |>.take n) := h1
        rw [fb_drop, fb_take] at h1
        have hsla : sla b.a 5 (5 + n) 1 = sla b.a 5 b.cap 1 := by
          unfold sla
          rw [if_neg (by omega), if_neg (by omega)]
        have hvp : valsP c = (c.drop 5).take n := by unfold valsP; rw [← hn]
        have hvl := vals_len hfit
        rw [hvp] at hvl ⊢
        refine ⟨?_, ?_, ?_, h1.one⟩
        · rw [hsv, fb_length, hvl]
          show 5 + n - 5 = _; omega
        · rw [hsv]; exact Nat.le_refl _
        · rw [hsv]
          rcases h1.rd with ⟨x1, x2, x3⟩ | ⟨p, x1, x2⟩
          · have h0 : ((c.drop 5).take n).length = 0 := by
              have h := congrArg List.length x3
              rw [fb_length] at h
              exact h
            omega
          · exact .inr ⟨p, by show sla b.a 5 (5 + n) 1 = some p; rw [hsla]; exact x1, x2⟩
      · rw [hsv] at hq
        exact sla_blkF hq
    · have hff : fitB c = false := by simpa using hfit
      rw [hff, if_pos (by decide)]
      obtain ⟨w4, z1, z2⟩ := zero w2 b3
      exact ⟨_, w4, z1, z2, by rw [if_neg (by decide)]⟩
  · have hff : okN c = false := by simpa using hok
    have hfz : fitB c = false := by rw [fitB_okN, hff]; rfl
    rw [hff, if_pos (by decide), hfz]
    obtain ⟨w4, z1, z2⟩ := zero w2 b3
    exact ⟨_, w4, z1, z2, by rw [if_neg (by decide)]⟩

end Go.Sh

/- The document's Fits; a share's bytes. -/
set_option linter.unusedVariables false
set_option maxRecDepth 100000
namespace Go.Sh
open Go.Fw Go.Gf Go.RowKit Go.Proofs.Try

theorem fits_s1 {n : Nat} (hn : n ≤ 1000) (w : World) : ref11_Fits_s1 ((5 + n + 4 : Nat) : Int) ((Int.tmod ((5 + n + 4 : Nat) : Int) 2) == 1) w = some ((((5 + n + (5 + n) % 2 + 4 : Nat) : Int), ()), w) := by
  have e : Int.tmod ((5 + n + 4 : Nat) : Int) 2 = (((5 + n + 4) % 2 : Nat) : Int) := rfl
  unfold ref11_Fits_s1
  rw [e]
  by_cases h : (5 + n) % 2 = 1
  · have h2 : (5 + n + 4) % 2 = 1 := by omega
    have e1 : IntKind.i64.wrap (((5 + n + 4 : Nat) : Int) + 1) = ((5 + n + (5 + n) % 2 + 4 : Nat) : Int) := by rw [w64 (by omega) (by omega)]; omega
    rw [h2, if_pos (by rfl), e1]
  · have h2 : (5 + n + 4) % 2 = 0 := by omega
    have e1 : (5 + n + 4 : Nat) = 5 + n + (5 + n) % 2 + 4 := by omega
    rw [h2, if_neg (by decide), ← e1]

theorem fits_s2 {w : World} {b : Sl} {c : List F} {g : Nat} {e : TypeId} (hs : BSrc w b c) (hl : c.length ≤ 1000) (hb : Bk e w g (shL (setN c) (bAt c 2) (bAt c 3) (bAt c 4))) :
    ref11_Fits_s2 b ⟨g, 0, none⟩ ((bAt c 4 + 4 : Nat) : Int) ((5 + (bAt c 4 + 4) + (5 + (bAt c 4 + 4)) % 2 + 4 : Nat) : Int) w = some ((!fitB c, ()), w) := by
  have hbl : b.len = c.length := by rw [hs.len, fb_length]
  have hb' : Bk e w g (shL (setN c) (bAt c 2) (bAt c 3) (bAt c 4) ++ []) := by rw [List.append_nil]; exact hb
  obtain ⟨l0, l1, l2, l3⟩ := sh_lds hb'
  have h4 := bAt_lt c 4
  obtain ⟨n, hn⟩ : ∃ n, n = bAt c 4 + 4 := ⟨_, rfl⟩
  have hfb : fitB c = decide (1 ≤ bAt c 2 ∧ bAt c 2 ≤ 16 ∧ 1 ≤ bAt c 3 ∧ 1 ≤ bAt c 4 ∧ bAt c 4 ≤ 64 ∧ c.length = 5 + n + (5 + n) % 2 + 4 ∧ ((5 + n) % 2 = 1 → bAt c (5 + n) = 0)) := by rw [hn]; rfl
  have e2 : IntKind.i64.wrap (5 + ((n : Nat) : Int)) = ((5 + n : Nat) : Int) := by rw [w64 (by omega) (by omega)]; omega
  have e3 : Int.tmod ((5 + n : Nat) : Int) 2 = (((5 + n) % 2 : Nat) : Int) := rfl
  rw [hfb, ← hn]
  unfold ref11_Fits_s2
  simp only [add_lit, Nat.zero_add, l1, l2, l3, Option.bind_some, e2, e3, hbl]
  by_cases h1 : 1 ≤ bAt c 2
  · rw [if_neg (by simp only [decide_eq_true_eq]; omega)]
    by_cases h2 : bAt c 2 ≤ 16
    · rw [if_neg (by simp only [decide_eq_true_eq]; omega)]
      by_cases h3 : 1 ≤ bAt c 3
      · rw [if_neg (by simp only [decide_eq_true_eq]; omega)]
        by_cases h4 : 1 ≤ bAt c 4
        · rw [if_neg (by simp only [decide_eq_true_eq]; omega)]
          by_cases h5 : bAt c 4 ≤ 64
          · rw [if_neg (by simp only [decide_eq_true_eq]; omega)]
            by_cases hlen : c.length = 5 + n + (5 + n) % 2 + 4
            · rw [if_neg (by rw [bne_iff_ne]; omega)]
              by_cases hp : (5 + n) % 2 = 1
              · obtain ⟨p, p1, p2⟩ := byte_at hs (i := 5 + n) (by omega)
                have cc : (0 : Int) ≤ ((5 + n : Nat) : Int) ∧ ((5 + n : Nat) : Int) < ((c.length : Nat) : Int) := by omega
                rw [if_pos (by rw [hp]; rfl), p1, Option.bind_some, if_pos cc, Int.toNat_natCast, Nat.mul_one, p2, Option.bind_some]
                by_cases hz : bAt c (5 + n) = 0
                · rw [hz, decide_eq_true ⟨h1, h2, h3, h4, h5, hlen, fun _ => rfl⟩]; rfl
                · rw [decide_eq_false (fun h => hz (h.2.2.2.2.2.2 hp))]
                  have : (((bAt c (5 + n) : Nat) : Int) != 0) = true := by rw [bne_iff_ne]; omega
                  rw [this]; rfl
              · rw [if_neg (by rw [beq_iff_eq]; omega), decide_eq_true ⟨h1, h2, h3, h4, h5, hlen, fun h => absurd h hp⟩]; rfl
            · rw [if_pos (by rw [bne_iff_ne]; omega), decide_eq_false (fun h => hlen h.2.2.2.2.2.1)]; rfl
          · rw [if_pos (by simp only [decide_eq_true_eq]; omega), decide_eq_false (fun h => h5 h.2.2.2.2.1)]; rfl
        · rw [if_pos (by simp only [decide_eq_true_eq]; omega), decide_eq_false (fun h => h4 h.2.2.2.1)]; rfl
      · rw [if_pos (by simp only [decide_eq_true_eq]; omega), decide_eq_false (fun h => h3 h.2.2.1)]; rfl
    · rw [if_pos (by simp only [decide_eq_true_eq]; omega), decide_eq_false (fun h => h2 h.2.1)]; rfl
  · rw [if_pos (by simp only [decide_eq_true_eq]; omega), decide_eq_false (fun h => h1 h.1)]; rfl

theorem Fits_ok {w : World} {b : Sl} {c : List F} (hs : BSrc w b c) (h14 : 14 ≤ c.length) (hl : c.length ≤ 1000) :
    ∃ cs s w', ref11_Fits b w = some ((cs, s, fitB c, ()), w') ∧ Upd none_ w w' ∧ (if fitB c = true then cs = (shL (setN c) (bAt c 2) (bAt c 3) (bAt c 4)).toArray ∧ OwnS 5 w' s (fb (valsP c)) ∧ Fresh w.heap.size s else cs = (shL 0 0 0 0).toArray) := by
  have hbl : b.len = c.length := by rw [hs.len, fb_length]
  have h4 := bAt_lt c 4
  obtain ⟨w1, a1, a2, a3, a4⟩ := newB_ok z33 33 w
  have a2 : Bk 33 w1 w.heap.size (shL 0 0 0 0) := by rw [z84_eq] at a2; exact a2
  obtain ⟨g, w2, b1, b2, b3, b4⟩ := fits_s0 (hs.upd0 a3) (by omega)
  have u2 := a3.and0 b3
  have q1 := a3.size
  have q2 := b3.size
  have hb' : Bk 33 w2 g (shL (setN c) (bAt c 2) (bAt c 3) (bAt c 4) ++ []) := by rw [List.append_nil]; exact b2
  obtain ⟨l0, l1, l2, l3⟩ := sh_lds hb'
  have ea : ((⟨g, 0, none⟩ : Addr).add 3) = ⟨g, 3, none⟩ := by simp only [add_lit, Nat.zero_add]
  have e1 : IntKind.i64.wrap (((bAt c 4 : Nat) : Int) + 4) = ((bAt c 4 + 4 : Nat) : Int) := by rw [w64 (by omega) (by omega)]; omega
  have e2 : IntKind.i64.wrap (5 + ((bAt c 4 + 4 : Nat) : Int)) = ((5 + (bAt c 4 + 4) : Nat) : Int) := by rw [w64 (by omega) (by omega)]; omega
  have e5 : IntKind.i64.wrap (((5 + (bAt c 4 + 4) : Nat) : Int) + 4) = ((5 + (bAt c 4 + 4) + 4 : Nat) : Int) := by rw [w64 (by omega) (by omega)]; omega
  unfold ref11_Fits
  rw [a1, bnd_ok, if_neg (by simp only [decide_eq_true_eq]; omega), b1, bnd_ok]
  dsimp only
  rw [ea, l3, Option.bind_some, e1, e2, e5, fits_s1 (by omega), bnd_ok]
  dsimp only
  rw [fits_s2 (hs.upd0 u2) hl b2, bnd_ok]
  dsimp only
  by_cases hfit : fitB c = true
  · obtain ⟨f1, f2, f3, f4, f5, f6, f7⟩ := (fitB_iff c).1 hfit
    have hcap := hs.cap
    rw [hfit, if_neg (by decide)]
    unfold ref11_Fits_s3
    have c1 : (0 : Int) ≤ ((5 + (bAt c 4 + 4) : Nat) : Int) ∧ ((5 + (bAt c 4 + 4) : Nat) : Int) ≤ ((b.cap : Nat) : Int) := by omega
    have c3 : (0 : Int) ≤ 5 ∧ (5 : Int) ≤ (((Int.toNat ((5 + (bAt c 4 + 4) : Nat) : Int)) : Nat) : Int) := by rw [Int.toNat_natCast]; omega
    have d0 := b2.drew.ldA (i := 0) (n := 4) (by simp [shL])
    have d0 : ldA 4 ⟨g, 0, none⟩ w2.drew = some (shL (setN c) (bAt c 2) (bAt c 3) (bAt c 4)).toArray := d0
    have ud := (Upd.refl none_ w2).drew
    obtain ⟨w3, g1, g2, g3⟩ := bld0_ok sliceB w2.drew
    have d1 := (b2.drew.upd0 g3).ldA (i := 0) (n := 4) (by simp [shL])
    have d1 : ldA 4 ⟨g, 0, none⟩ w3 = some (shL (setN c) (bAt c 2) (bAt c 3) (bAt c 4)).toArray := d1
    have hs3 : BSrc w3 ⟨sla b.a 5 b.cap 1, 5 + (bAt c 4 + 4) - 5, b.cap - 5⟩ (valsP c) := by
      have h0 := hs.upd0 ((u2.and0 ud).and0 g3)
      have h1 := (src_subF h0 (lo := 5) (by rw [fb_length]; omega)).cut (n := 5 + (bAt c 4 + 4) - 5) (by show _ ≤ b.len - 5; omega)
      rw [fb_drop, fb_take] at h1
      unfold valsP
      rw [show 5 + (bAt c 4 + 4) - 5 = bAt c 4 + 4 by omega] at h1 ⊢
      exact h1
    obtain ⟨s4, w4, i1, i2, i3, i4, i5⟩ := apd_ok sliceB g2 hs3 (by show (0 + (5 + (bAt c 4 + 4) - 5)) * 1 ≤ _; omega)
    have i3 : OwnS 5 w4 s4 (fb (valsP c)) := i3
    have q3 : w2.heap.size ≤ w3.heap.size := g3.size
    have u24 : Upd none_ w2 w4 := (ud.and0 g3).trans' i4 fun j hj e => by have e2 : w2.heap.size = j := Option.some.inj e; omega
    have hf4 : ∀ k, s4.blk = some k → w2.heap.size ≤ k := fun k hk => by
      rcases i5 with e | e
      · rw [e] at hk; have e2 : w2.heap.size = k := Option.some.inj hk; omega
      · rw [e] at hk; have e2 : w3.heap.size = k := Option.some.inj hk; omega
    have d2 := (b2.upd0 u24).ldA (i := 0) (n := 4) (by simp [shL])
    have d2 : ldA 4 ⟨g, 0, none⟩ w4 = some (shL (setN c) (bAt c 2) (bAt c 3) (bAt c 4)).toArray := d2
    obtain ⟨w5, j1, j2, j3⟩ := ((a2.upd0 b3).upd0 u24).stA (o := 0) (vs := (shL (setN c) (bAt c 2) (bAt c 3) (bAt c 4)).toArray) (by simp [shL]) (fun v hv => shL_one _ _ _ _ v hv)
    have j2 : Bk 33 w5 w.heap.size (shL (setN c) (bAt c 2) (bAt c 3) (bAt c 4)) := j2
    have d3 := ((b2.upd0 u24).upd j3 (by omega)).ldA (i := 0) (n := 4) (by simp [shL])
    have d3 : ldA 4 ⟨g, 0, none⟩ w5 = some (shL (setN c) (bAt c 2) (bAt c 3) (bAt c 4)).toArray := d3
    have d4 := j2.ldA (i := 0) (n := 4) (by simp [shL])
    have d4 : ldA 4 ⟨w.heap.size, 0, none⟩ w5 = some (shL (setN c) (bAt c 2) (bAt c 3) (bAt c 4)).toArray := d4
    have hz : (shL (setN c) (bAt c 2) (bAt c 3) (bAt c 4)).toArray.size = 4 := rfl
    refine ⟨(shL (setN c) (bAt c 2) (bAt c 3) (bAt c 4)).toArray, s4, w5, ?_, (u2.and0 u24).trans' j3 fun k hk e => by omega, by rw [if_pos rfl]; exact ⟨rfl, i3.upd j3 fun k hk e => by have := hf4 k hk; omega, fun k hk => by have := hf4 k hk; omega⟩⟩
    rw [e2, if_pos c1, if_pos c3, d0, Option.bind_some, g1, bnd_ok, d1, Option.bind_some, sameK_selfF, Int.toNat_natCast]
    dsimp only
    rw [i1, bnd_ok, d2, Option.bind_some, sameK_selfF, if_pos hz, j1, Option.bind_some, d3, Option.bind_some, sameK_selfF, bnd_ok]
    dsimp only
    rw [d4, Option.bind_some]
  · have hff : fitB c = false := by simpa using hfit
    rw [hff, if_pos (by decide)]
    obtain ⟨w4, c1, c2, c3⟩ := (a2.upd0 b3).stA (o := 0) (vs := (shL 0 0 0 0).toArray) (by simp [shL]) (fun v hv => shL_one _ _ _ _ v hv)
    have c2 : Bk 33 w4 w.heap.size (shL 0 0 0 0) := c2
    have c4 := c2.ldA (i := 0) (n := 4) (by simp [shL])
    have c4 : ldA 4 ⟨w.heap.size, 0, none⟩ w4 = some (shL 0 0 0 0).toArray := c4
    exact ⟨_, nilF, w4, by rw [built84z, Option.bind_some, if_pos (by rfl), c1, Option.bind_some, c4, Option.bind_some], u2.trans' c3 fun k hk e => by omega, by rw [if_neg (by decide)]⟩

/-! ### A share's bytes -/

def b8 (n : Nat) : F := ⟨n % 256, Nat.mod_lt _ (by decide)⟩
def bytes5 (s need idx size : Nat) : List F := [b8 (s / 256), b8 s, b8 need, b8 idx, b8 size]
def padL (l : List F) : List F := if l.length % 2 = 1 then l ++ [0] else l
def lineL (s need idx size : Nat) (vals : List F) : List F := codedP (padL (bytes5 s need idx size ++ vals))

theorem b8_i64 {n : Nat} : IntKind.u8.wrap (n : Int) = bF (b8 n) := by rw [IntKind.wrap_u8]; rfl

theorem pad_len (l : List F) : (padL l).length ≤ l.length + 1 := by unfold padL; split <;> simp

theorem bytes_tail {K : Nat} (hK : 18446744073709551616 ≤ K) {w w0 : World} {sv : Sl} {vals : List F} {s need idx size : Nat} (hs : s < 65536) (hv : BSrc w sv vals) (hvl : vals.length ≤ 1000000) :
    ∃ w1 s2 w2, bldS prog 25 5 #[(0, (.int .u8 (bF (b8 (s / 256))))), (1, (.int .u8 (bF (b8 s)))), (2, (.int .u8 (bF (b8 need)))), (3, (.int .u8 (bF (b8 idx)))), (4, (.int .u8 (bF (b8 size))))] w = some (⟨some ⟨w.heap.size, 0, none⟩, 5, 5⟩, w1) ∧
      apd prog 25 25 (.slice (some ⟨w.heap.size, 0, none⟩) 5 5) (.slice sv.a sv.len sv.cap) w1 = some (s2, w2) ∧ OwnS 5 w2 s2 (fb (bytes5 s need idx size ++ vals)) ∧ Upd none_ w w2 ∧ Fresh w.heap.size s2 ∧ s2.len = 5 + vals.length := by
  obtain ⟨w1, a1, a2, a3, a4⟩ := bldS_ok sliceB (fb (bytes5 s need idx size)) (fun v hv => by obtain ⟨x, _, rfl⟩ := List.mem_map.1 hv; rfl) (by rw [fb_length]; simp [bytes5]) (by rw [fb_length]; simp [bytes5]) w
  have a1 : bldS prog 25 5 #[(0, (.int .u8 (bF (b8 (s / 256))))), (1, (.int .u8 (bF (b8 s)))), (2, (.int .u8 (bF (b8 need)))), (3, (.int .u8 (bF (b8 idx)))), (4, (.int .u8 (bF (b8 size))))] w = some (⟨some ⟨w.heap.size, 0, none⟩, 5, 5⟩, w1) := a1
  have a2 : OwnS 5 w1 ⟨some ⟨w.heap.size, 0, none⟩, 5, 5⟩ (fb (bytes5 s need idx size)) := a2
  have hsl : sv.len = vals.length := by rw [hv.len, fb_length]
  obtain ⟨s2, w2, b1, b2, b3, b4, b5⟩ := apd_ok sliceB a2 (hv.upd0 a3) (by show (5 + sv.len) * 1 ≤ _; omega)
  rw [← fb_append] at b3
  have q1 := a3.size
  refine ⟨w1, s2, w2, a1, b1, b3, a3.trans' b4 fun j hj e => by have e2 : w.heap.size = j := Option.some.inj e; omega, fun k hk => ?_, by rw [b2, hsl]⟩
  rcases b5 with e | e
  · rw [e] at hk; have e2 : w.heap.size = k := Option.some.inj hk; omega
  · rw [e] at hk; have e2 : w1.heap.size = k := Option.some.inj hk; omega

theorem shareBytes_ok {K : Nat} (hK : 18446744073709551616 ≤ K) {w : World} {sv : Sl} {vals : List F} {s need idx size : Nat} (hs : s < 65536) (hv : BSrc w sv vals) (hvl : vals.length ≤ 1000000) :
    ∃ s' w', escrow_share_bytes K (shL s need idx size ++ [slF sv]).toArray w = some ((s', ()), w') ∧ OwnS 5 w' s' (fb (lineL s need idx size vals)) ∧ Upd none_ w w' ∧ Fresh w.heap.size s' := by
  obtain ⟨w1, a1, a2, a3, a4⟩ := newB_ok (shL s need idx size ++ [slF sv]).toArray 55 w
  have a2 : Bk 55 w1 w.heap.size (shL s need idx size ++ [slF sv]) := a2
  obtain ⟨l0, l1, l2, l3⟩ := sh_lds a2
  have q1 := a3.size
  obtain ⟨w2, s3, w3, b1, b2, b3, b4, b5, b6⟩ := bytes_tail hK (w0 := w) (s := s) (need := need) (idx := idx) (size := size) hs (hv.upd0 a3) hvl
  have e1 : IntKind.u8.wrap (Int.fdiv (s : Int) (2 ^ 8)) = bF (b8 (s / 256)) := by
    have : Int.fdiv (s : Int) (2 ^ 8) = ((s / 256 : Nat) : Int) := fdiv_pow s 8
    rw [this, b8_i64]
  have u12 : Upd none_ w1 w2 := by
    obtain ⟨w2', x1, x2, x3, x4⟩ := bldS_ok sliceB (fb (bytes5 s need idx size)) (fun v hv => by obtain ⟨x, _, rfl⟩ := List.mem_map.1 hv; rfl) (by rw [fb_length]; simp [bytes5]) (by rw [fb_length]; simp [bytes5]) w1
    have x1 : bldS prog 25 5 #[(0, (.int .u8 (bF (b8 (s / 256))))), (1, (.int .u8 (bF (b8 s)))), (2, (.int .u8 (bF (b8 need)))), (3, (.int .u8 (bF (b8 idx)))), (4, (.int .u8 (bF (b8 size))))] w1 = some (_, w2') := x1
    rw [b1] at x1
    obtain ⟨_, rfl⟩ := Prod.mk.inj (Option.some.inj x1)
    exact x3
  have l4 := (a2.upd0 u12).ldS (i := 4) (a := sv.a) (l := sv.len) (c := sv.cap) rfl
  have u3 := a3.and0 b4
  have hsum : (bytes5 s need idx size ++ vals).length = 5 + vals.length := by rw [List.length_append]; rfl
  have hm : Int.tmod ((s3.len : Nat) : Int) 2 = (((5 + vals.length) % 2 : Nat) : Int) := by rw [b6]; rfl
  unfold escrow_share_bytes
  rw [a1, bnd_ok]
  simp only [add_lit, Nat.zero_add, l0, l1, l2, l3, Option.bind_some, e1, b8_i64]
  rw [b1, bnd_ok, l4, Option.bind_some]
  dsimp only
  rw [b2, bnd_ok, hm]
  by_cases hp : (5 + vals.length) % 2 = 1
  · have hpl : padL (bytes5 s need idx size ++ vals) = bytes5 s need idx size ++ vals ++ [0] := by unfold padL; rw [hsum, if_pos hp]
    obtain ⟨w4, s5, w5, c1, c2, c3, c4, c5⟩ := push_fb b3 (by rw [hsum]; omega) 0
    have c1 : bldS prog 25 1 #[(0, (.int .u8 0))] w3 = some (⟨some ⟨w3.heap.size, 0, none⟩, 1, 1⟩, w4) := c1
    have q3 := u3.size
    obtain ⟨s6, w6, d1, d2, d3, d4⟩ := coded_ok hK (c3.src (fb_one _)) (by rw [List.length_append, hsum]; show 5 + vals.length + 1 ≤ _; omega)
    have q5 := c4.size
    refine ⟨s6, w6, ?_, by unfold lineL; rw [hpl]; exact d2, (u3.trans' c4 fun k hk e => by have := b5 k e; omega).and0 d3, fun k hk => by have := d4 k hk; omega⟩
    rw [if_pos (by rw [hp]; rfl), c1, bnd_ok]
    dsimp only
    rw [c2, bnd_ok, d1, bnd_ok]
  · have hpl : padL (bytes5 s need idx size ++ vals) = bytes5 s need idx size ++ vals := by unfold padL; rw [hsum, if_neg hp]
    obtain ⟨s6, w6, d1, d2, d3, d4⟩ := coded_ok hK (b3.src (fb_one _)) (by rw [hsum]; omega)
    have q3 := u3.size
    refine ⟨s6, w6, ?_, by unfold lineL; rw [hpl]; exact d2, u3.and0 d3, fun k hk => by have := d4 k hk; omega⟩
    rw [if_neg (by rw [beq_iff_eq]; omega), d1, bnd_ok]

theorem rBytes_ok {K : Nat} (hK : 18446744073709551616 ≤ K) {w : World} {sv : Sl} {vals : List F} {s need idx size : Nat} (hs : s < 65536) (hv : BSrc w sv vals) (hvl : vals.length ≤ 1000000) :
    ∃ s' w', ref11_Bytes K (shL s need idx size).toArray sv w = some ((s', ()), w') ∧ OwnS 5 w' s' (fb (lineL s need idx size vals)) ∧ Upd none_ w w' ∧ Fresh w.heap.size s' := by
  obtain ⟨w1, a1, a2, a3, a4⟩ := newB_ok (shL s need idx size).toArray 33 w
  have a2 : Bk 33 w1 w.heap.size (shL s need idx size ++ []) := by rw [List.append_nil]; exact a2
  obtain ⟨l0, l1, l2, l3⟩ := sh_lds a2
  have q1 := a3.size
  obtain ⟨w2, s3, w3, b1, b2, b3, b4, b5, b6⟩ := bytes_tail hK (w0 := w) (s := s) (need := need) (idx := idx) (size := size) hs (hv.upd0 a3) hvl
  have e1 : IntKind.u8.wrap (IntKind.u16.wrap (Int.tdiv (s : Int) 256)) = bF (b8 (s / 256)) := by
    have : Int.tdiv (s : Int) 256 = ((s / 256 : Nat) : Int) := rfl
    have e : IntKind.u16.wrap ((s / 256 : Nat) : Int) = ((s / 256 : Nat) : Int) := by rw [wrap_u16F]; omega
    rw [this, e, b8_i64]
  have e1' : IntKind.u8.wrap (Int.tmod (s : Int) 256) = bF (b8 s) := by
    have : Int.tmod (s : Int) 256 = ((s % 256 : Nat) : Int) := rfl
    rw [this, b8_i64]
    unfold b8 bF
    simp
  have u3 := a3.and0 b4
  have hsum : (bytes5 s need idx size ++ vals).length = 5 + vals.length := by rw [List.length_append]; rfl
  have hm : Int.tmod ((s3.len : Nat) : Int) 2 = (((5 + vals.length) % 2 : Nat) : Int) := by rw [b6]; rfl
  unfold ref11_Bytes
  rw [a1, bnd_ok]
  simp only [add_lit, Nat.zero_add, l0, l1, l2, l3, Option.bind_some, e1, e1', b8_i64]
  rw [b1, bnd_ok]
  dsimp only
  rw [b2, bnd_ok, hm]
  by_cases hp : (5 + vals.length) % 2 = 1
  · have hpl : padL (bytes5 s need idx size ++ vals) = bytes5 s need idx size ++ vals ++ [0] := by unfold padL; rw [hsum, if_pos hp]
    obtain ⟨w4, s5, w5, c1, c2, c3, c4, c5⟩ := push_fb b3 (by rw [hsum]; omega) 0
    have c1 : bldS prog 25 1 #[(0, (.int .u8 0))] w3 = some (⟨some ⟨w3.heap.size, 0, none⟩, 1, 1⟩, w4) := c1
    have q3 := u3.size
    obtain ⟨s6, w6, d1, d2, d3, d4⟩ := rCoded_ok hK (c3.src (fb_one _)) (by rw [List.length_append, hsum]; show 5 + vals.length + 1 ≤ _; omega)
    have q5 := c4.size
    refine ⟨s6, w6, ?_, by unfold lineL; rw [hpl]; exact d2, (u3.trans' c4 fun k hk e => by have := b5 k e; omega).and0 d3, fun k hk => by have := d4 k hk; omega⟩
    rw [if_pos (by rw [hp]; rfl), c1, bnd_ok]
    dsimp only
    rw [c2, bnd_ok, d1, bnd_ok]
  · have hpl : padL (bytes5 s need idx size ++ vals) = bytes5 s need idx size ++ vals := by unfold padL; rw [hsum, if_neg hp]
    obtain ⟨s6, w6, d1, d2, d3, d4⟩ := rCoded_ok hK (b3.src (fb_one _)) (by rw [hsum]; omega)
    have q3 := u3.size
    refine ⟨s6, w6, ?_, by unfold lineL; rw [hpl]; exact d2, u3.and0 d3, fun k hk => by have := d4 k hk; omega⟩
    rw [if_neg (by rw [beq_iff_eq]; omega), d1, bnd_ok]

end Go.Sh

/- A line that is mended: the program. -/
set_option linter.unusedVariables false
set_option maxRecDepth 100000
namespace Go.Sh
open Go.Fw Go.Gf Go.RowKit Go.Proofs.Try

/-- what a line is mended to: an error, or the row and in how many bytes it differed -/
def mendR (T : List Nat) : Int × Option (List F × Nat) :=
  if 1024 < T.length then (4, none) else
  match rdP T [] [] with
  | none => (112, none)
  | some l => if l.length < 14 ∨ 78 < l.length then (113, none) else
    match Gf.repP l with
    | none => (113, none)
    | some r => if fitB r.1 = true then (0, some r) else (113, none)

theorem mendR_some {T : List Nat} {c : List F} {n : Nat} (h : (mendR T).2 = some (c, n)) : (mendR T).1 = 0 ∧ fitB c = true ∧ 14 ≤ c.length ∧ c.length ≤ 78 := by
  unfold mendR at h ⊢
  split at h
  · cases h
  · rename_i h1
    rw [if_neg h1]
    split at h
    · cases h
    · rename_i l hl
      split at h
      · cases h
      · rename_i h2
        split at h
        · cases h
        · rename_i r hr
          split at h
          · rename_i h3
            obtain rfl := Option.some.inj h
            have := (repP_spec (b := l) (by omega)).2 _ hr
            have hlen := this.1
            dsimp only at h3 hlen ⊢
            rw [if_neg h2, if_pos h3]
            exact ⟨rfl, h3, by omega, by omega⟩
          · cases h
theorem mendR_none {T : List Nat} (h : (mendR T).2 = none) : (mendR T).1 ≠ 0 := by
  unfold mendR at h ⊢
  split
  · decide
  · rename_i h1
    rw [if_neg h1] at h
    split
    · decide
    · rename_i l hl
      rw [hl] at h
      dsimp only at h
      split
      · decide
      · rename_i h2
        rw [if_neg h2] at h
        split
        · decide
        · rename_i r hr
          rw [hr] at h
          dsimp only at h
          split
          · rename_i h3; rw [if_pos h3] at h; cases h
          · decide

def shareC (c : List F) (sv : Sl) : List Value := shL (setN c) (bAt c 2) (bAt c 3) (bAt c 4) ++ [slF sv]
def share0 : List Value := shL 0 0 0 0 ++ [slF nilF]

theorem mended_ok {K : Nat} (hK : 18446744073709551616 ≤ K) (w : World) {t : ByteArray} {T : List Nat} (hT : IsText t T) (hTb : ∀ c ∈ T, c < 256) :
    ∃ cs n w', escrow_mended K t w = some ((cs, n, (mendR T).1, ()), w') ∧ Upd none_ w w' ∧ (match (mendR T).2 with | some r => n = ((r.2 : Nat) : Int) ∧ ∃ sv, cs = (shareC r.1 sv).toArray ∧ BSrc w' sv (valsP r.1) ∧ Fresh w.heap.size sv | none => n = 0 ∧ cs = share0.toArray) := by
  have hsz := hT.1
  obtain ⟨w1, a1, a2, a3, a4⟩ := newB_ok z55 55 w
  have a2 : Bk 55 w1 w.heap.size share0 := by rw [z102_eq] at a2; exact a2
  have q1 := a3.size
  have zero : ∀ (w3 : World) (e : Int), Upd none_ w1 w3 → ∃ w4, ((prog.built 55 []).bind fun cs_3 =>
  if (cs_3).size = 5 then ((stA ⟨w.heap.size, 0, none⟩ cs_3 w3).bind fun w_4 =>
  (ldA 5 ⟨w.heap.size, 0, none⟩ w_4).bind fun res_5 =>
  some (((res_5, 0, e, ()), w_4) : (Array Value × Int × Int × Unit) × World)) else none) = some ((share0.toArray, 0, e, ()), w4) ∧ Upd none_ w w4 := fun w3 e u3 => by
    obtain ⟨w4, c1, c2, c3⟩ := (a2.upd0 u3).stA (o := 0) (vs := share0.toArray) (by simp [share0, shL]) (fun v hv => shS_one _ _ _ _ _ v hv)
    have c2 : Bk 55 w4 w.heap.size share0 := c2
    have c4 := c2.ldA (i := 0) (n := 5) (by simp [share0, shL])
    have c4 : ldA 5 ⟨w.heap.size, 0, none⟩ w4 = some share0.toArray := c4
    have hb : prog.built 55 [] = some share0.toArray := built102z
    exact ⟨w4, by rw [hb, Option.bind_some, if_pos (by rfl), c1, Option.bind_some, c4, Option.bind_some], (a3.and0 u3).trans' c3 fun k hk e => by omega⟩
  unfold escrow_mended mendR
  rw [a1, bnd_ok]
  by_cases h1 : 1024 < T.length
  · rw [if_pos (decide_eq_true (show ((t.size : Nat) : Int) > 1024 by omega)), if_pos h1]
    obtain ⟨w4, z1, z2⟩ := zero w1 4 (Upd.refl _ _)
    exact ⟨_, _, w4, z1, z2, rfl, rfl⟩
  · rw [if_neg (by simp only [decide_eq_true_eq]; omega), if_neg h1]
    obtain ⟨s, v, w2, b1, b2, b3⟩ := unworded_ok hK w1 hT hTb (by omega)
    rw [b1, bnd_ok]
    dsimp only
    cases hr : rdP T [] [] with
    | none =>
      rw [hr] at b3
      have b3 : v = false := b3
      rw [b3, if_pos (by decide)]
      obtain ⟨w4, z1, z2⟩ := zero w2 112 b2
      exact ⟨_, _, w4, z1, z2, rfl, rfl⟩
    | some l =>
      rw [hr] at b3
      obtain ⟨rfl, o2, f2, l2⟩ := b3
      have hsl : s.len = l.length := by rw [o2.len, fb_length]
      dsimp only
      rw [if_neg (by decide)]
      have hs0 : escrow_mended_s0 K s w2 = some ((decide (l.length < 14 ∨ 78 < l.length), ()), w2) := by
        unfold escrow_mended_s0
        rw [hsl]
        by_cases h14 : l.length < 14
        · rw [if_pos (decide_eq_true (show ((l.length : Nat) : Int) < 14 by omega)), decide_eq_true (Or.inl h14)]
        · rw [if_neg (by simp only [decide_eq_true_eq]; omega)]
          have : decide (((l.length : Nat) : Int) > 78) = decide (l.length < 14 ∨ 78 < l.length) := by rw [decide_eq_decide]; omega
          rw [this]
      rw [hs0, bnd_ok]
      dsimp only
      by_cases h2 : l.length < 14 ∨ 78 < l.length
      · rw [if_pos (decide_eq_true h2), if_pos h2]
        obtain ⟨w4, z1, z2⟩ := zero w2 113 b2
        exact ⟨_, _, w4, z1, z2, rfl, rfl⟩
      · rw [if_neg (fun h => h2 (of_decide_eq_true h)), if_neg h2]
        obtain ⟨s3, n3, v3, w3, c1, c2, c3⟩ := repaired_ok hK (o2.src (fb_one _)) (by omega)
        rw [c1, bnd_ok]
        dsimp only
        have u3 := b2.and0 c2
        have q2 := b2.size
        cases hp : Gf.repP l with
        | none =>
          rw [hp] at c3
          have c3 : v3 = false := c3
          rw [c3, if_pos (by decide)]
          obtain ⟨w4, z1, z2⟩ := zero w3 113 u3
          exact ⟨_, _, w4, z1, z2, rfl, rfl⟩
        | some r =>
          rw [hp] at c3
          obtain ⟨rfl, hn3, o3, f3⟩ := c3
          have hlen := ((repP_spec (b := l) (by omega)).2 _ hp).1
          dsimp only at hlen ⊢
          rw [if_neg (by decide)]
          obtain ⟨cs, w4, d1, d2, d3⟩ := read_ok o3 (by omega) (by omega)
          rw [d1, bnd_ok]
          dsimp only
          have u4 := u3.and0 d2
          obtain ⟨w5, e1, e2, e3, e4⟩ := newB_ok z55 55 w4
          have e2 : Bk 55 w5 w4.heap.size share0 := by rw [z102_eq] at e2; exact e2
          rw [e1, bnd_ok]
          have q4 := u4.size
          by_cases hf : fitB r.1 = true
          · rw [if_pos hf] at d3 ⊢
            obtain ⟨sv, hcs, dv, df⟩ := d3
            have hcs : cs = (shareC r.1 sv).toArray := hcs
            rw [hcs, hf]
            obtain ⟨w6, g1, g2, g3⟩ := e2.stA (o := 0) (vs := (shareC r.1 sv).toArray) (by simp [share0, shareC, shL]) (fun v hv => shS_one _ _ _ _ _ v hv)
            have g2 : Bk 55 w6 w4.heap.size (shareC r.1 sv) := g2
            have g4 := g2.ldA (i := 0) (n := 5) (by simp [shareC, shL])
            have g4 : ldA 5 ⟨w4.heap.size, 0, none⟩ w6 = some (shareC r.1 sv).toArray := g4
            have u46 : Upd none_ w4 w6 := e3.trans' g3 fun k hk e => by omega
            obtain ⟨w7, i1, i2, i3⟩ := ((a2.upd0 u4).upd0 u46).stA (o := 0) (vs := (shareC r.1 sv).toArray) (by simp [share0, shareC, shL]) (fun v hv => shS_one _ _ _ _ _ v hv)
            have i2 : Bk 55 w7 w.heap.size (shareC r.1 sv) := i2
            have i4 := i2.ldA (i := 0) (n := 5) (by simp [shareC, shL])
            have i4 : ldA 5 ⟨w.heap.size, 0, none⟩ w7 = some (shareC r.1 sv).toArray := i4
            have hz : (shareC r.1 sv).toArray.size = 5 := rfl
            have hb3 : ∀ q, s3.a = some q → w1.heap.size ≤ q.block := fun q hq => by
              rcases f3 with e | e
              · rw [e] at hq; exact f2 q.block (by simp [Sl.blk, hq])
              · have := e q.block (by simp [Sl.blk, hq]); omega
            have hfv : Fresh w1.heap.size sv := fun k hk => by
              cases ha : sv.a with
              | none => rw [Sl.blk, ha] at hk; cases hk
              | some q =>
                rw [Sl.blk, ha] at hk
                have hk : q.block = k := Option.some.inj hk
                obtain ⟨p, p1, p2⟩ := df q ha
                have := hb3 p p1
                omega
            refine ⟨_, _, w7, ?_, ((a3.and0 u4).and0 u46).trans' i3 fun k hk e => by omega, hn3, sv, rfl, ?_, fun k hk => by have := hfv k hk; omega⟩
            · rw [if_pos hz, g1, Option.bind_some, if_neg (by decide), g4, Option.bind_some, if_pos hz, i1, Option.bind_some, i4, Option.bind_some]
            · exact src_updF (dv.upd0 u46) i3 fun q hq _ => by have := hfv q.block (by simp [Sl.blk, hq]); omega
          · rw [if_neg hf] at d3 ⊢
            have hff : fitB r.1 = false := by simpa using hf
            have d3 : cs = share0.toArray := d3
            rw [d3, hff]
            obtain ⟨w6, g1, g2, g3⟩ := e2.stA (o := 0) (vs := share0.toArray) (by simp [share0, shL]) (fun v hv => shS_one _ _ _ _ _ v hv)
            have u46 : Upd none_ w4 w6 := e3.trans' g3 fun k hk e => by omega
            have hz : share0.toArray.size = 5 := rfl
            obtain ⟨w7, z1, z2⟩ := zero w6 113 (u4.and0 u46)
            refine ⟨_, _, w7, ?_, z2, rfl, rfl⟩
            rw [if_pos hz, g1, Option.bind_some, if_pos (by decide)]
            exact z1

/-- a share's line -/
def lineT (c : List F) (idx : Nat) (vals : List F) : ByteArray := textOf (lineL (setN c) (bAt c 2) idx (bAt c 4) vals)

theorem setN_lt (c : List F) : setN c < 65536 := by have := bAt_lt c 0; have := bAt_lt c 1; unfold setN; omega

theorem line_len (s n i z : Nat) (vals : List F) : (lineL s n i z vals).length ≤ vals.length + 10 := by
  unfold lineL
  rw [Gf.codedP_length]
  have := pad_len (bytes5 s n i z ++ vals)
  rw [List.length_append] at this
  have h5 : (bytes5 s n i z).length = 5 := rfl
  omega

theorem text_ok {K : Nat} (hK : 18446744073709551616 ≤ K) {w : World} {sv : Sl} {vals : List F} {s n i z : Nat} (hs : s < 65536) (hv : BSrc w sv vals) (hvl : vals.length ≤ 1000000) :
    ∃ w', escrow_share_text K (shL s n i z ++ [slF sv]).toArray w = some ((textOf (lineL s n i z vals), ()), w') ∧ Upd none_ w w' := by
  obtain ⟨w1, a1, a2, a3, a4⟩ := newB_ok (shL s n i z ++ [slF sv]).toArray 55 w
  have a2 : Bk 55 w1 w.heap.size (shL s n i z ++ [slF sv]) := a2
  have a5 := a2.ldA (i := 0) (n := 5) (by simp [shL])
  have a5 : ldA 5 ⟨w.heap.size, 0, none⟩ w1 = some (shL s n i z ++ [slF sv]).toArray := a5
  obtain ⟨s2, w2, b1, b2, b3, b4⟩ := shareBytes_ok hK (s := s) (need := n) (idx := i) (size := z) hs (hv.upd0 a3) hvl
  have hl := line_len s n i z vals
  obtain ⟨w3, c1, c2⟩ := Words_ok hK (b2.src (fb_one _)) (by omega) (own_lt b2)
  refine ⟨w3, ?_, (a3.and0 b3).and0 c2⟩
  unfold escrow_share_text
  rw [a1, bnd_ok, a5, Option.bind_some, b1, bnd_ok, c1, bnd_ok]

def mText : Option (List F × Nat) → ByteArray
  | some r => lineT r.1 (bAt r.1 3) (valsP r.1)
  | none => str0
def mNum : Option (List F × Nat) → Int
  | some r => ((r.2 : Nat) : Int)
  | none => 0
def mShare : Option (List F × Nat) → Array Value
  | some r => (shL (setN r.1) (bAt r.1 2) (bAt r.1 3) (bAt r.1 4)).toArray
  | none => (shL 0 0 0 0).toArray

theorem Mend_ok {K : Nat} (hK : 18446744073709551616 ≤ K) (w : World) {t : ByteArray} {T : List Nat} (hT : IsText t T) (hTb : ∀ c ∈ T, c < 256) :
    ∃ w', escrow_Mend K t w = some ((mText (mendR T).2, mNum (mendR T).2, (mendR T).1, ()), w') ∧ Upd none_ w w' := by
  obtain ⟨cs, n, w1, a1, a2, a3⟩ := mended_ok hK w hT hTb
  obtain ⟨w2, b1, b2, b3, b4⟩ := newB_ok z55 55 w1
  have b2 : Bk 55 w2 w1.heap.size share0 := by rw [z102_eq] at b2; exact b2
  unfold escrow_Mend
  rw [a1, bnd_ok, b1, bnd_ok]
  dsimp only
  cases hr : (mendR T).2 with
  | none =>
    rw [hr] at a3
    obtain ⟨h1, h2⟩ := a3
    rw [h2]
    have hz : share0.toArray.size = 5 := rfl
    obtain ⟨w3, c1, c2, c3⟩ := b2.stA (o := 0) (vs := share0.toArray) (by simp [share0, shL]) (fun v hv => shS_one _ _ _ _ _ v hv)
    have hne := mendR_none hr
    refine ⟨w3, ?_, (a2.and0 b3).trans' c3 fun k hk e => by have := a2.size; omega⟩
    show _ = some ((str0, 0, (mendR T).1, ()), w3)
    rw [if_pos hz, c1, Option.bind_some, if_pos (by simpa using hne)]
  | some r =>
    rw [hr] at a3
    obtain ⟨h1, sv, h2, h3, h4⟩ := a3
    obtain ⟨he, hf, hl1, hl2⟩ := mendR_some (c := r.1) (n := r.2) hr
    have hvl := vals_len hf
    have h4b := bAt_lt r.1 4
    rw [h2, he]
    have hz : (shareC r.1 sv).toArray.size = 5 := rfl
    obtain ⟨w3, c1, c2, c3⟩ := b2.stA (o := 0) (vs := (shareC r.1 sv).toArray) (by simp [share0, shareC, shL]) (fun v hv => shS_one _ _ _ _ _ v hv)
    have c2 : Bk 55 w3 w1.heap.size (shareC r.1 sv) := c2
    have c4 := c2.ldA (i := 0) (n := 5) (by simp [shareC, shL])
    have c4 : ldA 5 ⟨w1.heap.size, 0, none⟩ w3 = some (shareC r.1 sv).toArray := c4
    have hlt := src_ltF h3
    have u3 : Upd none_ w1 w3 := b3.trans' c3 fun k hk e => by omega
    obtain ⟨w4, d1, d2⟩ := text_ok hK (s := setN r.1) (n := bAt r.1 2) (i := bAt r.1 3) (z := bAt r.1 4) (setN_lt r.1) (h3.upd0 u3) (by omega)
    have d1 : escrow_share_text K (shareC r.1 sv).toArray w3 = _ := d1
    refine ⟨w4, ?_, (a2.and0 u3).and0 d2⟩
    show _ = some ((lineT r.1 (bAt r.1 3) (valsP r.1), ((r.2 : Nat) : Int), 0, ()), w4)
    rw [if_pos hz, c1, Option.bind_some, if_neg (by decide), c4, Option.bind_some, d1, bnd_ok, h1]; rfl

theorem Tell_ok {K : Nat} (hK : 18446744073709551616 ≤ K) (w : World) {t : ByteArray} {T : List Nat} (hT : IsText t T) (hTb : ∀ c ∈ T, c < 256) :
    ∃ w', escrow_Tell K t w = some ((mShare (mendR T).2, (mendR T).1, ()), w') ∧ Upd none_ w w' := by
  obtain ⟨w0, z1, z2, z3, z4⟩ := newB_ok z33 33 w
  have z2 : Bk 33 w0 w.heap.size (shL 0 0 0 0) := by rw [z84_eq] at z2; exact z2
  obtain ⟨cs, n, w1, a1, a2, a3⟩ := mended_ok hK w0 hT hTb
  obtain ⟨w2, b1, b2, b3, b4⟩ := newB_ok z55 55 w1
  have b2 : Bk 55 w2 w1.heap.size share0 := by rw [z102_eq] at b2; exact b2
  have q0 := z3.size
  have q1 := a2.size
  unfold escrow_Tell
  rw [z1, bnd_ok, a1, bnd_ok, b1, bnd_ok]
  dsimp only
  have fin : ∀ (s n i z : Nat) (sv : Sl), ∃ w', (if ((shL s n i z ++ [slF sv]).toArray).size = 5 then ((stA ⟨w1.heap.size, 0, none⟩ (shL s n i z ++ [slF sv]).toArray w2).bind fun w_7 =>
  (ldA 4 ((⟨w1.heap.size, 0, none⟩ : Addr).add 0) w_7).bind fun v_8 =>
  if (v_8).size = 4 then ((stA ⟨w.heap.size, 0, none⟩ v_8 w_7).bind fun w_9 =>
  (ldA 4 ⟨w.heap.size, 0, none⟩ w_9).bind fun res_10 =>
  some (((res_10, (mendR T).1, ()), w_9) : (Array Value × Int × Unit) × World)) else none) else none) = some (((shL s n i z).toArray, (mendR T).1, ()), w') ∧ Upd none_ w w' := fun s n i z sv => by
    have hz : (shL s n i z ++ [slF sv]).toArray.size = 5 := rfl
    obtain ⟨w3, c1, c2, c3⟩ := b2.stA (o := 0) (vs := (shL s n i z ++ [slF sv]).toArray) (by simp [share0, shL]) (fun v hv => shS_one _ _ _ _ _ v hv)
    have c2 : Bk 55 w3 w1.heap.size (shL s n i z ++ [slF sv]) := c2
    have c4 := c2.ldA (i := 0) (n := 4) (by simp [shL])
    have c4 : ldA 4 ((⟨w1.heap.size, 0, none⟩ : Addr).add 0) w3 = some (shL s n i z).toArray := c4
    have u13 : Upd none_ w1 w3 := b3.trans' c3 fun k hk e => by omega
    obtain ⟨w4, d1, d2, d3⟩ := ((z2.upd0 a2).upd0 u13).stA (o := 0) (vs := (shL s n i z).toArray) (by simp [shL]) (fun v hv => shL_one _ _ _ _ v hv)
    have d2 : Bk 33 w4 w.heap.size (shL s n i z) := d2
    have d4 := d2.ldA (i := 0) (n := 4) (by simp [shL])
    have d4 : ldA 4 ⟨w.heap.size, 0, none⟩ w4 = some (shL s n i z).toArray := d4
    have hz4 : (shL s n i z).toArray.size = 4 := rfl
    exact ⟨w4, by rw [if_pos hz, c1, Option.bind_some, c4, Option.bind_some, if_pos hz4, d1, Option.bind_some, d4, Option.bind_some], ((z3.and0 a2).and0 u13).trans' d3 fun k hk e => by omega⟩
  cases hr : (mendR T).2 with
  | none =>
    rw [hr] at a3
    obtain ⟨h1, h2⟩ := a3
    rw [h2]
    exact fin 0 0 0 0 nilF
  | some r =>
    rw [hr] at a3
    obtain ⟨h1, sv, h2, h3, h4⟩ := a3
    rw [h2]
    exact fin _ _ _ _ sv

end Go.Sh

/- A line that is mended: the document. -/
set_option linter.unusedVariables false
set_option maxRecDepth 100000
namespace Go.Sh
open Go.Fw Go.Gf Go.RowKit Go.Proofs.Try

/-- a Part's cells -/
def partC (s n i z : Nat) (sv : Sl) (wr : Nat) : List Value := shL s n i z ++ [slF sv, .int .i64 (wr : Int)]
def part0 : List Value := partC 0 0 0 0 nilF 0
theorem built105z : prog.built 35 [] = some part0.toArray := by kernel_rfl
theorem z105_eq : z35 = part0.toArray := by kernel_rfl
theorem built105 (a b c d : Int) (sv : Sl) (n : Int) : prog.built 35 [(0, (.agg #[.int .u16 a, .int .i64 b, .int .i64 c, .int .i64 d])), (1, (.slice sv.a sv.len sv.cap)), (2, (.int .i64 n))] = some #[.int .u16 a, .int .i64 b, .int .i64 c, .int .i64 d, .slice sv.a sv.len sv.cap, .int .i64 n] := by kernel_rfl
theorem part_one (s n i z : Nat) (sv : Sl) (wr : Nat) : ∀ v ∈ partC s n i z sv wr, v.oneCell' = true := fun v hv => by
  rcases List.mem_append.1 hv with h | h
  · exact shL_one s n i z v h
  · simp only [List.mem_cons, List.not_mem_nil, or_false] at h
    rcases h with rfl | rfl <;> rfl

theorem rMend_ok {K : Nat} (hK : 18446744073709551616 ≤ K) (w : World) {t : ByteArray} {T : List Nat} (hT : IsText t T) (hTb : ∀ c ∈ T, c < 256) :
    ∃ cs w', ref11_Mend K t w = some ((cs, (mendR T).1, ()), w') ∧ Upd none_ w w' ∧ (match (mendR T).2 with | some r => ∃ sv, cs = (partC (setN r.1) (bAt r.1 2) (bAt r.1 3) (bAt r.1 4) sv r.2).toArray ∧ OwnS 5 w' sv (fb (valsP r.1)) ∧ Fresh w.heap.size sv | none => cs = part0.toArray) := by
  have hsz := hT.1
  obtain ⟨w1, a1, a2, a3, a4⟩ := newB_ok z35 35 w
  have a2 : Bk 35 w1 w.heap.size part0 := by rw [z105_eq] at a2; exact a2
  have q1 := a3.size
  have zero : ∀ (w3 : World) (e : Int), Upd none_ w1 w3 → ∃ w4, ((prog.built 35 []).bind fun cs_3 =>
  if (cs_3).size = 6 then ((stA ⟨w.heap.size, 0, none⟩ cs_3 w3).bind fun w_4 =>
  (ldA 6 ⟨w.heap.size, 0, none⟩ w_4).bind fun res_5 =>
  some (((res_5, e, ()), w_4) : (Array Value × Int × Unit) × World)) else none) = some ((part0.toArray, e, ()), w4) ∧ Upd none_ w w4 := fun w3 e u3 => by
    obtain ⟨w4, c1, c2, c3⟩ := (a2.upd0 u3).stA (o := 0) (vs := part0.toArray) (by simp [part0, partC, shL]) (fun v hv => part_one _ _ _ _ _ _ v hv)
    have c2 : Bk 35 w4 w.heap.size part0 := c2
    have c4 := c2.ldA (i := 0) (n := 6) (by simp [part0, partC, shL])
    have c4 : ldA 6 ⟨w.heap.size, 0, none⟩ w4 = some part0.toArray := c4
    exact ⟨w4, by rw [built105z, Option.bind_some, if_pos (by rfl), c1, Option.bind_some, c4, Option.bind_some], (a3.and0 u3).trans' c3 fun k hk e => by omega⟩
  unfold ref11_Mend mendR
  rw [a1, bnd_ok]
  by_cases h1 : 1024 < T.length
  · rw [if_pos (decide_eq_true (show ((t.size : Nat) : Int) > 1024 by omega)), if_pos h1]
    obtain ⟨w4, z1, z2⟩ := zero w1 4 (Upd.refl _ _)
    exact ⟨_, w4, z1, z2, rfl⟩
  · rw [if_neg (by simp only [decide_eq_true_eq]; omega), if_neg h1]
    obtain ⟨s, v, w2, b1, b2, b3⟩ := Read_ok hK w1 hT hTb (by omega)
    rw [b1, bnd_ok]
    dsimp only
    cases hr : rdP T [] [] with
    | none =>
      rw [hr] at b3
      have b3 : v = false := b3
      rw [b3, if_pos (by decide)]
      obtain ⟨w4, z1, z2⟩ := zero w2 112 b2
      exact ⟨_, w4, z1, z2, rfl⟩
    | some l =>
      rw [hr] at b3
      obtain ⟨rfl, o2, f2, l2⟩ := b3
      have hsl : s.len = l.length := by rw [o2.len, fb_length]
      dsimp only
      rw [if_neg (by decide)]
      have hs0 : ref11_Mend_s0 K s w2 = some ((decide (l.length < 14 ∨ 78 < l.length), ()), w2) := by
        unfold ref11_Mend_s0
        rw [hsl]
        by_cases h14 : l.length < 14
        · rw [if_pos (decide_eq_true (show ((l.length : Nat) : Int) < 14 by omega)), decide_eq_true (Or.inl h14)]
        · rw [if_neg (by simp only [decide_eq_true_eq]; omega)]
          have : decide (((l.length : Nat) : Int) > 78) = decide (l.length < 14 ∨ 78 < l.length) := by rw [decide_eq_decide]; omega
          rw [this]
      rw [hs0, bnd_ok]
      dsimp only
      by_cases h2 : l.length < 14 ∨ 78 < l.length
      · rw [if_pos (decide_eq_true h2), if_pos h2]
        obtain ⟨w4, z1, z2⟩ := zero w2 113 b2
        exact ⟨_, w4, z1, z2, rfl⟩
      · rw [if_neg (fun h => h2 (of_decide_eq_true h)), if_neg h2]
        obtain ⟨s3, n3, v3, w3, c1, c2, c3⟩ := near_ok hK (o2.src (fb_one _)) (by omega)
        rw [c1, bnd_ok]
        dsimp only
        have u3 := b2.and0 c2
        have q2 := b2.size
        rw [← Gf.repP_nearP (by omega)] at c3
        cases hp : Gf.repP l with
        | none =>
          rw [hp] at c3
          have c3 : v3 = false := c3
          rw [c3, if_pos (by decide)]
          obtain ⟨w4, z1, z2⟩ := zero w3 113 u3
          exact ⟨_, w4, z1, z2, rfl⟩
        | some r =>
          rw [hp] at c3
          obtain ⟨rfl, hn3, o3, f3⟩ := c3
          have hlen := ((repP_spec (b := l) (by omega)).2 _ hp).1
          dsimp only at hlen ⊢
          rw [if_neg (by decide)]
          obtain ⟨cs, sv, w4, d1, d2, d3⟩ := Fits_ok o3 (by omega) (by omega)
          rw [d1, bnd_ok]
          dsimp only
          have u4 := u3.and0 d2
          obtain ⟨w5, e1, e2, e3, e4⟩ := newB_ok z33 33 w4
          have e2 : Bk 33 w5 w4.heap.size (shL 0 0 0 0) := by rw [z84_eq] at e2; exact e2
          rw [e1, bnd_ok]
          have q4 := u4.size
          have q3 := u3.size
          by_cases hf : fitB r.1 = true
          · rw [if_pos hf] at d3 ⊢
            obtain ⟨hcs, dv, df⟩ := d3
            rw [hcs, hf, hn3]
            obtain ⟨w6, g1, g2, g3⟩ := e2.stA (o := 0) (vs := (shL (setN r.1) (bAt r.1 2) (bAt r.1 3) (bAt r.1 4)).toArray) (by simp [shL]) (fun v hv => shL_one _ _ _ _ v hv)
            have g2 : Bk 33 w6 w4.heap.size (shL (setN r.1) (bAt r.1 2) (bAt r.1 3) (bAt r.1 4)) := g2
            have g4 := g2.ldA (i := 0) (n := 4) (by simp [shL])
            have g4 : ldA 4 ⟨w4.heap.size, 0, none⟩ w6 = some (shL (setN r.1) (bAt r.1 2) (bAt r.1 3) (bAt r.1 4)).toArray := g4
            have u46 : Upd none_ w4 w6 := e3.trans' g3 fun k hk e => by omega
            obtain ⟨w7, i1, i2, i3⟩ := ((a2.upd0 u4).upd0 u46).stA (o := 0) (vs := (partC (setN r.1) (bAt r.1 2) (bAt r.1 3) (bAt r.1 4) sv r.2).toArray) (by simp [part0, partC, shL]) (fun v hv => part_one _ _ _ _ _ _ v hv)
            have i2 : Bk 35 w7 w.heap.size (partC (setN r.1) (bAt r.1 2) (bAt r.1 3) (bAt r.1 4) sv r.2) := i2
            have i4 := i2.ldA (i := 0) (n := 6) (by simp [partC, shL])
            have i4 : ldA 6 ⟨w.heap.size, 0, none⟩ w7 = some (partC (setN r.1) (bAt r.1 2) (bAt r.1 3) (bAt r.1 4) sv r.2).toArray := i4
            have hz : (shL (setN r.1) (bAt r.1 2) (bAt r.1 3) (bAt r.1 4)).toArray.size = 4 := rfl
            have hbt : prog.built 35 [(0, (.agg (shL (setN r.1) (bAt r.1 2) (bAt r.1 3) (bAt r.1 4)).toArray)), (1, (.slice sv.a sv.len sv.cap)), (2, (.int .i64 ((r.2 : Nat) : Int)))] = some (partC (setN r.1) (bAt r.1 2) (bAt r.1 3) (bAt r.1 4) sv r.2).toArray := built105 _ _ _ _ sv _
            have hz6 : (partC (setN r.1) (bAt r.1 2) (bAt r.1 3) (bAt r.1 4) sv r.2).toArray.size = 6 := rfl
            refine ⟨_, w7, ?_, ((a3.and0 u4).and0 u46).trans' i3 fun k hk e => by omega, sv, rfl, ?_, fun k hk => by have := df k hk; omega⟩
            · rw [if_pos hz, g1, Option.bind_some, if_neg (by decide), g4, Option.bind_some, hbt, Option.bind_some, if_pos hz6, i1, Option.bind_some, i4, Option.bind_some]
            · exact (dv.upd0 u46).upd i3 fun k hk e => by have := df k hk; omega
          · rw [if_neg hf] at d3 ⊢
            have hff : fitB r.1 = false := by simpa using hf
            rw [d3, hff]
            obtain ⟨w6, g1, g2, g3⟩ := e2.stA (o := 0) (vs := (shL 0 0 0 0).toArray) (by simp [shL]) (fun v hv => shL_one _ _ _ _ v hv)
            have u46 : Upd none_ w4 w6 := e3.trans' g3 fun k hk e => by omega
            have hz : (shL 0 0 0 0).toArray.size = 4 := rfl
            obtain ⟨w7, z1, z2⟩ := zero w6 113 (u4.and0 u46)
            refine ⟨_, w7, ?_, z2, rfl⟩
            rw [if_pos hz, g1, Option.bind_some, if_pos (by decide)]
            exact z1

end Go.Sh

/- Two shares that are alike. -/
set_option linter.unusedVariables false
set_option maxRecDepth 100000
namespace Go.Sh
open Go.Fw Go.Gf Go.RowKit Go.Proofs.Try

noncomputable def intB (P : Program) (t : TypeId) : Bool := match P.underlying t with
  | some (.int _) => true
  | _ => false
theorem intB_some {P : Program} {t : TypeId} (h : intB P t = true) : ∃ k, P.underlying t = some (.int k) := by
  unfold intB at h
  split at h
  · rename_i k hk; exact ⟨k, hk⟩
  · cases h

theorem eqF_same {P : Program} (w : World) (d : Nat) (xs : Array Value) : ∀ fs : List Field, (∀ f ∈ fs, f.name ≠ "_" ∧ intB P f.type = true) → (∀ f ∈ fs, ∃ k a, xs[f.offset]? = some (.int k a)) → (Op.eqFields (d + 1) xs xs fs).run P w = .ok true w
  | [], _, _ => by simp [Op.eqFields]
  | f :: fs, h1, h2 => by
    obtain ⟨hn, hi⟩ := h1 f (by simp)
    obtain ⟨k', hu⟩ := intB_some hi
    obtain ⟨k, a, hx⟩ := h2 f (by simp)
    have hp : P.plainKey f.type = true := by simp [Program.plainKey, hu]
    have e1 := run_equalIn_int (P := P) w d f.type k k' a a hu
    have ih := eqF_same w d xs fs (fun g hg => h1 g (by simp [hg])) (fun g hg => h2 g (by simp [hg]))
    unfold Op.eqFields
    rw [if_pos hn, Sem.run_bind, run_part_plain w hp hx, Result.andThen_ok, Sem.run_bind, run_part_plain w hp hx, Result.andThen_ok, Sem.run_bind, e1, Result.andThen_ok]
    rw [show (a == a) = true by simp, if_neg (by decide), ih]

noncomputable def fieldsB (t : TypeId) : Bool := (prog.fieldsOf t).toList.all fun f => (f.name != "_") && intB prog f.type && decide (f.offset < 4)

theorem fields84 : fieldsB 33 = true := by kernel_rfl
theorem und84 : prog.underlying 33 = some (.struct (prog.fieldsOf 33)) := by kernel_rfl
theorem stood84 : prog.stoodInHeld 33 = false := by kernel_rfl
theorem guard84 : prog.eqGuardType prog.depth 33 = false := by kernel_rfl

theorem share_eql (w : World) (ox oy : Operand) (s n i z : Nat) : bop prog .eql 33 ox oy (.agg (shL s n i z).toArray) (.agg (shL s n i z).toArray) w = some (.bool true, w) := by
  have hf := fields84
  unfold fieldsB at hf
  rw [List.all_eq_true] at hf
  have h1 := eqF_same (P := prog) w 9998 (shL s n i z).toArray (prog.fieldsOf 33).toList (fun f h => by
    have := hf f h
    simp only [Bool.and_eq_true, bne_iff_ne, ne_eq] at this
    exact ⟨this.1.1, this.1.2⟩) (fun f h => by
    have := hf f h
    simp only [Bool.and_eq_true, decide_eq_true_eq] at this
    have h4 := this.2
    match f.offset, h4 with
    | 0, _ => exact ⟨_, _, rfl⟩
    | 1, _ => exact ⟨_, _, rfl⟩
    | 2, _ => exact ⟨_, _, rfl⟩
    | 3, _ => exact ⟨_, _, rfl⟩)
  have h2 := run_equalIn_struct (P := prog) w 9999 33 (shL s n i z).toArray (shL s n i z).toArray und84 stood84
  rw [h1] at h2
  unfold bop
  rw [Sem.run_bind, run_eqGuard_agg w .eql _ ox oy _ _ guard84, Result.andThen_ok, run_eql_struct, h2, Result.andThen_ok]

end Go.Sh

/- 'cofferlaw11.EscrowMends': what the walk computes. -/
set_option linter.unusedVariables false
set_option maxRecDepth 100000
namespace Go.Sh
open Go.Fw Go.Gf Go.RowKit Go.Proofs.Try

theorem text_lt (t : ByteArray) : ∀ c ∈ t.data.toList.map UInt8.toNat, c < 256 := fun c hc => by
  obtain ⟨b, _, rfl⟩ := List.mem_map.1 hc
  exact b.toNat_lt

theorem EscrowMends_ok {K : Nat} (hK : 18446744073709551616 ≤ K) (t : ByteArray) (w : World) :
    ∃ w', law11_EscrowMends K t w = some ((true, ()), w') ∧ Upd none_ w w' := by
  have hT := text_of t
  have hTb := text_lt t
  obtain ⟨T, hTe⟩ : ∃ T, T = t.data.toList.map UInt8.toNat := ⟨_, rfl⟩
  rw [← hTe] at hT hTb
  obtain ⟨cs, w1, a1, a2, a3⟩ := rMend_ok hK w hT hTb
  obtain ⟨w2, b1, b2, b3, b4⟩ := newB_ok z35 35 w1
  have b2 : Bk 35 w2 w1.heap.size part0 := by rw [z105_eq] at b2; exact b2
  have q1 := a2.size
  -- what the document answers
  obtain ⟨s, n, i, z, sv, wr, vals, want, hcs, hsl, hsv, hvl, hwant, hMt, hMn, hTl⟩ : ∃ (s n i z : Nat) (sv : Sl) (wr : Nat) (vals : List F) (want : ByteArray), cs = (partC s n i z sv wr).toArray ∧ s < 65536 ∧ BSrc w1 sv vals ∧ vals.length ≤ 1000000 ∧
      want = (if (mendR T).1 = 0 then textOf (lineL s n i z vals) else str0) ∧ mText (mendR T).2 = want ∧ mNum (mendR T).2 = ((wr : Nat) : Int) ∧ mShare (mendR T).2 = (shL s n i z).toArray := by
    cases hr : (mendR T).2 with
    | none =>
      rw [hr] at a3
      have a3 : cs = part0.toArray := a3
      have hne := mendR_none hr
      exact ⟨0, 0, 0, 0, nilF, 0, [], str0, a3, by omega, (OwnS.nil 5 w1).src (fun v hv => by simp at hv), by simp, by rw [if_neg hne], rfl, rfl, rfl⟩
    | some r =>
      rw [hr] at a3
      obtain ⟨sv, h1, h2, h3⟩ := a3
      obtain ⟨he, hf, hl1, hl2⟩ := mendR_some (c := r.1) (n := r.2) hr
      have hvl := vals_len hf
      have h4b := bAt_lt r.1 4
      exact ⟨setN r.1, bAt r.1 2, bAt r.1 3, bAt r.1 4, sv, r.2, valsP r.1, _, h1, setN_lt r.1, h2.src (fb_one _), by omega, by rw [if_pos he]; rfl, rfl, rfl, rfl⟩
  obtain ⟨w3, c1, c2, c3⟩ := b2.stA (o := 0) (vs := (partC s n i z sv wr).toArray) (by simp [part0, partC, shL]) (fun v hv => part_one _ _ _ _ _ _ v hv)
  have c2 : Bk 35 w3 w1.heap.size (partC s n i z sv wr) := c2
  have u3 : Upd none_ w1 w3 := b3.trans' c3 fun k hk e => by omega
  have hz6 : (partC s n i z sv wr).toArray.size = 6 := rfl
  -- the line that is wanted
  obtain ⟨w4, d1, d2⟩ : ∃ w4, law11_EscrowMends_s0 K ⟨w1.heap.size, 0, none⟩ str0 ((mendR T).1 == 0) w3 = some ((want, ()), w4) ∧ Upd none_ w3 w4 := by
    unfold law11_EscrowMends_s0
    by_cases he : (mendR T).1 = 0
    · have c4 := c2.ldA (i := 0) (n := 6) (by simp [partC, shL])
      have c4 : ldA 6 ⟨w1.heap.size, 0, none⟩ w3 = some (partC s n i z sv wr).toArray := c4
      obtain ⟨w5, e1, e2, e3, e4⟩ := newB_ok (partC s n i z sv wr).toArray 35 w3
      have e2 : Bk 35 w5 w3.heap.size (partC s n i z sv wr) := e2
      have e5 := e2.ldA (i := 0) (n := 4) (by simp [partC, shL])
      have e5 : ldA 4 ((⟨w3.heap.size, 0, none⟩ : Addr).add 0) w5 = some (shL s n i z).toArray := e5
      have e6 := e2.ldS (i := 4) (a := sv.a) (l := sv.len) (c := sv.cap) rfl
      have e6 : ldS ((⟨w3.heap.size, 0, none⟩ : Addr).add 4) w5 = some sv := by rw [add_lit, Nat.zero_add]; exact e6
      obtain ⟨sb, w6, f1, f2, f3, f4⟩ := rBytes_ok hK (s := s) (need := n) (idx := i) (size := z) hsl ((hsv.upd0 u3).upd0 e3) hvl
      have hll := line_len s n i z vals
      obtain ⟨w7, g1, g2⟩ := rWords_ok hK (f2.src (fb_one _)) (by omega)
      refine ⟨w7, ?_, (e3.and0 f3).and0 g2⟩
      rw [if_pos (by rw [he]; rfl), c4, Option.bind_some]
      unfold ref11_Part_Line
      rw [e1, bnd_ok, e5, Option.bind_some, e6, Option.bind_some, f1, bnd_ok, g1, bnd_ok, bnd_ok, hwant, if_pos he]
    · exact ⟨w3, by rw [if_neg (by rw [beq_iff_eq]; exact he), hwant, if_neg he], Upd.refl _ _⟩
  obtain ⟨w5, e1, e2⟩ := Mend_ok hK w4 hT hTb
  rw [hMt, hMn] at e1
  obtain ⟨w6, f1, f2⟩ := Tell_ok hK w5 hT hTb
  rw [hTl] at f1
  obtain ⟨w7, g1, g2, g3, g4⟩ := newB_ok z33 33 w6
  have g2 : Bk 33 w7 w6.heap.size (shL 0 0 0 0) := by rw [z84_eq] at g2; exact g2
  obtain ⟨w8, i1, i2, i3⟩ := g2.stA (o := 0) (vs := (shL s n i z).toArray) (by simp [shL]) (fun v hv => shL_one _ _ _ _ v hv)
  have i2 : Bk 33 w8 w6.heap.size (shL s n i z) := i2
  have i4 := i2.ldA (i := 0) (n := 4) (by simp [shL])
  have i4 : ldA 4 ⟨w6.heap.size, 0, none⟩ w8 = some (shL s n i z).toArray := i4
  have u38 : Upd none_ w3 w8 := (((d2.and0 e2).and0 f2).and0 g3).trans' i3 fun k hk e => by have := d2.size; have := e2.size; have := f2.size; omega
  have c8 := c2.upd0 u38
  have k1 := c8.ldI (i := 5) (κ := .i64) (n := (wr : Int)) rfl
  have k2 := c8.ldA (i := 0) (n := 4) (by simp [partC, shL])
  have k2 : ldA 4 ((⟨w1.heap.size, 0, none⟩ : Addr).add 0) w8 = some (shL s n i z).toArray := k2
  have hz4 : (shL s n i z).toArray.size = 4 := rfl
  refine ⟨w8, ?_, (a2.and0 u3).and0 u38⟩
  unfold law11_EscrowMends law11_num
  rw [a1, bnd_ok, b1, bnd_ok, hcs]
  dsimp only
  rw [if_pos hz6, c1, Option.bind_some, d1, bnd_ok, e1, bnd_ok, f1, bnd_ok, g1, bnd_ok]
  dsimp only
  have k1 : ldI .i64 ((⟨w1.heap.size, 0, none⟩ : Addr).add 5) w8 = some (wr : Int) := by rw [add_lit, Nat.zero_add]; exact k1
  rw [if_pos hz4, i1, Option.bind_some, if_pos (by simp), k1, Option.bind_some, if_pos (by simp), Option.bind_some]
  dsimp only
  rw [if_pos (by simp), i4, Option.bind_some, k2, Option.bind_some, share_eql, bnd_ok]
  rw [show asB (Value.bool true) = some true from rfl, Option.bind_some, if_pos rfl, Option.bind_some]
  simp

end Go.Sh

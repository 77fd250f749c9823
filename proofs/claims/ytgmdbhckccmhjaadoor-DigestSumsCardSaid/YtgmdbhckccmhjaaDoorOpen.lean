/- What a reading of a [][]byte gives. -/
import Derived.Test.YtgmdbhckccmhjaaDoorSums
import Derived.Deep.Matrix
import Derived.SizedLaws
import Derived.Handed
set_option linter.unusedVariables false
namespace Go.Sh
open Go.Fw Go.Sha Go.RowKit Go.Proofs.Tryd Go.Deep Go.ChangeShapes Go.WideShapes

theorem weights_all {H : Type} {P : Program} {e : TypeId} : ∀ {ds : List (DataW H)} {d : DataW H}, d ∈ ds → ∀ n ∈ d.weights P e, n ∈ DataW.weightsAll P e ds
  | [], _, h, _, _ => by simp at h
  | d0 :: r, d, h, n, hn => by
    simp only [DataW.weightsAll, List.mem_append]
    rcases List.mem_cons.1 h with rfl | h
    · exact .inl hn
    · exact .inr (weights_all h n hn)

theorem wf_u8 {n : Int} (h : (Lit.int .u8 n).wf = true) : InK .u8 n := by
  have h2 : 0 ≤ n ∧ n ≤ 255 := by simpa [Lit.wf, IntKind.bits, IntKind.min, IntKind.max, IntKind.signed] using h
  exact ⟨h2.1, by have := h2.2; simp only [IntKind.bits]; omega⟩

theorem bytes_of_B : 1 ≤ prog.bytesOf 5 := of_decide_eq_true (by kernel_rfl)
theorem bytes_of_T : prog.bytesOf 25 = 24 := by kernel_rfl
theorem und_B : prog.underlying 5 = some (.int .u8) := by kernel_rfl
theorem cells_of_B : prog.cellsOf 5 = 1 := by kernel_rfl
theorem cells_of_T : prog.cellsOf 25 = 1 := by kernel_rfl

/-- what is in reach -/
theorem lits_len {H : Type} {κ : IntKind} {zs : List Int} {n : Nat} : (lits (H := H) κ (zs.take n)).length + (lits (H := H) κ (zs.drop n)).length = zs.length := by
  simp only [lits, List.length_map, List.length_take, List.length_drop]; omega

theorem open_parts {H : Type} {enc : TypeId × Value → H} {W : World} {d : DataW H} {p : List MemPlace} {a : Option Addr} {len cap : Nat} (h : DataW.Trod enc prog W 0 (fun _ => true) true 24 (.slice a len cap) d p) (hw : ∀ n ∈ d.weights prog 24, n ≤ reachBytes) :
    ∃ xss, PartsW W ⟨a, len, cap⟩ xss (fun k => k < W.heap.size) := by
  obtain ⟨fuel, hf⟩ := h
  rcases open_int_rows sliceSS.ht sliceB.ht und_B cells_of_T cells_of_B hf with ⟨hcs, hx⟩ | ⟨a', len', cap', A, L, C, Z, hcs, _, hl, hm, hx, hrows⟩
  · simp [Value.cells] at hcs
    obtain ⟨rfl, rfl, rfl⟩ := hcs
    exact ⟨[], rfl, Nat.le_refl _, by simp, by simp, by simp, .inl rfl⟩
  simp [Value.cells] at hcs
  obtain ⟨rfl, rfl, rfl⟩ := hcs
  simp only [Prod.mk.injEq] at hx
  obtain ⟨rfl, rfl⟩ := hx
  have hrb : reachBytes = 140737488351232 := rfl
  have hwt : ∀ n ∈ (len + (cap - len)) * 24 :: (DataW.weightsAll prog 25 ((List.range len).map fun r => intRow (H := H) .u8 (A r) (L r) (Z r))), n ≤ 140737488351232 := by
    intro n hn
    refine hw n ?_
    simp only [DataW.weights, sliceSS.ht, bytes_of_T, List.length_map, List.length_range]
    rcases List.mem_cons.1 hn with rfl | hn
    · exact List.mem_cons_self ..
    · exact List.mem_cons_of_mem _ (List.mem_append_left _ hn)
  have hcap := hwt _ (List.mem_cons_self ..)
  have hzl : ∀ r, r < len → (Z r).length ≤ 140737488351232 := by
    intro r hr
    obtain ⟨h1, h2, h3, h4, h5, h6, h7⟩ := hrows r (by omega)
    cases hA : A r with
    | none => have := h6 hA; omega
    | some x =>
      have hmem : intRow (H := H) .u8 (A r) (L r) (Z r) ∈ (List.range len).map fun r => intRow (H := H) .u8 (A r) (L r) (Z r) := List.mem_map.2 ⟨r, List.mem_range.2 hr, rfl⟩
      have := hwt ((Z r).length * prog.bytesOf 5) (List.mem_cons_of_mem _ (weights_all hmem _ (by
        rw [hA]
        simp only [intRow, DataW.weights, sliceB.ht, lits_len]
        exact List.mem_cons_self ..)))
      exact Nat.le_trans (Nat.le_mul_of_pos_right _ bytes_of_B) this
  have hg : ∀ r, r < len → ((List.range len).map fun r => (Z r).take (L r)).getD r [] = (Z r).take (L r) := fun r hr => by simp [List.getD_eq_getElem?_getD, hr]
  have hg2 : ∀ r, r < len → ((List.range len).map fun r => (⟨A r, L r, C r⟩ : Sl)).getD r nilS = ⟨A r, L r, C r⟩ := fun r hr => by simp [List.getD_eq_getElem?_getD, hr]
  refine ⟨(List.range len).map fun r => (Z r).take (L r), by simp, hl, ?_, ?_, by simp only [List.length_map, List.length_range]; omega, ?_⟩
  · intro xs hxs x hx
    obtain ⟨r, hr, rfl⟩ := List.mem_map.1 hxs
    obtain ⟨h1, h2, h3, h4, h5, h6, h7⟩ := hrows r (by have := List.mem_range.1 hr; omega)
    exact wf_u8 (h5 x (List.mem_of_mem_take hx))
  · intro xs hxs
    obtain ⟨r, hr, rfl⟩ := List.mem_map.1 hxs
    have := hzl r (List.mem_range.1 hr)
    simp; omega
  · by_cases h0 : len = 0
    · left; rw [h0]; rfl
    right
    refine ⟨a', (List.range len).map fun r => ⟨A r, L r, C r⟩, rfl, by simp, World.block_lt_of_cell? W _ (by have := (hrows 0 (by omega)).1; simpa [Addr.add] using this), ?_, fun i hi => ?_⟩
    · intro i v hv
      simp only [List.map_map, List.getElem?_map] at hv
      obtain ⟨r, hr, rfl⟩ := Option.map_eq_some_iff.1 hv
      rw [List.getElem?_range (by have := (List.getElem?_eq_some_iff.1 hr).1; simpa using this)] at hr
      obtain rfl := Option.some.inj hr
      have hi : i < len := by
        by_cases hi : i < len
        · exact hi
        · simp [List.getElem?_eq_none (show (List.range len).length ≤ i by simp; omega)] at hv
      exact (hrows i (by omega)).1
    · have hi : i < len := by simpa using hi
      rw [hg i hi, hg2 i hi]
      obtain ⟨h1, h2, h3, h4, h5, h6, h7⟩ := hrows i (by omega)
      have hrd : ∀ x, A i = some x → Rd W x (ints .u8 ((Z i).take (L i))) := by
        intro x hx j v hv
        have hj : j < L i ∧ j < (Z i).length := by
          have := (List.getElem?_eq_some_iff.1 hv).1
          simp at this; omega
        have := (h7 x hx).2 j (by omega)
        rw [this]
        simp only [ints, List.getElem?_map, List.getElem?_take, if_pos hj.1] at hv
        rw [List.getElem?_eq_getElem hj.2] at hv
        rw [List.getD_eq_getElem?_getD, List.getElem?_eq_getElem hj.2]
        exact hv
      refine ⟨⟨by simp; omega, h2, ?_, ints_one⟩, fun q hq hne => ?_⟩
      · cases hA : A i with
        | none => left; have := h6 hA; exact ⟨rfl, this, by rw [List.eq_nil_of_length_eq_zero (show ((Z i).take (L i)).length = 0 by simp; omega)]; rfl⟩
        | some x => right; exact ⟨x, rfl, hrd x hA⟩
      · exact (hrd q hq).lt (fun e => hne (by cases hz : (Z i).take (L i) with | nil => rfl | cons y r => rw [hz] at e; cases e))

end Go.Sh

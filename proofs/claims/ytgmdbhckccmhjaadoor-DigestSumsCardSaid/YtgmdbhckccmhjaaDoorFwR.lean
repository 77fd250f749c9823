/- Lists of bytes that stand in the text as constant strings; nothing of a program stands here. -/
import Derived.Test.YtgmdbhckccmhjaaDoorFwQ
import Derived.Lib.SlBytesConst
namespace Go.Fw
open Go.RowKit

theorem bldS_eq {P : Program} {t e : TypeId} {z : Value} {bytes : Nat} (T : OneSlice P t e z bytes) (vs : List Value) (hv : ∀ v ∈ vs, v.cells = #[v]) (hp : 0 < vs.length) (hs : vs.length ≤ 16777216) (w : World) :
    bldS P t vs.length (vs.zipIdx.map fun p => (p.2, p.1)).toArray w = some (⟨some ⟨w.heap.size, 0, none⟩, vs.length, vs.length⟩, w.alloc (.cells vs.toArray e)) := by
  obtain ⟨i, hi, hsz, hz, hby⟩ := T.info
  have hr := run_buildSlice (P := P) w t e vs.length (vs.zipIdx.map fun p => (p.2, p.1)).toArray vs.toArray i z T.ht hi hz (by rw [hsz]; omega) (by rw [hsz]; omega) (by
    have := fill_list vs [] (List.replicate vs.length z) hv (by simp)
    simp only [hsz]
    rw [show ((Array.range (vs.length * 1)).map (z.cells[· % z.cells.size]!)) = (([] : List Value) ++ List.replicate vs.length z).toArray from ?_]
    · simpa using this
    · rw [T.z0]
      apply Array.ext (by simp)
      intro k h1 h2
      simp [Nat.mod_one])
  unfold bldS; rw [hr]

/-- a constant text as bytes -/
theorem bytesC {P : Program} {t e : TypeId} {bytes : Nat} (T : OneSlice P t e (.int .u8 0) bytes) (he : P.underlying e = some (.int .u8)) (xs : List Int) (hp : 0 < xs.length) (hs : xs.length ≤ 16777216) (w : World) :
    ∃ w1 w2, bldS P t xs.length ((ints .u8 xs).zipIdx.map fun p => (p.2, p.1)).toArray w = some (⟨some ⟨w.heap.size, 0, none⟩, xs.length, xs.length⟩, w1) ∧
      cnv P t t (.slice (some ⟨w.heap.size, 0, none⟩) xs.length xs.length) w1 = some (.slice (some ⟨w.heap.size, 0, none⟩) xs.length xs.length, w2) ∧
      Src w2 ⟨some ⟨w.heap.size, 0, none⟩, xs.length, xs.length⟩ (ints .u8 xs) ∧ Upd none_ w w2 ∧ w.heap.size < w2.heap.size := by
  have hl : (ints .u8 xs).length = xs.length := List.length_map ..
  have h1 := bldS_eq T (ints .u8 xs) (fun v hv => by obtain ⟨x, _, rfl⟩ := List.mem_map.1 hv; rfl) (by omega) (by omega) w
  rw [hl] at h1
  have h2 := Lib.run_convert_bytes_const (P := P) w t e (ints .u8 xs).toArray xs.length xs.length T.ht he
  refine ⟨_, _, h1, by unfold cnv; rw [h2], ⟨hl.symm, Nat.le_refl _, .inr ⟨_, rfl, fun i v hv => ?_⟩, ints_one⟩, Upd.alloc _ _ _, by simp⟩
  rw [add_lit, Nat.zero_add]
  show World.cell? (w.alloc _) ⟨w.heap.size, i, none⟩ = some v
  have := heap_alloc_new w (.cells (ints .u8 xs).toArray e ((ints .u8 xs).toArray.size, (ints .u8 xs).toArray.size + 1))
  simp only [World.cell?, this]
  simpa using hv

end Go.Fw

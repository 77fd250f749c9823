/- A digest is told: end of package digest, whole. -/
import Derived.Test.YtgmdbhckccmhjaaDoorEnd
set_option linter.unusedVariables false
namespace Go.Sh
open Go.Fw Go.Sha Go.RowKit Go.Proofs.Tryd

theorem mkS_ok (w : World) {c : Nat} (hc : c ≤ 281474976710656) :
    ∃ w', mkS prog 25 (.int .i64 0) (.int .i64 (c : Int)) w = some (⟨some ⟨w.heap.size, 0, none⟩, 0, c⟩, w') ∧ Own 5 w' ⟨some ⟨w.heap.size, 0, none⟩, 0, c⟩ [] ∧ Upd none_ w w' := by
  obtain ⟨i, hi, hsz, hz, hby⟩ := sliceB.info
  obtain ⟨w', hr, ho, hg⟩ := run_make_own (P := prog) w 0 25 5 i (.int .u8 0) 1 sliceB.ht hi hz hsz .i64 .i64 c (by rw [hby]; omega) (by simp only [maxLen]; omega) (Nat.zero_le _)
  obtain ⟨s, h1, h2, h3⟩ := Own.of_row ho
  have hs : s = ⟨some ⟨w.heap.size, 0, none⟩, 0, c⟩ := by
    cases s
    simp only [Value.slice.injEq] at h1
    simp [← h1.1, ← h1.2.1, ← h1.2.2]
  refine ⟨w', ?_, hs ▸ h3, (Upd.of_grown hg).mono fun k _ e => by cases e⟩
  unfold mkS
  rw [hr]

theorem seg_self {cs : List Value} : seg cs 0 cs = cs := by simp [seg]

theorem pads_cells (h : Int) (len : Nat) (hz : padZ (blk h) (2 * wordB h) len < 128) :
    (seg ((ints .u8 (List.replicate 256 0)).set 0 (.int .u8 128)) (1 + padZ (blk h) (2 * wordB h) len + 2 * wordB h - 8) (ints .u8 (bigB (IntKind.u64.wrap ((len : Int) * 8)) 8))).take (1 + padZ (blk h) (2 * wordB h) len + 2 * wordB h) = ints .u8 (pads h len) := by
  have hw := wordB_blk h
  obtain ⟨k, hk⟩ : ∃ k, padZ (blk h) (2 * wordB h) len + (2 * wordB h - 8) = k := ⟨_, rfl⟩
  have e0 : (ints .u8 (List.replicate 256 0)).set 0 (.int .u8 128) = ints .u8 (128 :: List.replicate 255 0) := by
    rw [ints_set, show (256 : Nat) = 255 + 1 from rfl, List.replicate_succ, List.set_cons_zero]
  have e1 : 1 + padZ (blk h) (2 * wordB h) len + 2 * wordB h - 8 = k + 1 := by omega
  have e2 : 1 + padZ (blk h) (2 * wordB h) len + 2 * wordB h = k + 1 + (ints .u8 (bigB (IntKind.u64.wrap ((len : Int) * 8)) 8)).length := by rw [ints_length, bigB_len]; omega
  rw [e0, e1, e2]
  unfold seg pads
  rw [hk, ints_take, List.take_succ_cons, List.take_replicate, Nat.min_eq_left (by omega), ← ints_append, List.take_append_of_le_length (by rw [ints_length, ints_length, List.length_append, List.length_cons, List.length_replicate]; omega), List.take_of_length_le (by rw [ints_length, ints_length, List.length_append, List.length_cons, List.length_replicate]; omega)]
  rfl

theorem end_ok {K : Nat} (hK : 18446744073709551616 ≤ K) {h : Int} (hk : known h = true) {H half C H0 xs : List Int} (f : Fed h C H0 xs H half) (hH : H.length = 8) (hhi : ∀ x ∈ half, InK .u8 x) (hC : C.length = 80) {w : World} (hT : Rd w ⟨2, 0, none⟩ (ints .u64 C)) (hlim : xs.length ≤ 1099511627776) :
    ∃ s w', digest_state_end K (stCells h xs.length H half).toArray w = some ((s, ()), w') ∧ Ans w.heap.size w' s (digestOf h C H0 xs) ∧ Upd none_ w w' := by
  have hGC : 2 < w.heap.size := hT.lt (fun e => by have := congrArg List.length e; simp [hC] at this)
  have hwb := wordB_blk h
  have hbk := known_blk hk
  have hzl := padZ_lt (m := 2 * wordB h) (len := xs.length) hbk
  obtain ⟨w1, n1, b1, u1, z1⟩ := newB_ok (stCells h xs.length H half).toArray 87 w
  have b1 : Bk 87 w1 w.heap.size (stCells h xs.length H half) := b1
  have hsl := stCells_len h xs.length hH f.len
  have st1 : StAt w1 87 w.heap.size 0 (stCells h xs.length H half) h xs.length H half := ⟨by rw [seg_self]; exact b1, by rw [hsl]; decide, hH, f.len, hhi⟩
  obtain ⟨l1, l5, l3⟩ := st1.ld hk
  obtain ⟨w2, n2, b2, u2, z2⟩ := newB_ok z132 132 w1
  have b2 : Bk 132 w2 w1.heap.size (ints .u8 (List.replicate 256 0)) := by
    have e : z132.toList = ints .u8 (List.replicate 256 0) := by unfold z132 ints; rw [Array.toList_replicate, List.map_replicate]
    rw [← e]; exact b2
  obtain ⟨w3, s3, b3, u3⟩ := b2.stC (i := 0) (by rw [ints_length, List.length_replicate]; decide) (.int .u8 128)
  have st3 := (st1.upd u2 id).upd u3 (by omega)
  obtain ⟨w4, h4, u4⟩ := end_l0 K hk (by omega) (bits3 := IntKind.u64.wrap (((xs.length : Nat) : Int) * 8)) (pad4 := ⟨w1.heap.size, 0, none⟩) (padZ (blk h) (2 * wordB h) xs.length) 0 K w3 (by omega) (by omega) st3
  have h4 : digest_state_end_l0 K K ⟨w.heap.size, 0, none⟩ (IntKind.u64.wrap (((xs.length : Nat) : Int) * 8)) ⟨w1.heap.size, 0, none⟩ 1 w3 = _ := h4
  have st4 := st3.upd u4 id
  have b4 := b3.upd0 u4
  obtain ⟨m2, m0⟩ := st4.ld2 hk
  have ew : IntKind.i64.wrap (2 * ((wordB h : Nat) : Int)) = ((2 * wordB h : Nat) : Int) := by rw [w64 (by omega) (by omega)]; omega
  have en : IntKind.i64.wrap (((1 + padZ (blk h) (2 * wordB h) xs.length : Nat) : Int) + ((2 * wordB h : Nat) : Int)) = ((1 + padZ (blk h) (2 * wordB h) xs.length + 2 * wordB h : Nat) : Int) := by rw [w64 (by omega) (by omega)]; omega
  have hps : ((ints .u8 (List.replicate 256 0)).set 0 (.int .u8 128)).length = 256 := by rw [List.length_set, ints_length, List.length_replicate]
  obtain ⟨w5, h5, b5, u5⟩ := end_l1 K (s1 := ⟨w.heap.size, 0, none⟩) (bits := IntKind.u64.wrap (((xs.length : Nat) : Int) * 8)) (gp := w1.heap.size) (n0 := 1 + padZ (blk h) (2 * wordB h) xs.length + 2 * wordB h) hps (by omega) (by omega) 8 0 K w4 rfl (by omega) (by
    show Bk 132 w4 w1.heap.size (seg _ _ [])
    rw [seg_nil]; exact b4)
  have h5 : digest_state_end_l1 K K ⟨w.heap.size, 0, none⟩ (IntKind.u64.wrap (((xs.length : Nat) : Int) * 8)) ⟨w1.heap.size, 0, none⟩ ((1 + padZ (blk h) (2 * wordB h) xs.length + 2 * wordB h : Nat) : Int) 0 w4 = _ := h5
  have st5 := st4.upd u5 (by omega)
  have hpc := pads_cells h xs.length (by omega)
  have hplen := pads_len h xs.length
  have q5 : Upd none_ w w5 := (((u1.and0 u2).trans' u3 fun k hk e => by omega).and0 u4).trans' u5 fun k hk e => by omega
  have hsrc : Src w5 ⟨some ⟨w1.heap.size, 0, none⟩, 1 + padZ (blk h) (2 * wordB h) xs.length + 2 * wordB h, 256⟩ (ints .u8 (pads h xs.length)) := by
    refine ⟨by rw [ints_length, hplen], (show 1 + padZ (blk h) (2 * wordB h) xs.length + 2 * wordB h ≤ 256 by omega), .inr ⟨_, rfl, b5.rd 0 _ fun i v hv => ?_⟩, ints_one⟩
    rw [← hpc, List.getElem?_take] at hv
    split at hv
    · rw [Nat.zero_add]; exact hv
    · cases hv
  obtain ⟨w6, H6, half6, h6, st6, f6, u6⟩ := take_ok hK hk st5 f hC (by omega) (hT.upd q5 fun _ => id) (pads_in h xs.length) (by rw [hplen]; omega) hsrc
    (fun p hp e => by have e1 : p = ⟨w1.heap.size, 0, none⟩ := by simpa using hp.symm
                      rw [e1] at e; simp at e; omega)
    (fun p hp => by have e1 : p = ⟨w1.heap.size, 0, none⟩ := by simpa using hp.symm
                    rw [e1]; exact b5.lt)
  have q6 : Upd none_ w w6 := q5.trans' u6 fun k hk e => by omega
  obtain ⟨w7, h7, o7, u7⟩ := mkS_ok w6 (c := 64) (by decide)
  have h7 : mkS prog 25 (.int .i64 0) (.int .i64 64) w6 = _ := h7
  have st7 := st6.upd u7 id
  have lW := st7.bk.ldA (i := 6) (n := 8) (by rw [seg_length (by rw [stCells_len h _ st7.words st7.len]; exact st7.room)]; have := st7.room; omega)
  have h8 := st7.at8
  rw [Nat.zero_add] at h8
  rw [h8] at lW
  have hs7 := q6.size
  have hs76 := u7.size
  obtain ⟨s8, w8, h8', o8, bl8, f8⟩ := end_l2 hK w6.heap.size hk st7.words (by have := st6.bk.lt; exact this) 8 0 K w7 ⟨some ⟨w6.heap.size, 0, none⟩, 0, 64⟩ rfl (by omega) st7 (by simpa [outW] using o7) (by omega) (fun k hk => by simp [Sl.blk] at hk; omega)
  have h8' : digest_state_end_l2 K K ⟨w.heap.size, 0, none⟩ ⟨some ⟨w6.heap.size, 0, none⟩, 0, 64⟩ (ints .u64 H6).toArray 0 w7 = _ := h8'
  have st8 := st7.upd (upd_of_below bl8) (by have := st6.bk.lt; omega)
  obtain ⟨k2, k0⟩ := st8.ld2 hk
  have hol : s8.len = 8 * wordB h := by rw [o8.len, ints_length, outW_len]
  have hcap := o8.cap
  have hq : ∃ q : Nat, h / 8 = (q : Int) ∧ q ≤ 8 * wordB h ∧ 0 < q := by
    rcases known_cases hk with e | e | e | e <;> subst e
    · exact ⟨28, rfl, by decide, by decide⟩
    · exact ⟨32, rfl, by decide, by decide⟩
    · exact ⟨48, rfl, by decide, by decide⟩
    · exact ⟨64, rfl, by decide, by decide⟩
  obtain ⟨q, hq1, hq2, hq3⟩ := hq
  have hH6 : H6 = compsH h C ((xs ++ pads h xs.length).length / blk h) H0 (xs ++ pads h xs.length) := f6.words
  have hdg : digestOf h C H0 xs = (outW H6 (wordB h) 8).take q := by unfold digestOf; rw [← hH6, hq1]; rfl
  have hdl : (digestOf h C H0 xs).length = q := by rw [hdg, List.length_take, outW_len]; omega
  obtain ⟨g8, cs8, a8, bk8, _, _, hcl, htk⟩ := o8.bk (fun e => by have := congrArg List.length e; rw [ints_length, outW_len] at this; simp at this; omega)
  refine ⟨⟨some ⟨g8, 0, none⟩, q, q⟩, w8, ?_, ⟨⟨g8, cs8, rfl, by have := f8 g8 (by simp [Sl.blk, a8]); omega, bk8, ?_, by rw [hdl]; omega⟩, hdl.symm, hdl.symm⟩, (q6.and0 u7).trans' (upd_of_below bl8) fun k hk e => by omega⟩
  · unfold digest_state_end
    simp only [Nat.zero_add] at l5 m2 m0 k2 k0
    rw [n1, bnd_ok]
    simp only [add_lit, Nat.zero_add, Nat.add_zero, Nat.zero_mul, Nat.sub_zero]
    rw [l5, Option.bind_some, n2, bnd_ok]
    simp only [add_lit, Nat.zero_add, Nat.add_zero, Nat.zero_mul, Nat.sub_zero]
    rw [s3, Option.bind_some, h4, bnd_ok, m2, Option.bind_some]
    simp only [ew, en]
    rw [h5, bnd_ok, if_pos (by omega), Int.toNat_natCast]
    have e0 : sla (some ⟨w1.heap.size, 0, none⟩) 0 256 1 = some ⟨w1.heap.size, 0, none⟩ := by unfold sla; rw [if_neg (by decide)]; rfl
    rw [e0, h6, bnd_ok, h7, bnd_ok]
    have lW : ldA 8 ⟨w.heap.size, 6, none⟩ w7 = some (ints .u64 H6).toArray := lW
    rw [lW, Option.bind_some, h8', bnd_ok, k0, Option.bind_some]
    have e1 : sla s8.a 0 q 1 = s8.a := by
      rw [a8]; unfold sla; rw [if_neg (by omega)]; rfl
    rw [Option.bind_some, hq1, if_pos (by dsimp only; omega), Int.toNat_natCast, if_pos (by omega)]
    dsimp only
    rw [e1, a8]
  · rw [hdl, hdg, ← ints_take, ← htk, List.take_take, Nat.min_eq_left (by omega)]

end Go.Sh

/- 'cofferlaw04.ShredWipes': what the walk computes. -/
import Derived.Test.YtcfolhdacolbjaaBookA
set_option linter.unusedVariables false
namespace Go.Sh
open Go.Fw Go.RowKit Go.Proofs.Try

theorem Wipes_loop (K : Nat) {b s : Sl} {m : Nat} {zs : List Int} (hz : ∀ i (h : i < zs.length), i < m → zs[i] = 0) (hm : m ≤ zs.length) (hs : zs.length < 9223372036854775807) :
    ∀ (d i n : Nat) (w : World), i + d = m → d < n → RdS .u8 w s zs → law04_ShredWipes_l2 K n b (m : Int) s (i : Int) w = some (.norm (), w) := by
  intro d
  induction d with
  | zero =>
    intro i n w hi hn hr
    obtain ⟨n, rfl⟩ : ∃ m, n = m + 1 := ⟨n - 1, by omega⟩
    show law04_ShredWipes_l2_b K (law04_ShredWipes_l2 K n) b (m : Int) s (i : Int) w = _
    simp [law04_ShredWipes_l2_b, show ¬ i < m by omega]
  | succ d ih =>
    intro i n w hi hn hr
    obtain ⟨n, rfl⟩ : ∃ m, n = m + 1 := ⟨n - 1, by omega⟩
    obtain ⟨p, hp, hpl⟩ := hr.ld
    have hne : zs ≠ [] := fun e => by rw [e] at hm; simp at hm; omega
    have him : i < m := by omega
    have hil : i < zs.length := by omega
    have l1 := hpl i hil
    rw [hz i hil him] at l1
    have hw : IntKind.i64.wrap ((i : Int) + 1) = ((i + 1 : Nat) : Int) := by rw [w64 (by omega) (by omega)]; rfl
    show law04_ShredWipes_l2_b K (law04_ShredWipes_l2 K n) b (m : Int) s (i : Int) w = _
    simp only [law04_ShredWipes_l2_b, Int.ofNat_lt, him, hil, hr.len, decide_true, if_true, hp hne, Option.bind_some, Int.natCast_nonneg, and_self, Int.toNat_natCast, Nat.mul_one, l1, bne_self_eq_false, Bool.false_eq_true, if_false, hw]
    exact ih (i + 1) n w (by omega) (by omega) hr

theorem ShredWipes_ok {K : Nat} (hK : 18446744073709551616 ≤ K) {b : Sl} {bs : List Int} {n : Int} {w : World} (hb : Src w b (ints .u8 bs)) (hl : bs.length ≤ 140737488351232) :
    ∃ w', law04_ShredWipes K b n w = some ((true, ()), w') ∧ Upd none_ w w' := by
  have hlen : b.len = bs.length := by simpa using hb.len
  obtain ⟨s1, w1, h1, l1, o1, u1, b1⟩ := apd_ok sliceB (Own.nil 5 w) hb (by show (0 + b.len) * 1 ≤ _; omega)
  obtain ⟨w2, h2, o2, u2, z2⟩ := bldS_ok sliceB (ints .u8 [9, 8, 7]) (by simp [ints, Value.cells]) (by simp) (by simp) w1
  have o1' : Own 5 w2 s1 (ints .u8 bs) := o1.upd0 u2
  have hl1 : s1.len = bs.length := by rw [l1]; show 0 + b.len = _; omega
  obtain ⟨s3, w3, h3, l3, o3, u3, b3⟩ := apd_ok sliceB o1' (o2.src ints_one) (by show (s1.len + 3) * 1 ≤ _; omega)
  rw [← ints_append] at o3
  have hl3 : s3.len = bs.length + 3 := by rw [l3]; show s1.len + 3 = _; omega
  have hB1 : w.heap.size ≤ w1.heap.size := u1.size
  have hf1 : ∀ k, s1.blk = some k → w.heap.size ≤ k := by
    intro k hk
    rcases b1 with e | e
    · rw [e] at hk; cases hk
    · rw [e] at hk; have := Option.some.inj hk; omega
  have hf3 : ∀ k, s3.blk = some k → w.heap.size ≤ k := by
    intro k hk
    rcases b3 with e | e
    · exact hf1 k (e ▸ hk)
    · rw [e] at hk; have := Option.some.inj hk; have := u2.size; omega
  have q3 : Upd none_ w w3 := ((u1.mono fun k _ e => by cases e).and0 u2).trans' u3 fun k hk e => by have := hf1 k e; omega
  -- how much is wiped
  obtain ⟨m, hm, hml⟩ : ∃ m : Nat, m ≤ bs.length ∧ bnd (law04_ShredWipes_s0 K b n w3) (fun y w' => law04_ShredWipes_s1 K b n y.1 w') = some (((m : Int), ()), w3) := by
    unfold law04_ShredWipes_s0 law04_ShredWipes_s1
    rw [hlen]
    by_cases c1 : n < 0
    · exact ⟨bs.length, Nat.le_refl _, by simp [c1]⟩
    · by_cases c2 : n > (bs.length : Int)
      · exact ⟨bs.length, Nat.le_refl _, by simp [c1, c2]⟩
      · refine ⟨n.toNat, by omega, ?_⟩
        have : ((n.toNat : Nat) : Int) = n := by omega
        simp [c1, c2, this]
  obtain ⟨y1, wa, hs0, hml⟩ := bnd_some hml
  -- the wiping
  obtain ⟨w4, h4, o4, u4⟩ := clr_ok sliceB rfl o3 (n := m) (by omega) s3.cap
  have o4 : Own 5 w4 s3 (ints .u8 (List.replicate m 0 ++ (bs ++ [9, 8, 7]).drop m)) := by
    have : ints .u8 (List.replicate m 0 ++ (bs ++ [9, 8, 7]).drop m) = List.replicate m (.int .u8 0) ++ (ints .u8 (bs ++ [9, 8, 7])).drop m := by simp [ints, List.map_drop]
    rw [this]; exact o4
  have q4 : Upd none_ w w4 := q3.trans' u4 fun k hk e => by have := hf3 k e; omega
  have hzl : (List.replicate m 0 ++ (bs ++ [9, 8, 7]).drop m : List Int).length = bs.length + 3 := by simp; omega
  have h5 := Wipes_loop K (b := b) (s := s3) (m := m) (zs := List.replicate m 0 ++ (bs ++ [9, 8, 7]).drop m) (fun i h hi => by simp [List.getElem_append, hi]) (by omega) (by omega) m 0 K w4 (by omega) (by omega) o4.rd
  have h5 : law04_ShredWipes_l2 K K b (m : Int) s3 0 w4 = _ := h5
  -- what is behind
  have r4 := o4.rd.drew
  have hc3 := o3.cap.1
  have rb := ((hb.upd0 q4).rds).drew
  have e1 : (List.replicate m 0 ++ (bs ++ [9, 8, 7]).drop m : List Int) = List.replicate m 0 ++ (bs.drop m ++ [9, 8, 7]) := by
    rw [List.drop_append_of_le_length hm]
  have rest := r4.sub (lo := m) (hi := bs.length + 3) (by omega) (by omega)
  rw [e1, List.take_of_length_le (by simp; omega), List.drop_left' (by simp)] at rest
  have hRl : (bs.drop m ++ [9, 8, 7] : List Int).length = bs.length - m + 3 := by simp
  have ra := rest.sub (lo := 0) (hi := bs.length - m) (by omega) (by omega)
  rw [List.drop_zero, List.take_append_of_le_length (by simp), List.take_of_length_le (by simp)] at ra
  have rbb := rb.sub (lo := m) (hi := bs.length) hm (Nat.le_refl _)
  rw [List.take_length] at rbb
  obtain ⟨w5, h6, u5⟩ := SameBytes_ok hK ra rbb (by simp; omega)
  have q5 : Upd none_ w w5 := q4.drew.and0 u5
  obtain ⟨w6, h7, o6, u6, z6⟩ := bldS_ok sliceB (ints .u8 [9, 8, 7]) (by simp [ints, Value.cells]) (by simp) (by simp) w5
  have rz := ((rest.upd0 u5).upd0 u6).sub (lo := bs.length - m) (hi := bs.length - m + 3) (by omega) (by omega)
  rw [List.take_of_length_le (by omega), List.drop_left' (by simp)] at rz
  obtain ⟨w7, h8, u7⟩ := SameBytes_ok hK rz o6.rd (by simp)
  refine ⟨w7, ?_, (q5.and0 u6).and0 u7⟩
  have hw : IntKind.i64.wrap (((bs.length + 3 - m : Nat) : Int) - 3) = ((bs.length - m : Nat) : Int) := by rw [w64 (by omega) (by omega)]; omega
  have c1 : (0 : Int) ≤ (m : Int) ∧ (m : Int) ≤ ((s3.cap : Nat) : Int) := by omega
  have c2 : (0 : Int) ≤ (m : Int) ∧ (m : Int) ≤ ((bs.length + 3 : Nat) : Int) := by omega
  have c3 : (0 : Int) ≤ ((bs.length - m : Nat) : Int) ∧ ((bs.length - m : Nat) : Int) ≤ ((s3.cap - m : Nat) : Int) := by omega
  have c4 : (0 : Int) ≤ (m : Int) ∧ (m : Int) ≤ ((bs.length : Nat) : Int) := by omega
  have c5 : (0 : Int) ≤ ((bs.length - m : Nat) : Int) ∧ ((bs.length - m : Nat) : Int) ≤ ((bs.length + 3 - m : Nat) : Int) := by omega
  have h1' : apd prog 25 25 (.slice none 0 0) (.slice b.a b.len b.cap) w = some (s1, w1) := h1
  have h2' : bldS prog 25 3 #[(0, (.int .u8 9)), (1, (.int .u8 8)), (2, (.int .u8 7))] w1 = _ := h2
  have h3' : apd prog 25 25 (.slice s1.a s1.len s1.cap) (.slice (some ⟨w1.heap.size, 0, none⟩) 3 3) w2 = _ := h3
  have h7' : bldS prog 25 3 #[(0, (.int .u8 9)), (1, (.int .u8 8)), (2, (.int .u8 7))] w5 = _ := h7
  have h4' : shred_Wipe ⟨s3.a, m, s3.cap⟩ w3 = some ((), w4) := by simp only [shred_Wipe, h4, bnd_ok]
  have e5 : bs.length + 3 - m - (bs.length - m) = bs.length - m + 3 - (bs.length - m) := by omega
  simp only [List.length_map, List.length_cons, List.length_nil, Nat.zero_add, Nat.reduceAdd] at h2' h7' h8
  have hml' : law04_ShredWipes_s1 K b n y1.1 wa = some (((m : Int), ()), w3) := hml
  simp only [List.length_append, List.length_drop, List.length_cons, List.length_nil, Nat.zero_add, Nat.reduceAdd, sla_zero, Nat.sub_zero, hl3, hlen, decide_true] at h6 h8
  rw [hlen] at h1'
  unfold law04_ShredWipes
  rw [hlen, h1', bnd_ok, h2', bnd_ok, h3', bnd_ok, hs0, bnd_ok, hml', bnd_ok, if_pos c1]
  simp only [sla_zero, Int.toNat_natCast, Nat.sub_zero]
  rw [h4', bnd_ok, h5, bnd_ok]
  simp only [hl3, hw]
  rw [if_pos c2, if_pos c3, if_pos c4]
  simp only [Int.toNat_natCast, Nat.sub_zero, sla_zero]
  rw [h6, bnd_ok, if_pos rfl, if_pos c5, h7', bnd_ok]
  rw [e5, h8, bnd_ok]

end Go.Sh

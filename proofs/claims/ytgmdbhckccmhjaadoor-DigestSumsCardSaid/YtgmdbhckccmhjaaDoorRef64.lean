/- The document's own answer: taken64: what it computes. -/
import Derived.Test.YtgmdbhckccmhjaaDoorRef32
import Derived.Test.YtgmdbhckccmhjaaDoorSh3
set_option linter.unusedVariables false
namespace Go.Sh
open Go.Fw Go.Sha Go.RowKit Go.Proofs.Tryd

theorem ref64_l1 (K : Nat) {b : Sl} {bs : List Int} (hbl : bs.length = 128) {h2 a4 : Addr} {gw i : Nat} (hi16 : i < 16) (hne : ∀ p, b.a = some p → p.block ≠ gw) {v : Int} {ws : List Int} (hws : ws.length = 80) :
    ∀ (d j n : Nat) (w : World), j + d = 8 → d < n → RdS .u8 w b bs → Bk 125 w gw (ints .u64 (ws.set i (word64 v bs (8 * i) j))) →
      ∃ w', ref01_taken64_l1 K n b h2 a4 ⟨gw, 0, none⟩ (i : Int) (j : Int) w = some ((), w') ∧ Bk 125 w' gw (ints .u64 (ws.set i (word64 v bs (8 * i) 8))) ∧ Upd (· = gw) w w' := by
  intro d
  induction d with
  | zero =>
    intro j n w hj hn hr hb
    obtain ⟨n, rfl⟩ : ∃ m, n = m + 1 := ⟨n - 1, by omega⟩
    have : j = 8 := by omega
    subst this
    refine ⟨w, ?_, hb, Upd.refl _ _⟩
    show ref01_taken64_l1_b K (ref01_taken64_l1 K n) b h2 a4 ⟨gw, 0, none⟩ (i : Int) ((8 : Nat) : Int) w = _
    simp [ref01_taken64_l1_b]
  | succ d ih =>
    intro j n w hj hn hr hb
    obtain ⟨n, rfl⟩ : ∃ m, n = m + 1 := ⟨n - 1, by omega⟩
    obtain ⟨p, hp, hl⟩ := rdD hr.drew
    have hxn : bs ≠ [] := fun e => by rw [e] at hbl; cases hbl
    have hlen := hr.len
    have hd : decide ((j : Int) < 8) = true := by simp; omega
    have e1 : IntKind.i64.wrap ((j : Int) + 1) = ((j + 1 : Nat) : Int) := by rw [w64 (by omega) (by omega)]; rfl
    have e8 : IntKind.i64.wrap (8 * (i : Int)) = ((8 * i : Nat) : Int) := by rw [w64 (by omega) (by omega)]; omega
    have e8j : IntKind.i64.wrap (((8 * i : Nat) : Int) + (j : Int)) = ((8 * i + j : Nat) : Int) := by rw [w64 (by omega) (by omega)]; omega
    have c1 : (0 : Int) ≤ ((8 * i + j : Nat) : Int) ∧ ((8 * i + j : Nat) : Int) < ((b.len : Nat) : Int) := by omega
    have c2 : (0 : Int) ≤ (i : Int) ∧ (i : Int) < ((80 : Nat) : Int) := by omega
    have lx := hl (8 * i + j) (by omega)
    have lw : ldI .u64 ⟨gw, i, none⟩ w.drew = some (word64 v bs (8 * i) j) := hb.drew.ldI (by simp [ints, hws, show i < 80 by omega])
    obtain ⟨w1, s1, s2, s3⟩ := hb.drew.stC (i := i) (by rw [ints_length, List.length_set, hws]; omega) (.int .u64 (word64 v bs (8 * i) (j + 1)))
    rw [ints_set, List.set_set] at s2
    obtain ⟨w2, h1, h2', h3⟩ := ih (j + 1) n w1 (by omega) (by omega) (hr.drew.upd s3 fun q hq e => hne q hq e) s2
    refine ⟨w2, ?_, h2', s3.predrew.trans' h3 fun _ _ e => e⟩
    show ref01_taken64_l1_b K (ref01_taken64_l1 K n) b h2 a4 ⟨gw, 0, none⟩ (i : Int) (j : Int) w = _
    unfold ref01_taken64_l1_b
    rw [hd, if_pos rfl, if_pos c2, hp hxn, Option.bind_some, e8, e8j, if_pos c1]
    simp only [Int.toNat_natCast, add_lit, Nat.mul_one, Nat.zero_add]
    rw [lw, Option.bind_some, lx, Option.bind_some, if_pos c2]
    show (stC ⟨gw, i, none⟩ (.int .u64 (word64 v bs (8 * i) (j + 1))) w.drew).bind _ = _
    rw [s1, Option.bind_some, e1, h1]

theorem ref64_l0 {K : Nat} (hK : 18446744073709551616 ≤ K) {b : Sl} {bs : List Int} (hin : ∀ i, InK .u8 (bs.getD i 0)) (hbl : bs.length = 128) {h2 a4 : Addr} {gw : Nat} (hne : ∀ p, b.a = some p → p.block ≠ gw) :
    ∀ (d i n : Nat) (w : World) (ws : List Int), i + d = 16 → d < n → RdS .u8 w b bs → Bk 125 w gw (ints .u64 ws) → ws.length = 80 → ws.take i = words64 bs i →
      ∃ w' ws', ref01_taken64_l0 K n b h2 a4 ⟨gw, 0, none⟩ (i : Int) w = some ((), w') ∧ Bk 125 w' gw (ints .u64 ws') ∧ ws'.length = 80 ∧ ws'.take 16 = words64 bs 16 ∧ Upd (· = gw) w w' := by
  intro d
  induction d with
  | zero =>
    intro i n w ws hi hn hr hb hc ht
    obtain ⟨n, rfl⟩ : ∃ m, n = m + 1 := ⟨n - 1, by omega⟩
    have : i = 16 := by omega
    subst this
    refine ⟨w, ws, ?_, hb, hc, ht, Upd.refl _ _⟩
    show ref01_taken64_l0_b K (ref01_taken64_l0 K n) b h2 a4 ⟨gw, 0, none⟩ ((16 : Nat) : Int) w = _
    simp [ref01_taken64_l0_b]
  | succ d ih =>
    intro i n w ws hi hn hr hb hc ht
    obtain ⟨n, rfl⟩ : ∃ m, n = m + 1 := ⟨n - 1, by omega⟩
    have hd : decide ((i : Int) < 16) = true := by simp; omega
    have e1 : IntKind.i64.wrap ((i : Int) + 1) = ((i + 1 : Nat) : Int) := by rw [w64 (by omega) (by omega)]; rfl
    have hb0 : Bk 125 w gw (ints .u64 (ws.set i (word64 (ws.getD i 0) bs (8 * i) 0))) := by
      have : ws.set i (word64 (ws.getD i 0) bs (8 * i) 0) = ws := by
        show ws.set i (ws.getD i 0) = ws
        rw [List.getD_eq_getElem?_getD, List.getElem?_eq_getElem (show i < ws.length by omega)]
        exact List.set_getElem_self _
      rw [this]; exact hb
    obtain ⟨w1, h1, b1, u1⟩ := ref64_l1 K (h2 := h2) (a4 := a4) hbl (i := i) (by omega) hne (v := ws.getD i 0) hc 8 0 K w rfl (by omega) hr hb0
    have h1 : ref01_taken64_l1 K K b h2 a4 ⟨gw, 0, none⟩ (i : Int) 0 w = _ := h1
    rw [word64_any hin] at b1
    have ht1 : (ws.set i (word64 0 bs (8 * i) 8)).take (i + 1) = words64 bs (i + 1) := by
      rw [List.take_add_one, List.take_set_of_le (Nat.le_refl _), ht]
      simp [words64, show i < ws.length by omega]
    obtain ⟨w2, ws2, h3, b2, l2, t2, u2⟩ := ih (i + 1) n w1 _ (by omega) (by omega) (hr.upd u1 fun q hq e => hne q hq e) b1 (by simpa using hc) ht1
    refine ⟨w2, ws2, ?_, b2, l2, t2, u1.trans' u2 fun _ _ e => e⟩
    show ref01_taken64_l0_b K (ref01_taken64_l0 K n) b h2 a4 ⟨gw, 0, none⟩ (i : Int) w = _
    unfold ref01_taken64_l0_b
    rw [hd, if_pos rfl, h1, bnd_ok, e1, h3]

theorem ref64_l2 (K : Nat) {h2 a4 : Addr} {gw : Nat} :
    ∀ (d n : Nat) (w : World) (cs : List Value) (S : List Int), S.length + d = 80 → 16 ≤ S.length → d < n → Bk 125 w gw cs → cs.length = 80 → cs.take S.length = ints .u64 S →
      ∃ w' cs', ref01_taken64_l2 K n h2 a4 ⟨gw, 0, none⟩ ((S.length : Nat) : Int) w = some ((), w') ∧ Bk 125 w' gw cs' ∧ cs' = ints .u64 (ext64 d S) ∧ Upd (· = gw) w w' := by
  intro d
  induction d with
  | zero =>
    intro n w cs S hi h16 hn hb hc ht
    obtain ⟨n, rfl⟩ : ∃ m, n = m + 1 := ⟨n - 1, by omega⟩
    have hS : S.length = 80 := by omega
    refine ⟨w, cs, ?_, hb, ?_, Upd.refl _ _⟩
    · show ref01_taken64_l2_b K (ref01_taken64_l2 K n) h2 a4 ⟨gw, 0, none⟩ ((S.length : Nat) : Int) w = _
      rw [hS]
      simp [ref01_taken64_l2_b]
    · rw [hS, List.take_of_length_le (by omega)] at ht; exact ht
  | succ d ih =>
    intro n w cs S hi h16 hn hb hc ht
    obtain ⟨n, rfl⟩ : ∃ m, n = m + 1 := ⟨n - 1, by omega⟩
    have hd : decide (((S.length : Nat) : Int) < 80) = true := by simp; omega
    have e15 : IntKind.i64.wrap (((S.length : Nat) : Int) - 15) = ((S.length - 15 : Nat) : Int) := by rw [w64 (by omega) (by omega)]; omega
    have e2 : IntKind.i64.wrap (((S.length : Nat) : Int) - 2) = ((S.length - 2 : Nat) : Int) := by rw [w64 (by omega) (by omega)]; omega
    have e16 : IntKind.i64.wrap (((S.length : Nat) : Int) - 16) = ((S.length - 16 : Nat) : Int) := by rw [w64 (by omega) (by omega)]; omega
    have e7 : IntKind.i64.wrap (((S.length : Nat) : Int) - 7) = ((S.length - 7 : Nat) : Int) := by rw [w64 (by omega) (by omega)]; omega
    have e1 : IntKind.i64.wrap (((S.length : Nat) : Int) + 1) = ((S.length + 1 : Nat) : Int) := by rw [w64 (by omega) (by omega)]; rfl
    have c15 : (0 : Int) ≤ ((S.length - 15 : Nat) : Int) ∧ ((S.length - 15 : Nat) : Int) < ((80 : Nat) : Int) := by omega
    have c2 : (0 : Int) ≤ ((S.length - 2 : Nat) : Int) ∧ ((S.length - 2 : Nat) : Int) < ((80 : Nat) : Int) := by omega
    have c16 : (0 : Int) ≤ ((S.length - 16 : Nat) : Int) ∧ ((S.length - 16 : Nat) : Int) < ((80 : Nat) : Int) := by omega
    have c7 : (0 : Int) ≤ ((S.length - 7 : Nat) : Int) ∧ ((S.length - 7 : Nat) : Int) < ((80 : Nat) : Int) := by omega
    have c0 : (0 : Int) ≤ ((S.length : Nat) : Int) ∧ ((S.length : Nat) : Int) < ((80 : Nat) : Int) := by omega
    have l15 := hb.ldI (row_front ht (i := S.length - 15) (by omega))
    have l2 := hb.ldI (row_front ht (i := S.length - 2) (by omega))
    have l16 := hb.drew.ldI (row_front ht (i := S.length - 16) (by omega))
    have l7 := hb.drew.ldI (row_front ht (i := S.length - 7) (by omega))
    let x := sch64 (S.getD (S.length - 15) 0) (S.getD (S.length - 2) 0) (S.getD (S.length - 16) 0) (S.getD (S.length - 7) 0)
    obtain ⟨w1, s1, s2, s3⟩ := hb.drew.stC (i := S.length) (by omega) (.int .u64 x)
    have hfs := front_set ht (by omega) x
    have hSl : (S ++ [x]).length = S.length + 1 := by simp
    obtain ⟨w2, cs2, h1, b2, h4, h5⟩ := ih n w1 _ (S ++ [x]) (by rw [hSl]; omega) (by rw [hSl]; omega) (by omega) s2 (by simpa using hc) hfs
    rw [hSl] at h1
    refine ⟨w2, cs2, ?_, b2, by rw [h4]; rfl, s3.predrew.trans' h5 fun _ _ e => e⟩
    show ref01_taken64_l2_b K (ref01_taken64_l2 K n) h2 a4 ⟨gw, 0, none⟩ ((S.length : Nat) : Int) w = _
    unfold ref01_taken64_l2_b
    rw [hd, if_pos rfl, e15, e2, e16, e7]
    simp only [Int.toNat_natCast, add_lit, Nat.mul_one, Nat.zero_add]
    rw [if_pos c15, l15, Option.bind_some, if_pos c2, l2, Option.bind_some, if_pos c7, if_pos c16, l7, Option.bind_some, l16, Option.bind_some, if_pos c0]
    have r19 : bits .or .u64 (Int.fdiv (S.getD (S.length - 2) 0) (2 ^ 19)) (IntKind.u64.wrap ((S.getD (S.length - 2) 0) * 2 ^ 45)) = rr64 (S.getD (S.length - 2) 0) 19 := rr64_or _ 19
    have r61 : bits .or .u64 (Int.fdiv (S.getD (S.length - 2) 0) (2 ^ 61)) (IntKind.u64.wrap ((S.getD (S.length - 2) 0) * 2 ^ 3)) = rr64 (S.getD (S.length - 2) 0) 61 := rr64_or _ 61
    have r1 : bits .or .u64 (Int.fdiv (S.getD (S.length - 15) 0) (2 ^ 1)) (IntKind.u64.wrap ((S.getD (S.length - 15) 0) * 2 ^ 63)) = rr64 (S.getD (S.length - 15) 0) 1 := rr64_or _ 1
    have r8 : bits .or .u64 (Int.fdiv (S.getD (S.length - 15) 0) (2 ^ 8)) (IntKind.u64.wrap ((S.getD (S.length - 15) 0) * 2 ^ 56)) = rr64 (S.getD (S.length - 15) 0) 8 := rr64_or _ 8
    rw [r19, r61, r1, r8]
    have hx := sch64_ref (S.getD (S.length - 15) 0) (S.getD (S.length - 2) 0) (S.getD (S.length - 16) 0) (S.getD (S.length - 7) 0)
    rw [hx, s1, Option.bind_some, e1, h1]

theorem ref64_l3 (K : Nat) {h2 a4 : Addr} {gw : Nat} {W C : List Int} (hW : W.length = 80) (hC : C.length = 80) :
    ∀ (m i n : Nat) (w : World) (a b c d e f g z : Int), i + m = 80 → m < n → Bk 125 w gw (ints .u64 W) → Rd w ⟨1, 0, none⟩ (ints .u64 C) →
      ∃ w', ref01_taken64_l3 K n h2 a4 ⟨gw, 0, none⟩ a b c d e f g z (i : Int) w = some (rounds64 W C m i a b c d e f g z, w') ∧ Upd none_ w w' := by
  intro m
  induction m with
  | zero =>
    intro i n w a b c d e f g z hi hn hb hk
    obtain ⟨n, rfl⟩ : ∃ m, n = m + 1 := ⟨n - 1, by omega⟩
    have : i = 80 := by omega
    subst this
    refine ⟨w, ?_, Upd.refl _ _⟩
    show ref01_taken64_l3_b K (ref01_taken64_l3 K n) h2 a4 ⟨gw, 0, none⟩ a b c d e f g z ((80 : Nat) : Int) w = _
    simp [ref01_taken64_l3_b, rounds64]
  | succ m ih =>
    intro i n w a b c d e f g z hi hn hb hk
    obtain ⟨n, rfl⟩ : ∃ m, n = m + 1 := ⟨n - 1, by omega⟩
    have hd : decide ((i : Int) < 80) = true := by simp; omega
    have e1 : IntKind.i64.wrap ((i : Int) + 1) = ((i + 1 : Nat) : Int) := by rw [w64 (by omega) (by omega)]; rfl
    have c64 : (0 : Int) ≤ (i : Int) ∧ (i : Int) < ((80 : Nat) : Int) := by omega
    have lk : ldI .u64 ⟨1, i, none⟩ w.drew = some (C.getD i 0) := by
      have := hk i (.int .u64 (C.getD i 0)) (by simp [ints, List.getD_eq_getElem?_getD, show i < C.length by omega])
      rw [add_lit, Nat.zero_add] at this
      have h9 : w.drew.cell? ⟨1, i, none⟩ = some (.int .u64 (C.getD i 0)) := this
      simp [ldI, h9, asI]
    have lw : ldI .u64 ⟨gw, i, none⟩ w.drew = some (W.getD i 0) := hb.drew.ldI (by simp [ints, List.getD_eq_getElem?_getD, show i < W.length by omega])
    obtain ⟨w1, h1, u1⟩ := ih (i + 1) n w.drew (IntKind.u64.wrap (t1_64 e f g z (C.getD i 0) (W.getD i 0) + t2_64 a b c)) a b c
      (IntKind.u64.wrap (d + t1_64 e f g z (C.getD i 0) (W.getD i 0))) e f g (by omega) (by omega) hb.drew (hk.upd (S := none_) (Upd.refl _ _).drew fun _ => id)
    refine ⟨w1, ?_, u1.predrew⟩
    show ref01_taken64_l3_b K (ref01_taken64_l3 K n) h2 a4 ⟨gw, 0, none⟩ a b c d e f g z (i : Int) w = _
    unfold ref01_taken64_l3_b
    rw [hd, if_pos rfl, if_pos c64, if_pos c64]
    simp only [Int.toNat_natCast, add_lit, Nat.mul_one, Nat.zero_add]
    rw [lk, Option.bind_some, lw, Option.bind_some, e1]
    have r14 : bits .or .u64 (Int.fdiv e (2 ^ 14)) (IntKind.u64.wrap (e * 2 ^ 50)) = rr64 e 14 := rr64_or e 14
    have r18 : bits .or .u64 (Int.fdiv e (2 ^ 18)) (IntKind.u64.wrap (e * 2 ^ 46)) = rr64 e 18 := rr64_or e 18
    have r41 : bits .or .u64 (Int.fdiv e (2 ^ 41)) (IntKind.u64.wrap (e * 2 ^ 23)) = rr64 e 41 := rr64_or e 41
    have r28 : bits .or .u64 (Int.fdiv a (2 ^ 28)) (IntKind.u64.wrap (a * 2 ^ 36)) = rr64 a 28 := rr64_or a 28
    have r34 : bits .or .u64 (Int.fdiv a (2 ^ 34)) (IntKind.u64.wrap (a * 2 ^ 30)) = rr64 a 34 := rr64_or a 34
    have r39 : bits .or .u64 (Int.fdiv a (2 ^ 39)) (IntKind.u64.wrap (a * 2 ^ 25)) = rr64 a 39 := rr64_or a 39
    rw [r14, r18, r41, r28, r34, r39, ch_or (k := .u64) rfl _ all64, maj_or (k := .u64) rfl]
    exact h1

theorem taken64_ok {K : Nat} (hK : 18446744073709551616 ≤ K) {w : World} {b : Sl} {bs V C : List Int} (hin : ∀ i, InK .u8 (bs.getD i 0)) (hbl : bs.length = 128) (hV : V.length = 8) (hC : C.length = 80) (hbv : ∀ p, b.a = some p → p.block < w.heap.size) (hr : RdS .u8 w b bs) (hT : Rd w ⟨1, 0, none⟩ (ints .u64 C)) :
    ∃ w', ref01_taken64 K (ints .u64 V).toArray b w = some (((ints .u64 (comp64 C V bs)).toArray, ()), w') ∧ Upd none_ w w' := by
  have hRC : 1 < w.heap.size := hT.lt (fun e => by have := congrArg List.length e; simp [hC] at this)
  obtain ⟨w1, n1, b1, u1, z1⟩ := newB_ok (ints .u64 V).toArray 80 w
  obtain ⟨w2, n2, b2, u2, z2⟩ := newB_ok z80 80 w1
  obtain ⟨w3, n3, b3, u3, z3⟩ := newB_ok z125 125 w2
  have b1 : Bk 80 w1 w.heap.size (ints .u64 V) := b1
  have b2 : Bk 80 w2 w1.heap.size z80.toList := b2
  have b3 : Bk 125 w3 w2.heap.size (ints .u64 (List.replicate 80 0)) := by
    have e : z125.toList = ints .u64 (List.replicate 80 0) := by simp [z125, ints]
    rw [← e]; exact b3
  have q3 : Upd none_ w w3 := (u1.and0 u2).and0 u3
  obtain ⟨w5, c5, h5, b5, l5, t5, u5⟩ := ref64_l0 hK (h2 := ⟨w.heap.size, 0, none⟩) (a4 := ⟨w1.heap.size, 0, none⟩) hin hbl (gw := w2.heap.size) (fun p hp e => by have := hbv p hp; omega) 16 0 K w3 (List.replicate 80 0) rfl (by omega) (hr.upd0 q3) b3 (by simp) (by simp [words64])
  have h5 : ref01_taken64_l0 K K b ⟨w.heap.size, 0, none⟩ ⟨w1.heap.size, 0, none⟩ ⟨w2.heap.size, 0, none⟩ 0 w3 = _ := h5
  obtain ⟨w6, c6, h6, b6, t6, u6⟩ := ref64_l2 K (h2 := ⟨w.heap.size, 0, none⟩) (a4 := ⟨w1.heap.size, 0, none⟩) 64 K w5 (ints .u64 c5) (words64 bs 16) (by rw [words64_len]) (by rw [words64_len]; decide) (by omega) b5 (by rw [ints_length]; exact l5) (by rw [words64_len, ints_take, t5])
  rw [words64_len] at h6
  have h6 : ref01_taken64_l2 K K ⟨w.heap.size, 0, none⟩ ⟨w1.heap.size, 0, none⟩ ⟨w2.heap.size, 0, none⟩ 16 w5 = _ := h6
  rw [t6] at b6
  have n13 : ¬ w.heap.size = w2.heap.size := by omega
  have n23 : ¬ w1.heap.size = w2.heap.size := by omega
  have bV : Bk 80 w6 w.heap.size (ints .u64 V) := ((((b1.upd0 u2).upd0 u3).upd u5 n13).upd u6 n13)
  have bO : Bk 80 w6 w1.heap.size z80.toList := (((b2.upd0 u3).upd u5 n23).upd u6 n23)
  have q6 : Upd none_ w w6 := (q3.trans' u5 fun k hk e => by omega).trans' u6 fun k hk e => by omega
  have gv : ∀ i, i < 8 → (ints .u64 V)[i]? = some (.int .u64 (V.getD i 0)) := fun i hi => by
    have : i < V.length := by omega
    rw [ints, List.getElem?_map, List.getElem?_eq_getElem this, List.getD_eq_getElem?_getD, List.getElem?_eq_getElem this]; rfl
  have h7x := ref64_l3 K (h2 := ⟨w.heap.size, 0, none⟩) (a4 := ⟨w1.heap.size, 0, none⟩) (gw := w2.heap.size) (W := ext64 64 (words64 bs 16)) (C := C) (by rw [ext64_len, words64_len]) hC 80 0 K w6.drew.drew (V.getD 0 0) (V.getD 1 0) (V.getD 2 0) (V.getD 3 0) (V.getD 4 0) (V.getD 5 0) (V.getD 6 0) (V.getD 7 0) rfl (by omega) b6.drew.drew (hT.upd (S := none_) q6.drew.drew fun _ => id)
  obtain ⟨y, hy⟩ : ∃ y, rv64 C V bs = y := ⟨_, rfl⟩
  unfold rv64 at hy
  rw [hy] at h7x
  obtain ⟨w7, h7, u7⟩ := h7x
  have h7 : ref01_taken64_l3 K K ⟨w.heap.size, 0, none⟩ ⟨w1.heap.size, 0, none⟩ ⟨w2.heap.size, 0, none⟩ (V.getD 0 0) (V.getD 1 0) (V.getD 2 0) (V.getD 3 0) (V.getD 4 0) (V.getD 5 0) (V.getD 6 0) (V.getD 7 0) 0 w6.drew.drew = some (y, w7) := h7
  have hc : comp64 C V bs = sum8w V (list8 y) := by unfold comp64 rv64; rw [hy]
  have hl8 : (ints .u64 (sum8w V (list8 y))).length = 8 := by simp [ints, sum8w]
  have bV7 : Bk 80 w7 w.heap.size (ints .u64 V) := bV.drew.drew.upd0 u7
  have bO7 : Bk 80 w7 w1.heap.size z80.toList := bO.drew.drew.upd0 u7
  obtain ⟨w8, a1, a2, a3, a4⟩ := lay' bO7 (vs := ints .u64 (sum8w V (list8 y))) (by rw [hl8]; rfl) ints_one
  rw [hl8] at a4
  have hsum : [IntKind.u64.wrap (V.getD 0 0 + y.1), IntKind.u64.wrap (V.getD 1 0 + y.2.1), IntKind.u64.wrap (V.getD 2 0 + y.2.2.1), IntKind.u64.wrap (V.getD 3 0 + y.2.2.2.1), IntKind.u64.wrap (V.getD 4 0 + y.2.2.2.2.1), IntKind.u64.wrap (V.getD 5 0 + y.2.2.2.2.2.1), IntKind.u64.wrap (V.getD 6 0 + y.2.2.2.2.2.2.1), IntKind.u64.wrap (V.getD 7 0 + y.2.2.2.2.2.2.2.1)] = sum8w V (list8 y) := rfl
  refine ⟨w8, ?_, ?_⟩
  · unfold ref01_taken64
    rw [n1, bnd_ok, n2, bnd_ok, n3, bnd_ok, h5, bnd_ok, h6, bnd_ok]
    simp only [add_lit, Nat.zero_mul, Nat.one_mul, Nat.add_zero, Nat.zero_add, Nat.reduceMul]
    rw [bV.drew.ldI (gv 0 (by decide)), Option.bind_some, bV.drew.ldI (gv 1 (by decide)), Option.bind_some, bV.drew.ldI (gv 2 (by decide)), Option.bind_some, bV.drew.ldI (gv 3 (by decide)), Option.bind_some,
      bV.drew.drew.ldI (gv 4 (by decide)), Option.bind_some, bV.drew.drew.ldI (gv 5 (by decide)), Option.bind_some, bV.drew.drew.ldI (gv 6 (by decide)), Option.bind_some, bV.drew.drew.ldI (gv 7 (by decide)), Option.bind_some,
      h7, bnd_ok, bV7.ldI (gv 0 (by decide)), Option.bind_some, bV7.ldI (gv 1 (by decide)), Option.bind_some, bV7.ldI (gv 2 (by decide)), Option.bind_some, bV7.ldI (gv 3 (by decide)), Option.bind_some,
      bV7.ldI (gv 4 (by decide)), Option.bind_some, bV7.ldI (gv 5 (by decide)), Option.bind_some, bV7.ldI (gv 6 (by decide)), Option.bind_some, bV7.ldI (gv 7 (by decide)), Option.bind_some, built80, Option.bind_some, hsum,
      if_pos (by rw [List.size_toArray, hl8]), a1, Option.bind_some, a4, Option.bind_some, hc]
  · exact (q6.drew.drew.and0 u7).trans' a3 fun k hk e => by omega

end Go.Sh

/- Package digest: wide takes blocks: what it computes. -/
import Derived.Test.YtgmdbhckccmhjaaDoorSpec64
import Derived.Test.YtgmdbhckccmhjaaDoorNarrow
set_option linter.unusedVariables false
namespace Go.Sh
open Go.Fw Go.Sha Go.RowKit Go.Proofs.Tryd

theorem neg_and63 : ∀ n : Nat, n < 64 → 0 < n → bits .and .u64 (IntKind.u64.wrap (-(n : Int))) 63 = ((64 - n : Nat) : Int) := by decide +kernel

theorem RL64 (x : Int) {n : Nat} (h0 : 0 < n) (h1 : n < 64) : bits_RotateLeft64 x (-(n : Int)) = some (rr64 x n, ()) := by
  have e1 := neg_and63 n h1 h0
  have e2 : IntKind.u64.wrap (64 - ((64 - n : Nat) : Int)) = (n : Int) := by rw [IntKind.wrap_u64]; omega
  have m1 : min (64 - n) IntKind.u64.bits = 64 - n := Nat.min_eq_left (by simp only [IntKind.bits]; omega)
  have m2 : min n IntKind.u64.bits = n := Nat.min_eq_left (by simp only [IntKind.bits]; omega)
  unfold bits_RotateLeft64
  rw [e1, e2]
  simp only [Int.toNat_natCast, m1, m2, Int.natCast_nonneg, if_true, rr64]

theorem wide_l3 (K : Nat) (h0 : Option Addr) {b : Sl} {gw : Nat} :
    ∀ (d n : Nat) (w : World) (cs : List Value) (S : List Int), S.length + d = 80 → 16 ≤ S.length → d < n → Bk 125 w gw cs → cs.length = 80 → cs.take S.length = ints .u64 S →
      ∃ w' cs', digest_wide_l3 K n h0 b ⟨gw, 0, none⟩ ((S.length : Nat) : Int) w = some ((), w') ∧ Bk 125 w' gw cs' ∧ cs' = ints .u64 (ext64 d S) ∧ Upd (· = gw) w w' := by
  intro d
  induction d with
  | zero =>
    intro n w cs S hi h16 hn hb hc ht
    obtain ⟨n, rfl⟩ : ∃ m, n = m + 1 := ⟨n - 1, by omega⟩
    have hS : S.length = 80 := by omega
    refine ⟨w, cs, ?_, hb, ?_, Upd.refl _ _⟩
    · show digest_wide_l3_b K (digest_wide_l3 K n) h0 b ⟨gw, 0, none⟩ ((S.length : Nat) : Int) w = _
      rw [hS]
      simp [digest_wide_l3_b]
    · rw [hS, List.take_of_length_le (by omega)] at ht; exact ht
  | succ d ih =>
    intro n w cs S hi h16 hn hb hc ht
    obtain ⟨n, rfl⟩ : ∃ m, n = m + 1 := ⟨n - 1, by omega⟩
    have hd : decide (((S.length : Nat) : Int) < 80) = true := by simp; omega
    have e15 : IntKind.i64.wrap (((S.length : Nat) : Int) - 15) = ((S.length - 15 : Nat) : Int) := by rw [w64 (by omega) (by omega)]; omega
    have e2 : IntKind.i64.wrap (((S.length : Nat) : Int) - 2) = ((S.length - 2 : Nat) : Int) := by rw [w64 (by omega) (by omega)]; omega
    have e16 : IntKind.i64.wrap (((S.length : Nat) : Int) - 16) = ((S.length - 16 : Nat) : Int) := by rw [w64 (by omega) (by omega)]; omega
    have e7 : IntKind.i64.wrap (((S.length : Nat) : Int) - 7) = ((S.length - 7 : Nat) : Int) := by rw [w64 (by omega) (by omega)]; omega
    have e1 : IntKind.i64.wrap (((S.length : Nat) : Int) + 1) = ((S.length + 1 : Nat) : Int) := by rw [w64 (by omega) (by omega)]; rfl
    have c15 : (0 : Int) ≤ ((S.length - 15 : Nat) : Int) ∧ ((S.length - 15 : Nat) : Int) < ((80 : Nat) : Int) := by omega
    have c2 : (0 : Int) ≤ ((S.length - 2 : Nat) : Int) ∧ ((S.length - 2 : Nat) : Int) < ((80 : Nat) : Int) := by omega
    have c16 : (0 : Int) ≤ ((S.length - 16 : Nat) : Int) ∧ ((S.length - 16 : Nat) : Int) < ((80 : Nat) : Int) := by omega
    have c7 : (0 : Int) ≤ ((S.length - 7 : Nat) : Int) ∧ ((S.length - 7 : Nat) : Int) < ((80 : Nat) : Int) := by omega
    have c0 : (0 : Int) ≤ ((S.length : Nat) : Int) ∧ ((S.length : Nat) : Int) < ((80 : Nat) : Int) := by omega
    have l15 := hb.drew.ldI (row_front ht (i := S.length - 15) (by omega))
    have l2 := hb.drew.ldI (row_front ht (i := S.length - 2) (by omega))
    have l16 := hb.drew.drew.ldI (row_front ht (i := S.length - 16) (by omega))
    have l7 := hb.drew.drew.ldI (row_front ht (i := S.length - 7) (by omega))
    have r7 := RL64 (S.getD (S.length - 15) 0) (n := 1) (by decide) (by decide)
    have r18 := RL64 (S.getD (S.length - 15) 0) (n := 8) (by decide) (by decide)
    have r17 := RL64 (S.getD (S.length - 2) 0) (n := 19) (by decide) (by decide)
    have r19 := RL64 (S.getD (S.length - 2) 0) (n := 61) (by decide) (by decide)
    have r7 : bits_RotateLeft64 (S.getD (S.length - 15) 0) (-1) = some (rr64 (S.getD (S.length - 15) 0) 1, ()) := r7
    have r18 : bits_RotateLeft64 (S.getD (S.length - 15) 0) (-8) = some (rr64 (S.getD (S.length - 15) 0) 8, ()) := r18
    have r17 : bits_RotateLeft64 (S.getD (S.length - 2) 0) (-19) = some (rr64 (S.getD (S.length - 2) 0) 19, ()) := r17
    have r19 : bits_RotateLeft64 (S.getD (S.length - 2) 0) (-61) = some (rr64 (S.getD (S.length - 2) 0) 61, ()) := r19
    let x := sch64 (S.getD (S.length - 15) 0) (S.getD (S.length - 2) 0) (S.getD (S.length - 16) 0) (S.getD (S.length - 7) 0)
    obtain ⟨w1, s1, s2, s3⟩ := hb.drew.drew.stC (i := S.length) (by omega) (.int .u64 x)
    have s1' : stC ((⟨gw, 0, none⟩ : Addr).add (S.length * 1)) (.int .u64 x) w.drew.drew = some w1 := by rw [add_lit, Nat.mul_one, Nat.zero_add]; exact s1
    have hfs := front_set ht (by omega) x
    have hSl : (S ++ [x]).length = S.length + 1 := by simp
    obtain ⟨w2, cs2, h1, h2, h3, h5⟩ := ih n w1 _ (S ++ [x]) (by rw [hSl]; omega) (by rw [hSl]; omega) (by omega) s2 (by simpa using hc) hfs
    rw [hSl] at h1
    refine ⟨w2, cs2, ?_, h2, by rw [h3]; rfl, (s3.predrew.predrew).trans' h5 fun _ _ e => e⟩
    show digest_wide_l3_b K (digest_wide_l3 K n) h0 b ⟨gw, 0, none⟩ ((S.length : Nat) : Int) w = _
    unfold digest_wide_l3_b
    rw [hd, if_pos rfl, e15, e2, e16, e7]
    simp only [Int.toNat_natCast]
    rw [if_pos c15, if_pos c2]
    simp only [add_lit, Nat.mul_one, Nat.zero_add]
    rw [l15, Option.bind_some, l2, Option.bind_some, if_pos c16, if_pos c7, l16, Option.bind_some, l7, Option.bind_some, r7, Option.bind_some, r18, Option.bind_some, r17, Option.bind_some, r19, Option.bind_some, if_pos c0]
    show (stC ⟨gw, S.length, none⟩ (.int .u64 x) w.drew.drew).bind _ = _
    rw [s1, Option.bind_some, e1, h1]

theorem wide_l4 (K : Nat) {h0 : Option Addr} {b : Sl} {gw : Nat} {W C : List Int} (hW : W.length = 80) (hC : C.length = 80) :
    ∀ (m i n : Nat) (w : World) (a b1 c d e f g k : Int), i + m = 80 → m < n → Bk 125 w gw (ints .u64 W) →
      ∃ w', digest_wide_l4 K n h0 b ⟨gw, 0, none⟩ a b1 c d e f g k (ints .u64 C).toArray (i : Int) w = some (rounds64 W C m i a b1 c d e f g k, w') ∧ Upd none_ w w' := by
  intro m
  induction m with
  | zero =>
    intro i n w a b1 c d e f g k hi hn hb
    obtain ⟨n, rfl⟩ : ∃ m, n = m + 1 := ⟨n - 1, by omega⟩
    have : i = 80 := by omega
    subst this
    refine ⟨w, ?_, Upd.refl _ _⟩
    show digest_wide_l4_b K (digest_wide_l4 K n) h0 b ⟨gw, 0, none⟩ a b1 c d e f g k (ints .u64 C).toArray ((80 : Nat) : Int) w = _
    simp [digest_wide_l4_b, rounds64]
  | succ m ih =>
    intro i n w a b1 c d e f g k hi hn hb
    obtain ⟨n, rfl⟩ : ∃ m, n = m + 1 := ⟨n - 1, by omega⟩
    have hd : decide ((i : Int) < 80) = true := by simp; omega
    have e1 : IntKind.i64.wrap ((i : Int) + 1) = ((i + 1 : Nat) : Int) := by rw [w64 (by omega) (by omega)]; rfl
    have c80 : (0 : Int) ≤ (i : Int) ∧ (i : Int) < ((80 : Nat) : Int) := by omega
    have hg : (ints .u64 C).toArray[i]? = some (.int .u64 (C.getD i 0)) := by
      rw [List.getElem?_toArray]; simp [ints, List.getD_eq_getElem?_getD, show i < C.length by omega]
    have l1 : ldI .u64 ⟨gw, i, none⟩ w.drew = some (W.getD i 0) := hb.drew.ldI (by simp [ints, List.getD_eq_getElem?_getD, show i < W.length by omega])
    have q14 : bits_RotateLeft64 e (-14) = some (rr64 e 14, ()) := RL64 e (n := 14) (by decide) (by decide)
    have q18 : bits_RotateLeft64 e (-18) = some (rr64 e 18, ()) := RL64 e (n := 18) (by decide) (by decide)
    have q41 : bits_RotateLeft64 e (-41) = some (rr64 e 41, ()) := RL64 e (n := 41) (by decide) (by decide)
    have q28 : bits_RotateLeft64 a (-28) = some (rr64 a 28, ()) := RL64 a (n := 28) (by decide) (by decide)
    have q34 : bits_RotateLeft64 a (-34) = some (rr64 a 34, ()) := RL64 a (n := 34) (by decide) (by decide)
    have q39 : bits_RotateLeft64 a (-39) = some (rr64 a 39, ()) := RL64 a (n := 39) (by decide) (by decide)
    obtain ⟨w1, h1, h2⟩ := ih (i + 1) n w.drew (IntKind.u64.wrap (t1_64 e f g k (C.getD i 0) (W.getD i 0) + t2_64 a b1 c)) a b1 c
      (IntKind.u64.wrap (d + t1_64 e f g k (C.getD i 0) (W.getD i 0))) e f g (by omega) (by omega) hb.drew
    refine ⟨w1, ?_, h2.predrew⟩
    show digest_wide_l4_b K (digest_wide_l4 K n) h0 b ⟨gw, 0, none⟩ a b1 c d e f g k (ints .u64 C).toArray (i : Int) w = _
    unfold digest_wide_l4_b
    rw [hd, if_pos rfl, if_pos c80]
    simp only [Int.toNat_natCast, add_lit, Nat.mul_one, Nat.zero_add]
    rw [hg, Option.bind_some]
    simp only [asI, if_true, Option.bind_some]
    rw [if_pos c80, q14, Option.bind_some, q18, Option.bind_some, q41, Option.bind_some, l1, Option.bind_some, q28, Option.bind_some, q34, Option.bind_some, q39, Option.bind_some, e1]
    exact h1

theorem ints_set {κ : IntKind} (xs : List Int) (i : Nat) (x : Int) : (ints κ xs).set i (.int κ x) = ints κ (xs.set i x) := by
  simp only [ints, List.map_set]

theorem wide_l2 (K : Nat) (h0 : Option Addr) {b s : Sl} {bs xs : List Int} {o : Nat} (hx8 : xs.length = 8) (hxs : ∀ j, j < 8 → xs.getD j 0 = bs.getD (o + j) 0) {gw i : Nat} {a30 : Int} (hi80 : i < 80) (hne : ∀ p, s.a = some p → p.block ≠ gw) {v : Int} {ws : List Int} (hws : ws.length = 80) :
    ∀ (d j n : Nat) (w : World), j + d = 8 → d < n → RdS .u8 w s xs → Bk 125 w gw (ints .u64 (ws.set i (word64 v bs o j))) → (∀ j, j < 8 → InK .u8 (bs.getD (o + j) 0)) →
      ∃ w', digest_wide_l2 K n h0 b ⟨gw, 0, none⟩ (i : Int) a30 s 8 (j : Int) w = some ((), w') ∧ Bk 125 w' gw (ints .u64 (ws.set i (word64 v bs o 8))) ∧ Upd (· = gw) w w' := by
  intro d
  induction d with
  | zero =>
    intro j n w hj hn hr hb hin
    obtain ⟨n, rfl⟩ : ∃ m, n = m + 1 := ⟨n - 1, by omega⟩
    have : j = 8 := by omega
    subst this
    refine ⟨w, ?_, hb, Upd.refl _ _⟩
    show digest_wide_l2_b K (digest_wide_l2 K n) h0 b ⟨gw, 0, none⟩ (i : Int) a30 s 8 ((8 : Nat) : Int) w = _
    simp [digest_wide_l2_b]
  | succ d ih =>
    intro j n w hj hn hr hb hin
    obtain ⟨n, rfl⟩ : ∃ m, n = m + 1 := ⟨n - 1, by omega⟩
    obtain ⟨p, hp, hl⟩ := rdD hr
    have hxn : xs ≠ [] := fun e => by rw [e] at hx8; cases hx8
    have hlen := hr.len
    have hd : decide ((j : Int) < 8) = true := by simp; omega
    have e1 : IntKind.i64.wrap ((j : Int) + 1) = ((j + 1 : Nat) : Int) := by rw [w64 (by omega) (by omega)]; rfl
    have c1 : (0 : Int) ≤ (j : Int) ∧ (j : Int) < ((s.len : Nat) : Int) := by omega
    have c2 : (0 : Int) ≤ (i : Int) ∧ (i : Int) < ((80 : Nat) : Int) := by omega
    have lx := hl j (by omega)
    rw [hxs j (by omega)] at lx
    have lw : ldI .u64 ⟨gw, i, none⟩ w = some (word64 v bs o j) := hb.ldI (by simp [ints, hws, hi80])
    obtain ⟨w1, s1, s2, s3⟩ := hb.stC (i := i) (by rw [ints_length, List.length_set, hws]; exact hi80) (.int .u64 (word64 v bs o (j + 1)))
    rw [ints_set, List.set_set] at s2
    obtain ⟨w2, h1, h2, h3⟩ := ih (j + 1) n w1 (by omega) (by omega) (hr.upd s3 fun q hq e => hne q hq e) s2 hin
    refine ⟨w2, ?_, h2, s3.trans' h3 fun _ _ e => e⟩
    show digest_wide_l2_b K (digest_wide_l2 K n) h0 b ⟨gw, 0, none⟩ (i : Int) a30 s 8 (j : Int) w = _
    unfold digest_wide_l2_b
    rw [hd, if_pos rfl, hp hxn, Option.bind_some, if_pos c1]
    simp only [Int.toNat_natCast, add_lit, Nat.mul_one, Nat.zero_add]
    rw [lx, Option.bind_some, if_pos c2, lw, Option.bind_some, if_pos c2]
    show (stC ⟨gw, i, none⟩ (.int .u64 (word64 v bs o (j + 1))) w).bind _ = _
    rw [s1, Option.bind_some, e1, h1]

theorem wide_l1 {K : Nat} (hK : 18446744073709551616 ≤ K) (h0 : Option Addr) {b : Sl} {bs : List Int} (hin : ∀ i, InK .u8 (bs.getD i 0)) (hbl : 128 ≤ bs.length) (hlim : bs.length ≤ 140737488355328) {gw : Nat} (hne : ∀ p, b.a = some p → p.block ≠ gw) :
    ∀ (d i n : Nat) (w : World) (ws : List Int), i + d = 16 → d < n → RdS .u8 w b bs → Bk 125 w gw (ints .u64 ws) → ws.length = 80 → ws.take i = words64 bs i →
      ∃ w' ws', digest_wide_l1 K n h0 b ⟨gw, 0, none⟩ (i : Int) w = some ((), w') ∧ Bk 125 w' gw (ints .u64 ws') ∧ ws'.length = 80 ∧ ws'.take 16 = words64 bs 16 ∧ Upd (· = gw) w w' := by
  intro d
  induction d with
  | zero =>
    intro i n w ws hi hn hr hb hc ht
    obtain ⟨n, rfl⟩ : ∃ m, n = m + 1 := ⟨n - 1, by omega⟩
    have : i = 16 := by omega
    subst this
    refine ⟨w, ws, ?_, hb, hc, ht, Upd.refl _ _⟩
    show digest_wide_l1_b K (digest_wide_l1 K n) h0 b ⟨gw, 0, none⟩ ((16 : Nat) : Int) w = _
    simp [digest_wide_l1_b]
  | succ d ih =>
    intro i n w ws hi hn hr hb hc ht
    obtain ⟨n, rfl⟩ : ∃ m, n = m + 1 := ⟨n - 1, by omega⟩
    have hcap := hr.cap
    have hlen := hr.len
    have hd : decide ((i : Int) < 16) = true := by simp; omega
    have e8 : IntKind.i64.wrap (8 * (i : Int)) = ((8 * i : Nat) : Int) := by rw [w64 (by omega) (by omega)]; omega
    have e88 : IntKind.i64.wrap (((8 * i : Nat) : Int) + 8) = ((8 * i + 8 : Nat) : Int) := by rw [w64 (by omega) (by omega)]; omega
    have e1 : IntKind.i64.wrap ((i : Int) + 1) = ((i + 1 : Nat) : Int) := by rw [w64 (by omega) (by omega)]; rfl
    have c1 : (0 : Int) ≤ ((8 * i + 8 : Nat) : Int) ∧ ((8 * i + 8 : Nat) : Int) ≤ ((b.cap : Nat) : Int) := by omega
    have c2 : (0 : Int) ≤ ((8 * i : Nat) : Int) ∧ ((8 * i : Nat) : Int) ≤ ((8 * i + 8 : Nat) : Int) := by omega
    have hs := hr.sub (lo := 8 * i) (hi := 8 * i + 8) (by omega) (by omega)
    have hx8 : ((bs.take (8 * i + 8)).drop (8 * i)).length = 8 := by simp; omega
    have hblk : ∀ q, sla b.a (8 * i) b.cap 1 = some q → q.block ≠ gw := by
      intro q hq
      unfold sla at hq
      split at hq
      · exact hne q hq
      · cases hb' : b.a with
        | none => rw [hb'] at hq; simp at hq
        | some p =>
          rw [hb'] at hq; simp at hq
          have : q.block = p.block := by rw [← hq]; unfold Addr.add; split <;> rfl
          rw [this]; exact hne p hb'
    have hb0 : Bk 125 w gw (ints .u64 (ws.set i (word64 (ws.getD i 0) bs (8 * i) 0))) := by
      have : ws.set i (word64 (ws.getD i 0) bs (8 * i) 0) = ws := by
        show ws.set i (ws.getD i 0) = ws
        rw [List.getD_eq_getElem?_getD, List.getElem?_eq_getElem (show i < ws.length by omega)]
        exact List.set_getElem_self _
      rw [this]; exact hb
    obtain ⟨w1, h1, b1, u1⟩ := wide_l2 K h0 (b := b) (s := ⟨sla b.a (8 * i) b.cap 1, 8 * i + 8 - 8 * i, b.cap - 8 * i⟩) (bs := bs) (o := 8 * i) hx8
      (fun j hj => by simp [List.getD_eq_getElem?_getD, List.getElem?_drop, List.getElem?_take, show 8 * i + j < 8 * i + 8 by omega]) (i := i) (a30 := (i : Int)) (by omega) hblk (v := ws.getD i 0) hc 8 0 K w rfl (by omega) hs hb0 (fun j _ => hin _)
    have h1 : digest_wide_l2 K K h0 b ⟨gw, 0, none⟩ (i : Int) (i : Int) ⟨sla b.a (8 * i) b.cap 1, 8 * i + 8 - 8 * i, b.cap - 8 * i⟩ 8 0 w = _ := h1
    rw [word64_any hin] at b1
    have ht1 : (ws.set i (word64 0 bs (8 * i) 8)).take (i + 1) = words64 bs (i + 1) := by
      rw [List.take_add_one, List.take_set_of_le (Nat.le_refl _), ht]
      simp [words64, show i < ws.length by omega]
    obtain ⟨w2, ws2, h2, b2, l2, t2, u2⟩ := ih (i + 1) n w1 _ (by omega) (by omega) (hr.upd u1 fun q hq e => hne q hq e) b1 (by simpa using hc) ht1
    refine ⟨w2, ws2, ?_, b2, l2, t2, u1.trans' u2 fun _ _ e => e⟩
    have e8s : 8 * i + 8 - 8 * i = 8 := by omega
    show digest_wide_l1_b K (digest_wide_l1 K n) h0 b ⟨gw, 0, none⟩ (i : Int) w = _
    unfold digest_wide_l1_b
    rw [hd, if_pos rfl, e8, e88]
    simp only [Int.toNat_natCast]
    rw [if_pos c1, if_pos c2]
    have c8 : (((8 * i + 8 - 8 * i : Nat)) : Int) = 8 := by omega
    rw [c8, h1, bnd_ok, e1, h2]

theorem built80 (x0 x1 x2 x3 x4 x5 x6 x7 : Int) : prog.built 80 [(0, (.int .u64 x0)), (1, (.int .u64 x1)), (2, (.int .u64 x2)), (3, (.int .u64 x3)), (4, (.int .u64 x4)), (5, (.int .u64 x5)), (6, (.int .u64 x6)), (7, (.int .u64 x7))] =
    some (ints .u64 [x0, x1, x2, x3, x4, x5, x6, x7]).toArray := by kernel_rfl

theorem wide_l5 (K : Nat) {gh oh : Nat} {b : Sl} {w4 : Addr} {eh : TypeId} {H x : List Int} (hH : H.length = 8) (hx : x.length = 8) {ch : List Value} (hch : oh + 8 ≤ ch.length) (hAt : (ch.drop oh).take 8 = ints .u64 H) :
    ∀ (d i n : Nat) (w : World), i + d = 8 → d < n → Bk eh w gh (seg ch oh (ints .u64 ((sum8w H x).take i))) →
      ∃ w', digest_wide_l5 K n (some ⟨gh, oh, none⟩) b w4 (ints .u64 x).toArray (i : Int) w = some ((), w') ∧ Bk eh w' gh (seg ch oh (ints .u64 (sum8w H x))) ∧ Upd (· = gh) w w' := by
  intro d
  induction d with
  | zero =>
    intro i n w hi hn hb
    obtain ⟨n, rfl⟩ : ∃ m, n = m + 1 := ⟨n - 1, by omega⟩
    have : i = 8 := by omega
    subst this
    rw [List.take_of_length_le (by simp [sum8w])] at hb
    refine ⟨w, ?_, hb, Upd.refl _ _⟩
    show digest_wide_l5_b K (digest_wide_l5 K n) (some ⟨gh, oh, none⟩) b w4 (ints .u64 x).toArray ((8 : Nat) : Int) w = _
    simp [digest_wide_l5_b]
  | succ d ih =>
    intro i n w hi hn hb
    obtain ⟨n, rfl⟩ : ∃ m, n = m + 1 := ⟨n - 1, by omega⟩
    have hd : decide ((i : Int) < 8) = true := by simp; omega
    have e1 : IntKind.i64.wrap ((i : Int) + 1) = ((i + 1 : Nat) : Int) := by rw [w64 (by omega) (by omega)]; rfl
    have c0 : (0 : Int) ≤ (i : Int) ∧ (i : Int) < ((8 : Nat) : Int) := by omega
    have hxi : i < x.length := by omega
    have hg : (ints .u64 x).toArray[i]? = some (.int .u64 (x.getD i 0)) := by
      rw [List.getElem?_toArray]; simp [ints, List.getD_eq_getElem?_getD, hxi]
    have hol : (ints .u64 ((sum8w H x).take i)).length = i := by simp [ints, sum8w]; omega
    have hsl : (seg ch oh (ints .u64 ((sum8w H x).take i))).length = ch.length := seg_length (by rw [hol]; omega)
    have hAt' : (ch.drop oh).take H.length = ints .u64 H := by rw [hH]; exact hAt
    have l0 : ldI .u64 ⟨gh, oh + i, none⟩ w.drew = some (H.getD i 0) := hb.drew.ldI (by
      rw [seg_get (by rw [hol]; omega), hol, if_neg (by omega), if_neg (by omega)]
      exact at_get hAt' (by omega))
    obtain ⟨w1, s1, s2, s3⟩ := hb.drew.stC (i := oh + i) (by rw [hsl]; omega) (.int .u64 (IntKind.u64.wrap (H.getD i 0 + x.getD i 0)))
    have hstep : (seg ch oh (ints .u64 ((sum8w H x).take i))).set (oh + i) (.int .u64 (IntKind.u64.wrap (H.getD i 0 + x.getD i 0))) = seg ch oh (ints .u64 ((sum8w H x).take (i + 1))) := by
      have h1 := seg_snoc (cs := ch) (vs := ints .u64 ((sum8w H x).take i)) (o := oh) (by rw [hol]; omega) (.int .u64 (IntKind.u64.wrap (H.getD i 0 + x.getD i 0)))
      rw [hol] at h1
      rw [h1]
      congr 1
      rw [List.take_add_one, ints_append]
      congr 1
      have : (sum8w H x)[i]? = some (IntKind.u64.wrap (H.getD i 0 + x.getD i 0)) := by
        simp only [sum8w, List.getElem?_map, List.getElem?_range (show i < 8 by omega)]; rfl
      rw [this]; rfl
    rw [hstep] at s2
    obtain ⟨w2, h1, h2, h3⟩ := ih (i + 1) n w1 (by omega) (by omega) s2
    refine ⟨w2, ?_, h2, s3.predrew.trans' h3 fun _ _ e => e⟩
    show digest_wide_l5_b K (digest_wide_l5 K n) (some ⟨gh, oh, none⟩) b w4 (ints .u64 x).toArray (i : Int) w = _
    unfold digest_wide_l5_b
    rw [hd, if_pos rfl, if_pos c0]
    simp only [Int.toNat_natCast, Nat.mul_one]
    rw [hg, Option.bind_some]
    simp only [asI, if_true, Option.bind_some]
    rw [if_pos c0, add_lit, l0, Option.bind_some, if_pos c0, s1, Option.bind_some, e1, h1]

theorem ldA_of_rd {w : World} {g : Nat} {vs : List Value} (h : Rd w ⟨g, 0, none⟩ vs) (hne : vs ≠ []) : ldA vs.length ⟨g, 0, none⟩ w = some vs.toArray := by
  obtain ⟨m, hm⟩ : ∃ m, vs.length = m + 1 := ⟨vs.length - 1, by have := List.length_pos_iff.2 hne; omega⟩
  have hlast := h m (vs[m]'(by omega)) (List.getElem?_eq_getElem (by omega))
  rw [add_lit, Nat.zero_add] at hlast
  unfold World.cell? at hlast
  unfold ldA
  split at hlast
  · rename_i c e fz hb
    simp only [Option.isSome_none, Bool.false_eq_true, if_false] at hlast
    have hsz : m < c.size := (Array.getElem?_eq_some_iff.1 hlast).1
    simp only [hb]
    rw [if_pos ⟨trivial, by omega⟩]
    congr 1
    apply Array.ext (by simp; omega)
    intro i h1 h2
    have h2' : i < vs.length := by simpa using h2
    have hi := h i vs[i] (List.getElem?_eq_getElem h2')
    rw [add_lit, Nat.zero_add] at hi
    simp only [World.cell?, hb, Option.isSome_none, Bool.false_eq_true, if_false] at hi
    have := (Array.getElem?_eq_some_iff.1 hi).2
    simp [this]
  · cases hlast

/-- ONE BLOCK. -/
theorem wide_block {K : Nat} (hK : 18446744073709551616 ≤ K) (rec : Option Addr → Sl → Addr → World → Option (Unit × World)) {gh oh gw : Nat} {b : Sl} {eh : TypeId} {bs H C : List Int} (hin : ∀ i, InK .u8 (bs.getD i 0)) (hH : H.length = 8) (hC : C.length = 80) {ch : List Value}
    (hbl : 128 ≤ bs.length) (hlim : bs.length ≤ 140737488355328) (hbw : ∀ p, b.a = some p → p.block ≠ gw) (hhw : gh ≠ gw) (hch : oh + 8 ≤ ch.length) (hAt : (ch.drop oh).take 8 = ints .u64 H)
    {w : World} {ws : List Int} (hr : RdS .u8 w b bs) (hbh : Bk eh w gh ch) (hb : Bk 125 w gw (ints .u64 ws)) (hcw : ws.length = 80) (hT : Rd w ⟨2, 0, none⟩ (ints .u64 C)) (hg2 : gw ≠ 2) :
    ∃ w' ws', digest_wide_l0_b K rec (some ⟨gh, oh, none⟩) b ⟨gw, 0, none⟩ w = rec (some ⟨gh, oh, none⟩) ⟨sla b.a 128 b.cap 1, b.len - 128, b.cap - 128⟩ ⟨gw, 0, none⟩ w' ∧
      Bk eh w' gh (seg ch oh (ints .u64 (comp64 C H bs))) ∧ Bk 125 w' gw (ints .u64 ws') ∧ ws'.length = 80 ∧ Upd (fun k => k = gh ∨ k = gw) w w' := by
  obtain ⟨w1, c1, h1, b1, l1, t1, u1⟩ := wide_l1 hK (some ⟨gh, oh, none⟩) hin hbl hlim hbw 16 0 K w ws rfl (by omega) hr hb hcw (by simp [words64])
  have h1 : digest_wide_l1 K K (some ⟨gh, oh, none⟩) b ⟨gw, 0, none⟩ 0 w = _ := h1
  obtain ⟨w2, c2, h2, b2, t2, u2⟩ := wide_l3 K (some ⟨gh, oh, none⟩) (b := b) 64 K w1 (ints .u64 c1) (words64 bs 16) (by rw [words64_len]) (by rw [words64_len]; decide) (by omega) b1 (by rw [ints_length]; exact l1) (by rw [words64_len, ints_take, t1])
  rw [words64_len] at h2
  have h2 : digest_wide_l3 K K (some ⟨gh, oh, none⟩) b ⟨gw, 0, none⟩ 16 w1 = _ := h2
  rw [t2] at b2
  have hbh2 : Bk eh w2 gh ch := (hbh.upd u1 hhw).upd u2 hhw
  have hT2 : Rd w2 ⟨2, 0, none⟩ (ints .u64 C) := (hT.upd u1 fun _ e => hg2 e.symm).upd u2 fun _ e => hg2 e.symm
  have hT2d : Rd w2.drew ⟨2, 0, none⟩ (ints .u64 C) := hT2.upd (S := none_) (Upd.refl _ _).drew fun _ => id
  have hCne : ints .u64 C ≠ [] := fun e => by have := congrArg List.length e; simp [hC] at this
  have hld := ldA_of_rd hT2d hCne
  rw [ints_length, hC] at hld
  have hAt' : (ch.drop oh).take H.length = ints .u64 H := by rw [hH]; exact hAt
  have lv : ∀ i, i < 8 → ldI .u64 ⟨gh, oh + i, none⟩ w2.drew = some (H.getD i 0) := fun i hi => hbh2.drew.ldI (at_get hAt' (by omega))
  have h5x := wide_l4 K (h0 := some ⟨gh, oh, none⟩) (b := b) (W := ext64 64 (words64 bs 16)) (C := C) (by rw [ext64_len, words64_len]) hC 80 0 K w2.drew (H.getD 0 0) (H.getD 1 0) (H.getD 2 0) (H.getD 3 0) (H.getD 4 0) (H.getD 5 0) (H.getD 6 0) (H.getD 7 0) rfl (by omega) b2.drew
  obtain ⟨y, hy⟩ : ∃ y, rv64 C H bs = y := ⟨_, rfl⟩
  unfold rv64 at hy
  rw [hy] at h5x
  obtain ⟨w5, h5, u5⟩ := h5x
  have hc : comp64 C H bs = sum8w H (list8 y) := by unfold comp64 rv64; rw [hy]
  rw [hc]
  have b5h : Bk eh w5 gh (seg ch oh (ints .u64 ((sum8w H (list8 y)).take 0))) := by
    rw [List.take_zero]
    show Bk eh w5 gh (seg ch oh [])
    rw [seg_nil]
    exact hbh2.drew.upd0 u5
  obtain ⟨w6, h6, b6, u6⟩ := wide_l5 K (b := b) (w4 := ⟨gw, 0, none⟩) hH (x := list8 y) rfl hch hAt 8 0 K w5 rfl (by omega) b5h
  refine ⟨w6, ext64 64 (words64 bs 16), ?_, b6, (b2.drew.upd0 u5).upd u6 (fun e => hhw e.symm), by rw [ext64_len, words64_len], ?_⟩
  · have hlen := hr.len
    have hd : decide (((b.len : Nat) : Int) ≥ 128) = true := by simp; omega
    have k64 : (0 : Int) ≤ 128 ∧ (128 : Int) ≤ ((b.len : Nat) : Int) := by omega
    have h5' : digest_wide_l4 K K (some ⟨gh, oh, none⟩) b ⟨gw, 0, none⟩ (H.getD 0 0) (H.getD 1 0) (H.getD 2 0) (H.getD 3 0) (H.getD 4 0) (H.getD 5 0) (H.getD 6 0) (H.getD 7 0) (ints .u64 C).toArray 0 w2.drew = some (y, w5) := h5
    have h6' : digest_wide_l5 K K (some ⟨gh, oh, none⟩) b ⟨gw, 0, none⟩ (ints .u64 [y.1, y.2.1, y.2.2.1, y.2.2.2.1, y.2.2.2.2.1, y.2.2.2.2.2.1, y.2.2.2.2.2.2.1, y.2.2.2.2.2.2.2.1]).toArray 0 w5 = some ((), w6) := h6
    unfold digest_wide_l0_b
    rw [hd, if_pos rfl, h1, bnd_ok, h2, bnd_ok]
    simp only [Option.bind_some, add_lit, Nat.zero_mul, Nat.one_mul, Nat.reduceMul]
    rw [lv 0 (by decide), Option.bind_some, lv 1 (by decide), Option.bind_some, lv 2 (by decide), Option.bind_some, lv 3 (by decide), Option.bind_some, lv 4 (by decide), Option.bind_some, lv 5 (by decide), Option.bind_some, lv 6 (by decide), Option.bind_some, lv 7 (by decide), Option.bind_some]
    rw [hld, Option.bind_some, h5', bnd_ok, built80, Option.bind_some, h6', bnd_ok, if_pos k64]
  · have q1 : Upd (fun k => k = gh ∨ k = gw) w w2 := (u1.trans' u2 fun _ _ e => e).mono fun _ _ e => .inr e
    exact (q1.drew.and0 u5).trans' u6 fun _ _ e => .inl e

theorem wide_loop {K : Nat} (hK : 18446744073709551616 ≤ K) {gh oh gw : Nat} {eh : TypeId} {C : List Int} (hC : C.length = 80) (hhw : gh ≠ gw) (hg2 : gw ≠ 2) (hg3 : gh ≠ 2) :
    ∀ (m n : Nat) (w : World) (b : Sl) (bs H : List Int) (ch : List Value) (ws : List Int), (∀ i, InK .u8 (bs.getD i 0)) → bs.length / 128 = m → m < n → bs.length ≤ 140737488355328 → H.length = 8 → oh + 8 ≤ ch.length → (ch.drop oh).take 8 = ints .u64 H →
      (∀ p, b.a = some p → p.block ≠ gw) → ((∀ p, b.a = some p → p.block ≠ gh) ∨ bs.length < 256) → RdS .u8 w b bs → Bk eh w gh ch → Bk 125 w gw (ints .u64 ws) → ws.length = 80 → Rd w ⟨2, 0, none⟩ (ints .u64 C) →
      ∃ w', digest_wide_l0 K n (some ⟨gh, oh, none⟩) b ⟨gw, 0, none⟩ w = some ((), w') ∧ Bk eh w' gh (seg ch oh (ints .u64 (comps64 C m H bs))) ∧ Upd (fun k => k = gh ∨ k = gw) w w' := by
  intro m
  induction m with
  | zero =>
    intro n w b bs H ch cw hin hm hn hlim hH hch hAt hbw hbh hr hb hw hcw hT
    obtain ⟨n, rfl⟩ : ∃ k, n = k + 1 := ⟨n - 1, by omega⟩
    refine ⟨w, ?_, ?_, Upd.refl _ _⟩
    · show digest_wide_l0_b K (digest_wide_l0 K n) (some ⟨gh, oh, none⟩) b ⟨gw, 0, none⟩ w = _
      have hd : decide (((b.len : Nat) : Int) ≥ 128) = false := by rw [hr.len]; simp; omega
      unfold digest_wide_l0_b
      rw [hd, if_neg (by decide)]
    · have : seg ch oh (ints .u64 (comps64 C 0 H bs)) = ch := by
        show seg ch oh (ints .u64 H) = ch
        rw [← hAt]
        apply List.ext_getElem?
        intro i
        have hl : ((ch.drop oh).take 8).length = 8 := by simp; omega
        rw [seg_get (by omega), hl]
        by_cases c1 : i < oh
        · simp [c1]
        · by_cases c2 : i < oh + 8
          · rw [if_neg c1, if_pos c2, List.getElem?_take, if_pos (by omega), List.getElem?_drop]; congr 1; omega
          · rw [if_neg c1, if_neg c2]
      rw [this]; exact hb
  | succ m ih =>
    intro n w b bs H ch cw hin hm hn hlim hH hch hAt hbw hbh hr hb hw hcw hT
    obtain ⟨n, rfl⟩ : ∃ k, n = k + 1 := ⟨n - 1, by omega⟩
    have h64 : 128 ≤ bs.length := by omega
    obtain ⟨w1, cw1, h1, b1, bw1, l1, u1⟩ := wide_block hK (digest_wide_l0 K n) hin hH hC h64 hlim hbw hhw hch hAt hr hb hw hcw hT hg2
    have hcl : (ints .u64 (comp64 C H bs)).length = 8 := by rw [ints_length, comp64_len]
    have hT1 := hT.upd u1 fun _ e => by rcases e with e | e; exact hg3 e.symm; exact hg2 e.symm
    have hlen := hr.len
    have hcap := hr.cap
    by_cases hz : bs.length < 256
    · -- the last one: what is left is not read
      have hm0 : m = 0 := by omega
      subst hm0
      obtain ⟨n, rfl⟩ : ∃ k, n = k + 1 := ⟨n - 1, by omega⟩
      refine ⟨w1, ?_, b1, u1⟩
      show digest_wide_l0_b K (digest_wide_l0 K (n + 1)) (some ⟨gh, oh, none⟩) b ⟨gw, 0, none⟩ w = _
      refine h1.trans ?_
      have e : digest_wide_l0 K (n + 1) = digest_wide_l0_b K (digest_wide_l0 K n) := rfl
      rw [e]
      have hd : decide (((b.len - 128 : Nat) : Int) ≥ 128) = false := by rw [hlen]; simp; omega
      unfold digest_wide_l0_b
      rw [hd, if_neg (by decide)]
    · have hbg : ∀ p, b.a = some p → p.block ≠ gh := by
        rcases hbh with h | h
        · exact h
        · omega
      have hr1 := (hr.upd u1 fun p hp e => by rcases e with e | e; exact hbg p hp e; exact hbw p hp e).sub (lo := 128) (hi := bs.length) h64 (Nat.le_refl _)
      rw [List.take_length] at hr1
      have hblk : ∀ q, sla b.a 128 b.cap 1 = some q → ∃ p, b.a = some p ∧ q.block = p.block := by
        intro q hq
        unfold sla at hq
        split at hq
        · exact ⟨q, hq, rfl⟩
        · cases hb' : b.a with
          | none => rw [hb'] at hq; simp at hq
          | some p => rw [hb'] at hq; simp at hq; exact ⟨p, rfl, by rw [← hq]; unfold Addr.add; split <;> rfl⟩
      obtain ⟨w2, h2, b2, u2⟩ := ih n w1 ⟨sla b.a 128 b.cap 1, bs.length - 128, b.cap - 128⟩ (bs.drop 128) (comp64 C H bs) (seg ch oh (ints .u64 (comp64 C H bs))) cw1 (fun i => by have := hin (128 + i); simpa [List.getD_eq_getElem?_getD, List.getElem?_drop] using this) (by simp; omega) (by omega) (by simp; omega) (comp64_len C H bs)
        (by rw [seg_length (by omega)]; exact hch) (by have := seg_at (cs := ch) (a := ints .u64 (comp64 C H bs)) (o := oh) (by omega); rwa [hcl] at this)
        (fun q hq => by obtain ⟨p, hp, e⟩ := hblk q hq; rw [e]; exact hbw p hp) (.inl fun q hq => by obtain ⟨p, hp, e⟩ := hblk q hq; rw [e]; exact hbg p hp) hr1 b1 bw1 l1 hT1
      refine ⟨w2, ?_, ?_, u1.trans' u2 fun _ _ e => e⟩
      · show digest_wide_l0_b K (digest_wide_l0 K n) (some ⟨gh, oh, none⟩) b ⟨gw, 0, none⟩ w = _
        rw [h1, hlen, h2]
      · rw [seg_seg (by rw [hcl, ints_length, comps64_len C m _ _ (comp64_len C H bs)]) (by omega)] at b2
        exact b2

/-- wide: the blocks of a slice are taken. -/
theorem wide_ok {K : Nat} (hK : 18446744073709551616 ≤ K) {gh oh : Nat} {eh : TypeId} {C : List Int} (hC : C.length = 80) (hg3 : gh ≠ 2) {w : World} {b : Sl} {bs H : List Int} {ch : List Value} (hin : ∀ i, InK .u8 (bs.getD i 0))
    (hlim : bs.length ≤ 140737488355328) (hH : H.length = 8) (hch : oh + 8 ≤ ch.length) (hAt : (ch.drop oh).take 8 = ints .u64 H)
    (hbv : ∀ p, b.a = some p → p.block < w.heap.size) (hbh : (∀ p, b.a = some p → p.block ≠ gh) ∨ bs.length < 256) (hr : RdS .u8 w b bs) (hb : Bk eh w gh ch) (hT : Rd w ⟨2, 0, none⟩ (ints .u64 C)) :
    ∃ w', digest_wide K (some ⟨gh, oh, none⟩) b w = some ((), w') ∧ Bk eh w' gh (seg ch oh (ints .u64 (comps64 C (bs.length / 128) H bs))) ∧ Upd (· = gh) w w' := by
  obtain ⟨w1, n1, b1, u1, z1⟩ := newB_ok z125 125 w
  have b1 : Bk 125 w1 w.heap.size (ints .u64 (List.replicate 80 0)) := by
    have e : z125.toList = ints .u64 (List.replicate 80 0) := by simp [z125, ints]
    rw [← e]; exact b1
  have hlt : 2 < w.heap.size := hT.lt (fun e => by have := congrArg List.length e; simp [hC] at this)
  obtain ⟨w2, h2, b2, u2⟩ := wide_loop hK hC (gw := w.heap.size) (fun e => by have := hb.lt; omega) (by omega) hg3 (bs.length / 128) K w1 b bs H ch (List.replicate 80 0) hin rfl (by omega) hlim hH hch hAt
    (fun p hp e => by have := hbv p hp; omega) hbh (hr.upd0 u1) (hb.upd0 u1) b1 (by simp) (hT.upd u1 fun _ => id)
  refine ⟨w2, ?_, b2, (u1.mono fun _ _ e => e.elim).trans' u2 fun k hk e => by rcases e with e | e; exact e; omega⟩
  unfold digest_wide
  rw [n1, bnd_ok, h2, bnd_ok]

end Go.Sh

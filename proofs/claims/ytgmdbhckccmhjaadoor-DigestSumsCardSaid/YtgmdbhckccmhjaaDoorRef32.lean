/- The document's own answer: taken32, narrow: what they compute. -/
import Derived.Test.YtgmdbhckccmhjaaDoorBv
import Derived.Test.YtgmdbhckccmhjaaDoorWide
import Derived.Test.YtgmdbhckccmhjaaDoorSh2
set_option linter.unusedVariables false
namespace Go.Sh
open Go.Fw Go.Sha Go.RowKit Go.Proofs.Tryd

/-- the constants of 32 bits -/
def kc32 (C : List Int) : List Int := (C.take 64).map fun c => IntKind.u32.wrap (Int.fdiv c (2 ^ 32))

theorem kc32_len {C : List Int} (h : C.length = 80) : (kc32 C).length = 64 := by simp [kc32, h]

theorem kc32_get {C : List Int} (h : C.length = 80) {i : Nat} (hi : i < 64) : (kc32 C).getD i 0 = IntKind.u32.wrap (Int.fdiv (C.getD i 0) (2 ^ 32)) := by
  have h1 : i < C.length := by omega
  simp [kc32, List.getD_eq_getElem?_getD, List.getElem?_take, hi, List.getElem?_eq_getElem h1]

theorem ref_l0 (K : Nat) {b : Sl} {bs : List Int} (hbl : bs.length = 64) {h3 k5 a6 : Addr} {gw : Nat} (hne : ∀ p, b.a = some p → p.block ≠ gw) :
    ∀ (d i n : Nat) (w : World) (cs : List Value), i + d = 16 → d < n → RdS .u8 w b bs → Bk 124 w gw cs → cs.length = 64 → cs.take i = ints .u32 (words32 bs i) →
      ∃ w' cs', ref01_taken32_l0 K n b h3 k5 a6 ⟨gw, 0, none⟩ (i : Int) w = some ((), w') ∧ Bk 124 w' gw cs' ∧ cs'.length = 64 ∧ cs'.take 16 = ints .u32 (words32 bs 16) ∧ Upd (· = gw) w w' := by
  intro d
  induction d with
  | zero =>
    intro i n w cs hi hn hr hb hc ht
    obtain ⟨n, rfl⟩ : ∃ m, n = m + 1 := ⟨n - 1, by omega⟩
    have : i = 16 := by omega
    subst this
    refine ⟨w, cs, ?_, hb, hc, ht, Upd.refl _ _⟩
    show ref01_taken32_l0_b K (ref01_taken32_l0 K n) b h3 k5 a6 ⟨gw, 0, none⟩ ((16 : Nat) : Int) w = _
    simp [ref01_taken32_l0_b]
  | succ d ih =>
    intro i n w cs hi hn hr hb hc ht
    obtain ⟨n, rfl⟩ : ∃ m, n = m + 1 := ⟨n - 1, by omega⟩
    have hbn : bs ≠ [] := fun e => by rw [e] at hbl; simp at hbl
    obtain ⟨p, hp, hl⟩ := rdD hr.drew
    have hlen := hr.len
    have hd : decide ((i : Int) < 16) = true := by simp; omega
    have e4 : IntKind.i64.wrap (4 * (i : Int)) = ((4 * i : Nat) : Int) := by rw [w64 (by omega) (by omega)]; omega
    have f1 : IntKind.i64.wrap (((4 * i : Nat) : Int) + 1) = ((4 * i + 1 : Nat) : Int) := by rw [w64 (by omega) (by omega)]; omega
    have f2 : IntKind.i64.wrap (((4 * i : Nat) : Int) + 2) = ((4 * i + 2 : Nat) : Int) := by rw [w64 (by omega) (by omega)]; omega
    have f3 : IntKind.i64.wrap (((4 * i : Nat) : Int) + 3) = ((4 * i + 3 : Nat) : Int) := by rw [w64 (by omega) (by omega)]; omega
    have e1 : IntKind.i64.wrap ((i : Int) + 1) = ((i + 1 : Nat) : Int) := by rw [w64 (by omega) (by omega)]; rfl
    have k0 : (0 : Int) ≤ ((4 * i : Nat) : Int) ∧ ((4 * i : Nat) : Int) < ((b.len : Nat) : Int) := by omega
    have k1 : (0 : Int) ≤ ((4 * i + 1 : Nat) : Int) ∧ ((4 * i + 1 : Nat) : Int) < ((b.len : Nat) : Int) := by omega
    have k2 : (0 : Int) ≤ ((4 * i + 2 : Nat) : Int) ∧ ((4 * i + 2 : Nat) : Int) < ((b.len : Nat) : Int) := by omega
    have k3 : (0 : Int) ≤ ((4 * i + 3 : Nat) : Int) ∧ ((4 * i + 3 : Nat) : Int) < ((b.len : Nat) : Int) := by omega
    have l0 := hl (4 * i) (by omega)
    have l1 := hl (4 * i + 1) (by omega)
    have l2 := hl (4 * i + 2) (by omega)
    have l3 := hl (4 * i + 3) (by omega)
    have c3 : (0 : Int) ≤ (i : Int) ∧ (i : Int) < ((64 : Nat) : Int) := by omega
    obtain ⟨w1, s1, s2, s3⟩ := hb.drew.stC (i := i) (by omega) (.int .u32 (word32 (bs.getD (4 * i) 0) (bs.getD (4 * i + 1) 0) (bs.getD (4 * i + 2) 0) (bs.getD (4 * i + 3) 0)))
    have ht' : cs.take (words32 bs i).length = ints .u32 (words32 bs i) := by rw [words32_len]; exact ht
    have hfs := front_set ht' (by rw [words32_len]; omega) (word32 (bs.getD (4 * i) 0) (bs.getD (4 * i + 1) 0) (bs.getD (4 * i + 2) 0) (bs.getD (4 * i + 3) 0))
    rw [words32_len] at hfs
    have hfs' : (cs.set i (.int .u32 (word32 (bs.getD (4 * i) 0) (bs.getD (4 * i + 1) 0) (bs.getD (4 * i + 2) 0) (bs.getD (4 * i + 3) 0)))).take (i + 1) = ints .u32 (words32 bs (i + 1)) := by
      have : (words32 bs i ++ [word32 (bs.getD (4 * i) 0) (bs.getD (4 * i + 1) 0) (bs.getD (4 * i + 2) 0) (bs.getD (4 * i + 3) 0)]).length = i + 1 := by simp [words32_len]
      rw [this] at hfs; exact hfs
    obtain ⟨w2, cs2, h1, h2, h4, h5, h6⟩ := ih (i + 1) n w1 _ (by omega) (by omega) (hr.drew.upd s3 (fun q hq e => hne q hq e)) s2 (by simpa using hc) hfs'
    refine ⟨w2, cs2, ?_, h2, h4, h5, (s3.predrew).trans' h6 fun _ _ e => e⟩
    show ref01_taken32_l0_b K (ref01_taken32_l0 K n) b h3 k5 a6 ⟨gw, 0, none⟩ (i : Int) w = _
    unfold ref01_taken32_l0_b
    rw [hd, if_pos rfl, e4, f1, f2, f3, hp hbn]
    simp only [Option.bind_some, Int.toNat_natCast, Nat.mul_one]
    rw [if_pos k0, if_pos k1, if_pos k2, if_pos k3, l0, Option.bind_some, l1, Option.bind_some, l2, Option.bind_some, l3, Option.bind_some, if_pos c3, add_lit, Nat.zero_add]
    show (stC ⟨gw, i, none⟩ (.int .u32 (word32 (bs.getD (4 * i) 0) (bs.getD (4 * i + 1) 0) (bs.getD (4 * i + 2) 0) (bs.getD (4 * i + 3) 0))) w.drew).bind _ = _
    rw [s1, Option.bind_some, e1, h1]

theorem ref_l1 (K : Nat) {h3 k5 a6 : Addr} {gw : Nat} :
    ∀ (d n : Nat) (w : World) (cs : List Value) (S : List Int), S.length + d = 64 → 16 ≤ S.length → d < n → Bk 124 w gw cs → cs.length = 64 → cs.take S.length = ints .u32 S →
      ∃ w' cs', ref01_taken32_l1 K n h3 k5 a6 ⟨gw, 0, none⟩ ((S.length : Nat) : Int) w = some ((), w') ∧ Bk 124 w' gw cs' ∧ cs' = ints .u32 (ext32 d S) ∧ Upd (· = gw) w w' := by
  intro d
  induction d with
  | zero =>
    intro n w cs S hi h16 hn hb hc ht
    obtain ⟨n, rfl⟩ : ∃ m, n = m + 1 := ⟨n - 1, by omega⟩
    have hS : S.length = 64 := by omega
    refine ⟨w, cs, ?_, hb, ?_, Upd.refl _ _⟩
    · show ref01_taken32_l1_b K (ref01_taken32_l1 K n) h3 k5 a6 ⟨gw, 0, none⟩ ((S.length : Nat) : Int) w = _
      rw [hS]
      simp [ref01_taken32_l1_b]
    · rw [hS, List.take_of_length_le (by omega)] at ht; exact ht
  | succ d ih =>
    intro n w cs S hi h16 hn hb hc ht
    obtain ⟨n, rfl⟩ : ∃ m, n = m + 1 := ⟨n - 1, by omega⟩
    have hd : decide (((S.length : Nat) : Int) < 64) = true := by simp; omega
    have e15 : IntKind.i64.wrap (((S.length : Nat) : Int) - 15) = ((S.length - 15 : Nat) : Int) := by rw [w64 (by omega) (by omega)]; omega
    have e2 : IntKind.i64.wrap (((S.length : Nat) : Int) - 2) = ((S.length - 2 : Nat) : Int) := by rw [w64 (by omega) (by omega)]; omega
    have e16 : IntKind.i64.wrap (((S.length : Nat) : Int) - 16) = ((S.length - 16 : Nat) : Int) := by rw [w64 (by omega) (by omega)]; omega
    have e7 : IntKind.i64.wrap (((S.length : Nat) : Int) - 7) = ((S.length - 7 : Nat) : Int) := by rw [w64 (by omega) (by omega)]; omega
    have e1 : IntKind.i64.wrap (((S.length : Nat) : Int) + 1) = ((S.length + 1 : Nat) : Int) := by rw [w64 (by omega) (by omega)]; rfl
    have c15 : (0 : Int) ≤ ((S.length - 15 : Nat) : Int) ∧ ((S.length - 15 : Nat) : Int) < ((64 : Nat) : Int) := by omega
    have c2 : (0 : Int) ≤ ((S.length - 2 : Nat) : Int) ∧ ((S.length - 2 : Nat) : Int) < ((64 : Nat) : Int) := by omega
    have c16 : (0 : Int) ≤ ((S.length - 16 : Nat) : Int) ∧ ((S.length - 16 : Nat) : Int) < ((64 : Nat) : Int) := by omega
    have c7 : (0 : Int) ≤ ((S.length - 7 : Nat) : Int) ∧ ((S.length - 7 : Nat) : Int) < ((64 : Nat) : Int) := by omega
    have c0 : (0 : Int) ≤ ((S.length : Nat) : Int) ∧ ((S.length : Nat) : Int) < ((64 : Nat) : Int) := by omega
    have l15 := hb.ldI (row_front ht (i := S.length - 15) (by omega))
    have l2 := hb.ldI (row_front ht (i := S.length - 2) (by omega))
    have l16 := hb.drew.ldI (row_front ht (i := S.length - 16) (by omega))
    have l7 := hb.drew.ldI (row_front ht (i := S.length - 7) (by omega))
    let x := sch32 (S.getD (S.length - 15) 0) (S.getD (S.length - 2) 0) (S.getD (S.length - 16) 0) (S.getD (S.length - 7) 0)
    obtain ⟨w1, s1, s2, s3⟩ := hb.drew.stC (i := S.length) (by omega) (.int .u32 x)
    have hfs := front_set ht (by omega) x
    have hSl : (S ++ [x]).length = S.length + 1 := by simp
    obtain ⟨w2, cs2, h1, h2, h4, h5⟩ := ih n w1 _ (S ++ [x]) (by rw [hSl]; omega) (by rw [hSl]; omega) (by omega) s2 (by simpa using hc) hfs
    rw [hSl] at h1
    refine ⟨w2, cs2, ?_, h2, by rw [h4]; rfl, s3.predrew.trans' h5 fun _ _ e => e⟩
    show ref01_taken32_l1_b K (ref01_taken32_l1 K n) h3 k5 a6 ⟨gw, 0, none⟩ ((S.length : Nat) : Int) w = _
    unfold ref01_taken32_l1_b
    rw [hd, if_pos rfl, e15, e2, e16, e7]
    simp only [Int.toNat_natCast, add_lit, Nat.mul_one, Nat.zero_add]
    rw [if_pos c15, l15, Option.bind_some, if_pos c2, l2, Option.bind_some, if_pos c7, if_pos c16, l7, Option.bind_some, l16, Option.bind_some, if_pos c0]
    have hx : IntKind.u32.wrap ((IntKind.u32.wrap ((IntKind.u32.wrap ((bits .xor .u32 (bits .xor .u32 (bits .or .u32 (Int.fdiv (S.getD (S.length - 2) 0) (2 ^ 17)) (IntKind.u32.wrap ((S.getD (S.length - 2) 0) * 2 ^ 15))) (bits .or .u32 (Int.fdiv (S.getD (S.length - 2) 0) (2 ^ 19)) (IntKind.u32.wrap ((S.getD (S.length - 2) 0) * 2 ^ 13)))) (Int.fdiv (S.getD (S.length - 2) 0) (2 ^ 10))) + (S.getD (S.length - 7) 0))) + (bits .xor .u32 (bits .xor .u32 (bits .or .u32 (Int.fdiv (S.getD (S.length - 15) 0) (2 ^ 7)) (IntKind.u32.wrap ((S.getD (S.length - 15) 0) * 2 ^ 25))) (bits .or .u32 (Int.fdiv (S.getD (S.length - 15) 0) (2 ^ 18)) (IntKind.u32.wrap ((S.getD (S.length - 15) 0) * 2 ^ 14)))) (Int.fdiv (S.getD (S.length - 15) 0) (2 ^ 3))))) + (S.getD (S.length - 16) 0)) = x := by
      rw [show (15 : Nat) = 32 - 17 from rfl, rr32_or, show (13 : Nat) = 32 - 19 from rfl, rr32_or, show (25 : Nat) = 32 - 7 from rfl, rr32_or, show (14 : Nat) = 32 - 18 from rfl, rr32_or]
      exact sch32_ref _ _ _ _
    rw [hx, s1, Option.bind_some, e1, h1]

theorem ref_l2 (K : Nat) {h3 a6 : Addr} {gk gw : Nat} {W C : List Int} (hW : W.length = 64) (hC : C.length = 80) :
    ∀ (m i n : Nat) (w : World) (a b c d e f g z : Int), i + m = 64 → m < n → Bk 124 w gw (ints .u32 W) → Bk 124 w gk (ints .u32 (kc32 C)) →
      ∃ w', ref01_taken32_l2 K n h3 ⟨gk, 0, none⟩ a6 ⟨gw, 0, none⟩ a b c d e f g z (i : Int) w = some (rounds32 W C m i a b c d e f g z, w') ∧ Upd none_ w w' := by
  intro m
  induction m with
  | zero =>
    intro i n w a b c d e f g z hi hn hb hk
    obtain ⟨n, rfl⟩ : ∃ m, n = m + 1 := ⟨n - 1, by omega⟩
    have : i = 64 := by omega
    subst this
    refine ⟨w, ?_, Upd.refl _ _⟩
    show ref01_taken32_l2_b K (ref01_taken32_l2 K n) h3 ⟨gk, 0, none⟩ a6 ⟨gw, 0, none⟩ a b c d e f g z ((64 : Nat) : Int) w = _
    simp [ref01_taken32_l2_b, rounds32]
  | succ m ih =>
    intro i n w a b c d e f g z hi hn hb hk
    obtain ⟨n, rfl⟩ : ∃ m, n = m + 1 := ⟨n - 1, by omega⟩
    have hd : decide ((i : Int) < 64) = true := by simp; omega
    have e1 : IntKind.i64.wrap ((i : Int) + 1) = ((i + 1 : Nat) : Int) := by rw [w64 (by omega) (by omega)]; rfl
    have c64 : (0 : Int) ≤ (i : Int) ∧ (i : Int) < ((64 : Nat) : Int) := by omega
    have hkl := kc32_len hC
    have lk : ldI .u32 ⟨gk, i, none⟩ w.drew = some (IntKind.u32.wrap (Int.fdiv (C.getD i 0) (2 ^ 32))) := by
      rw [← kc32_get hC (show i < 64 by omega)]
      exact hk.drew.ldI (by
        have h1 : i < (kc32 C).length := by omega
        rw [ints, List.getElem?_map, List.getElem?_eq_getElem h1, List.getD_eq_getElem?_getD, List.getElem?_eq_getElem h1]; rfl)
    have lw : ldI .u32 ⟨gw, i, none⟩ w.drew = some (W.getD i 0) := hb.drew.ldI (by simp [ints, List.getD_eq_getElem?_getD, show i < W.length by omega])
    obtain ⟨w1, h1, h2⟩ := ih (i + 1) n w.drew (IntKind.u32.wrap (t1_32 e f g z (IntKind.u32.wrap (Int.fdiv (C.getD i 0) (2 ^ 32))) (W.getD i 0) + t2_32 a b c)) a b c
      (IntKind.u32.wrap (d + t1_32 e f g z (IntKind.u32.wrap (Int.fdiv (C.getD i 0) (2 ^ 32))) (W.getD i 0))) e f g (by omega) (by omega) hb.drew hk.drew
    refine ⟨w1, ?_, h2.predrew⟩
    show ref01_taken32_l2_b K (ref01_taken32_l2 K n) h3 ⟨gk, 0, none⟩ a6 ⟨gw, 0, none⟩ a b c d e f g z (i : Int) w = _
    unfold ref01_taken32_l2_b
    rw [hd, if_pos rfl, if_pos c64, if_pos c64]
    simp only [Int.toNat_natCast, add_lit, Nat.mul_one, Nat.zero_add]
    rw [lk, Option.bind_some, lw, Option.bind_some, e1]
    have r6 : bits .or .u32 (Int.fdiv e (2 ^ 6)) (IntKind.u32.wrap (e * 2 ^ 26)) = rr32 e 6 := rr32_or e 6
    have r11 : bits .or .u32 (Int.fdiv e (2 ^ 11)) (IntKind.u32.wrap (e * 2 ^ 21)) = rr32 e 11 := rr32_or e 11
    have r25 : bits .or .u32 (Int.fdiv e (2 ^ 25)) (IntKind.u32.wrap (e * 2 ^ 7)) = rr32 e 25 := rr32_or e 25
    have r2 : bits .or .u32 (Int.fdiv a (2 ^ 2)) (IntKind.u32.wrap (a * 2 ^ 30)) = rr32 a 2 := rr32_or a 2
    have r13 : bits .or .u32 (Int.fdiv a (2 ^ 13)) (IntKind.u32.wrap (a * 2 ^ 19)) = rr32 a 13 := rr32_or a 13
    have r22 : bits .or .u32 (Int.fdiv a (2 ^ 22)) (IntKind.u32.wrap (a * 2 ^ 10)) = rr32 a 22 := rr32_or a 22
    rw [r6, r11, r25, r2, r13, r22, ch_or (k := .u32) rfl _ all32, maj_or (k := .u32) rfl]
    exact h1

/-- sums of words of 32 bits -/
def sums32 (v x : List Int) : List Int := (List.range 8).map fun i => IntKind.u32.wrap (v.getD i 0 + x.getD i 0)

/-- a block is taken, of words that are of 32 bits -/
def tk32 (C V bs : List Int) : List Int :=
  sums32 V (list8 (rounds32 (ext32 48 (words32 bs 16)) C 64 0 (V.getD 0 0) (V.getD 1 0) (V.getD 2 0) (V.getD 3 0) (V.getD 4 0) (V.getD 5 0) (V.getD 6 0) (V.getD 7 0)))

theorem tk32_len (C V bs : List Int) : (tk32 C V bs).length = 8 := by simp [tk32, sums32]

theorem taken32_ok {K : Nat} (hK : 18446744073709551616 ≤ K) {w : World} {b : Sl} {bs V C : List Int} (hbl : bs.length = 64) (hV : V.length = 8) (hC : C.length = 80) (hbv : ∀ p, b.a = some p → p.block < w.heap.size) (hr : RdS .u8 w b bs) :
    ∃ w', ref01_taken32 K (ints .u32 V).toArray b (ints .u32 (kc32 C)).toArray w = some (((ints .u32 (tk32 C V bs)).toArray, ()), w') ∧ Upd none_ w w' := by
  obtain ⟨w1, n1, b1, u1, z1⟩ := newB_ok (ints .u32 V).toArray 126 w
  obtain ⟨w2, n2, b2, u2, z2⟩ := newB_ok (ints .u32 (kc32 C)).toArray 124 w1
  obtain ⟨w3, n3, b3, u3, z3⟩ := newB_ok z126 126 w2
  obtain ⟨w4, n4, b4, u4, z4⟩ := newB_ok z124 124 w3
  have b1 : Bk 126 w1 w.heap.size (ints .u32 V) := b1
  have b2 : Bk 124 w2 w1.heap.size (ints .u32 (kc32 C)) := b2
  have b3 : Bk 126 w3 w2.heap.size z126.toList := b3
  have b4 : Bk 124 w4 w3.heap.size z124.toList := b4
  have hr4 : RdS .u8 w4 b bs := (((hr.upd0 u1).upd0 u2).upd0 u3).upd0 u4
  obtain ⟨w5, c5, h5, b5, l5, t5, u5⟩ := ref_l0 K (h3 := ⟨w.heap.size, 0, none⟩) (k5 := ⟨w1.heap.size, 0, none⟩) (a6 := ⟨w2.heap.size, 0, none⟩) hbl (gw := w3.heap.size) (fun p hp e => by have := hbv p hp; omega) 16 0 K w4 _ rfl (by omega) hr4 b4 rfl (by simp [words32])
  have h5 : ref01_taken32_l0 K K b ⟨w.heap.size, 0, none⟩ ⟨w1.heap.size, 0, none⟩ ⟨w2.heap.size, 0, none⟩ ⟨w3.heap.size, 0, none⟩ 0 w4 = _ := h5
  obtain ⟨w6, c6, h6, b6, t6, u6⟩ := ref_l1 K (h3 := ⟨w.heap.size, 0, none⟩) (k5 := ⟨w1.heap.size, 0, none⟩) (a6 := ⟨w2.heap.size, 0, none⟩) 48 K w5 c5 (words32 bs 16) (by rw [words32_len]) (by rw [words32_len]; decide) (by omega) b5 l5 (by rw [words32_len]; exact t5)
  rw [words32_len] at h6
  have h6 : ref01_taken32_l1 K K ⟨w.heap.size, 0, none⟩ ⟨w1.heap.size, 0, none⟩ ⟨w2.heap.size, 0, none⟩ ⟨w3.heap.size, 0, none⟩ 16 w5 = _ := h6
  rw [t6] at b6
  have n13 : ¬ w.heap.size = w3.heap.size := by omega
  have n23 : ¬ w1.heap.size = w3.heap.size := by omega
  have n33 : ¬ w2.heap.size = w3.heap.size := by omega
  have bV : Bk 126 w6 w.heap.size (ints .u32 V) := (((((b1.upd0 u2).upd0 u3).upd0 u4).upd u5 n13).upd u6 n13)
  have bC : Bk 124 w6 w1.heap.size (ints .u32 (kc32 C)) := ((((b2.upd0 u3).upd0 u4).upd u5 n23).upd u6 n23)
  have bO : Bk 126 w6 w2.heap.size z126.toList := (((b3.upd0 u4).upd u5 n33).upd u6 n33)
  have gv : ∀ i, i < 8 → (ints .u32 V)[i]? = some (.int .u32 (V.getD i 0)) := fun i hi => by
    have : i < V.length := by omega
    rw [ints, List.getElem?_map, List.getElem?_eq_getElem this, List.getD_eq_getElem?_getD, List.getElem?_eq_getElem this]; rfl
  have h7x := ref_l2 K (h3 := ⟨w.heap.size, 0, none⟩) (a6 := ⟨w2.heap.size, 0, none⟩) (gk := w1.heap.size) (gw := w3.heap.size) (W := ext32 48 (words32 bs 16)) (C := C) (by rw [ext32_len, words32_len]) hC 64 0 K w6.drew.drew (V.getD 0 0) (V.getD 1 0) (V.getD 2 0) (V.getD 3 0) (V.getD 4 0) (V.getD 5 0) (V.getD 6 0) (V.getD 7 0) rfl (by omega) b6.drew.drew bC.drew.drew
  obtain ⟨y, hy⟩ : ∃ y, rounds32 (ext32 48 (words32 bs 16)) C 64 0 (V.getD 0 0) (V.getD 1 0) (V.getD 2 0) (V.getD 3 0) (V.getD 4 0) (V.getD 5 0) (V.getD 6 0) (V.getD 7 0) = y := ⟨_, rfl⟩
  rw [hy] at h7x
  obtain ⟨w7, h7, u7⟩ := h7x
  have h7 : ref01_taken32_l2 K K ⟨w.heap.size, 0, none⟩ ⟨w1.heap.size, 0, none⟩ ⟨w2.heap.size, 0, none⟩ ⟨w3.heap.size, 0, none⟩ (V.getD 0 0) (V.getD 1 0) (V.getD 2 0) (V.getD 3 0) (V.getD 4 0) (V.getD 5 0) (V.getD 6 0) (V.getD 7 0) 0 w6.drew.drew = some (y, w7) := h7
  have hc : tk32 C V bs = sums32 V (list8 y) := by unfold tk32; rw [hy]
  have hl8 : (ints .u32 (sums32 V (list8 y))).length = 8 := by simp [ints, sums32]
  have bV7 : Bk 126 w7 w.heap.size (ints .u32 V) := bV.drew.drew.upd0 u7
  have bO7 : Bk 126 w7 w2.heap.size z126.toList := bO.drew.drew.upd0 u7
  have hz8 : z126.toList.length = 8 := rfl
  obtain ⟨w8, a1, a2, a3⟩ := bO7.stA (o := 0) (vs := (ints .u32 (sums32 V (list8 y))).toArray) (by rw [List.size_toArray, hl8, hz8]; decide) (fun v hv => ints_one v hv)
  have es : seg z126.toList 0 (ints .u32 (sums32 V (list8 y))) = ints .u32 (sums32 V (list8 y)) := by
    simp only [seg, List.take_zero, List.nil_append, Nat.zero_add]
    rw [List.drop_eq_nil_of_le (by rw [hl8, hz8]; decide), List.append_nil]
  have a2 : Bk 126 w8 w2.heap.size (ints .u32 (sums32 V (list8 y))) := by rw [← es]; exact a2
  have hl := a2.ldA (i := 0) (n := 8) (by rw [hl8]; decide)
  rw [List.drop_zero, List.take_of_length_le (by rw [hl8]; decide)] at hl
  have hsum : [IntKind.u32.wrap (V.getD 0 0 + y.1), IntKind.u32.wrap (V.getD 1 0 + y.2.1), IntKind.u32.wrap (V.getD 2 0 + y.2.2.1), IntKind.u32.wrap (V.getD 3 0 + y.2.2.2.1), IntKind.u32.wrap (V.getD 4 0 + y.2.2.2.2.1), IntKind.u32.wrap (V.getD 5 0 + y.2.2.2.2.2.1), IntKind.u32.wrap (V.getD 6 0 + y.2.2.2.2.2.2.1), IntKind.u32.wrap (V.getD 7 0 + y.2.2.2.2.2.2.2.1)] = sums32 V (list8 y) := rfl
  refine ⟨w8, ?_, ?_⟩
  · unfold ref01_taken32
    rw [n1, bnd_ok, n2, bnd_ok, n3, bnd_ok, n4, bnd_ok, h5, bnd_ok, h6, bnd_ok]
    simp only [add_lit, Nat.zero_mul, Nat.one_mul, Nat.add_zero, Nat.zero_add, Nat.reduceMul]
    rw [bV.drew.ldI (gv 0 (by decide)), Option.bind_some, bV.drew.ldI (gv 1 (by decide)), Option.bind_some, bV.drew.ldI (gv 2 (by decide)), Option.bind_some, bV.drew.ldI (gv 3 (by decide)), Option.bind_some,
      bV.drew.drew.ldI (gv 4 (by decide)), Option.bind_some, bV.drew.drew.ldI (gv 5 (by decide)), Option.bind_some, bV.drew.drew.ldI (gv 6 (by decide)), Option.bind_some, bV.drew.drew.ldI (gv 7 (by decide)), Option.bind_some,
      h7, bnd_ok, bV7.ldI (gv 0 (by decide)), Option.bind_some, bV7.ldI (gv 1 (by decide)), Option.bind_some, bV7.ldI (gv 2 (by decide)), Option.bind_some, bV7.ldI (gv 3 (by decide)), Option.bind_some,
      bV7.ldI (gv 4 (by decide)), Option.bind_some, bV7.ldI (gv 5 (by decide)), Option.bind_some, bV7.ldI (gv 6 (by decide)), Option.bind_some, bV7.ldI (gv 7 (by decide)), Option.bind_some, built126, Option.bind_some, hsum,
      if_pos (by rw [List.size_toArray, hl8]), a1, Option.bind_some, hl, Option.bind_some, hc]
  · have q4 : Upd none_ w w4 := ((u1.and0 u2).and0 u3).and0 u4
    have q6 : Upd none_ w w6 := (q4.trans' u5 fun k hk e => by omega).trans' u6 fun k hk e => by omega
    exact (q6.drew.drew.and0 u7).trans' a3 fun k hk e => by omega

/-- blocks are taken, of words that are of 32 bits -/
def tks32 (C : List Int) : Nat → List Int → List Int → List Int
  | 0, V, _ => V
  | n + 1, V, bs => tks32 C n (tk32 C V bs) (bs.drop 64)

theorem tks32_len (C : List Int) : ∀ (n : Nat) (V bs : List Int), V.length = 8 → (tks32 C n V bs).length = 8
  | 0, _, _, h => h
  | n + 1, V, bs, _ => tks32_len C n _ _ (tk32_len C V bs)

theorem comp_tk (C H bs : List Int) : comp32 C H bs = (tk32 C (H.map IntKind.u32.wrap) bs).map IntKind.u64.wrap ∧ (comp32 C H bs).map IntKind.u32.wrap = tk32 C (H.map IntKind.u32.wrap) bs := by
  refine ⟨?_, ?_⟩
  · unfold comp32 tk32 rv32 sum8 sums32
    rw [List.map_map]; rfl
  · unfold comp32 tk32 rv32 sum8 sums32
    rw [List.map_map]
    apply List.map_congr_left
    intro i _
    simp only [Function.comp, IntKind.wrap_u32, IntKind.wrap_u64]
    omega

theorem comps_tks (C : List Int) : ∀ (n : Nat) (H bs : List Int), comps32 C (n + 1) H bs = (tks32 C (n + 1) (H.map IntKind.u32.wrap) bs).map IntKind.u64.wrap
  | 0, H, bs => (comp_tk C H bs).1
  | n + 1, H, bs => by
    show comps32 C (n + 1) (comp32 C H bs) (bs.drop 64) = (tks32 C (n + 1) (tk32 C (H.map IntKind.u32.wrap) bs) (bs.drop 64)).map IntKind.u64.wrap
    rw [comps_tks C n, (comp_tk C H bs).2]

theorem set_front {κ : IntKind} {cs : List Value} {xs : List Int} {i : Nat} (ht : cs.take i = ints κ (xs.take i)) (hi : i < xs.length) (hc : i < cs.length) : (cs.set i (.int κ (xs.getD i 0))).take (i + 1) = ints κ (xs.take (i + 1)) := by
  have hl : (xs.take i).length = i := by simp; omega
  have h1 : cs.take (xs.take i).length = ints κ (xs.take i) := by rw [hl]; exact ht
  have h2 := front_set h1 (by rw [hl]; exact hc) (xs.getD i 0)
  have h3 : xs.take i ++ [xs.getD i 0] = xs.take (i + 1) := by
    rw [List.take_add_one, List.getElem?_eq_getElem hi, List.getD_eq_getElem?_getD, List.getElem?_eq_getElem hi]; rfl
  rw [hl, h3] at h2
  have h4 : (xs.take (i + 1)).length = i + 1 := by simp; omega
  rw [h4] at h2; exact h2

theorem rn_l0 (K : Nat) {p1 : Sl} {h2 a4 : Addr} {gk : Nat} {C : List Int} (hC : C.length = 80) (hg : gk ≠ 1) :
    ∀ (d i n : Nat) (w : World) (cs : List Value), i + d = 64 → d < n → Rd w ⟨1, 0, none⟩ (ints .u64 C) → Bk 124 w gk cs → cs.length = 64 → cs.take i = ints .u32 ((kc32 C).take i) →
      ∃ w', ref01_narrow_l0 K n p1 h2 a4 ⟨gk, 0, none⟩ (i : Int) w = some ((), w') ∧ Bk 124 w' gk (ints .u32 (kc32 C)) ∧ Upd (· = gk) w w' := by
  intro d
  induction d with
  | zero =>
    intro i n w cs hi hn hT hb hc ht
    obtain ⟨n, rfl⟩ : ∃ m, n = m + 1 := ⟨n - 1, by omega⟩
    have : i = 64 := by omega
    subst this
    rw [List.take_of_length_le (by omega), List.take_of_length_le (by rw [kc32_len hC]; decide)] at ht
    refine ⟨w, ?_, ht ▸ hb, Upd.refl _ _⟩
    show ref01_narrow_l0_b K (ref01_narrow_l0 K n) p1 h2 a4 ⟨gk, 0, none⟩ ((64 : Nat) : Int) w = _
    simp [ref01_narrow_l0_b]
  | succ d ih =>
    intro i n w cs hi hn hT hb hc ht
    obtain ⟨n, rfl⟩ : ∃ m, n = m + 1 := ⟨n - 1, by omega⟩
    have hd : decide ((i : Int) < 64) = true := by simp; omega
    have e1 : IntKind.i64.wrap ((i : Int) + 1) = ((i + 1 : Nat) : Int) := by rw [w64 (by omega) (by omega)]; rfl
    have c80 : (0 : Int) ≤ (i : Int) ∧ (i : Int) < ((80 : Nat) : Int) := by omega
    have c64 : (0 : Int) ≤ (i : Int) ∧ (i : Int) < ((64 : Nat) : Int) := by omega
    have l0 : ldI .u64 ⟨1, i, none⟩ w = some (C.getD i 0) := by
      have := hT i (.int .u64 (C.getD i 0)) (by simp [ints, List.getD_eq_getElem?_getD, show i < C.length by omega])
      rw [add_lit, Nat.zero_add] at this
      simp [ldI, this, asI]
    obtain ⟨w1, s1, s2, s3⟩ := hb.stC (i := i) (by omega) (.int .u32 ((kc32 C).getD i 0))
    obtain ⟨w2, h1, h2', h3⟩ := ih (i + 1) n w1 _ (by omega) (by omega) (hT.upd s3 fun _ e => hg e.symm) s2 (by simpa using hc) (set_front ht (by rw [kc32_len hC]; omega) (by omega))
    refine ⟨w2, ?_, h2', s3.trans' h3 fun _ _ e => e⟩
    show ref01_narrow_l0_b K (ref01_narrow_l0 K n) p1 h2 a4 ⟨gk, 0, none⟩ (i : Int) w = _
    unfold ref01_narrow_l0_b
    rw [hd, if_pos rfl, if_pos c80]
    simp only [Int.toNat_natCast, add_lit, Nat.mul_one, Nat.zero_add]
    rw [l0, Option.bind_some, if_pos c64, ← kc32_get hC (show i < 64 by omega), s1, Option.bind_some, e1, h1]

theorem rn_l1 (K : Nat) {p1 : Sl} {a4 k5 : Addr} {gh gv : Nat} {H : List Int} (hH : H.length = 8) (hne : gh ≠ gv) :
    ∀ (d i n : Nat) (w : World) (cs : List Value), i + d = 8 → d < n → Bk 80 w gh (ints .u64 H) → Bk 126 w gv cs → cs.length = 8 → cs.take i = ints .u32 ((H.map IntKind.u32.wrap).take i) →
      ∃ w', ref01_narrow_l1 K n p1 ⟨gh, 0, none⟩ a4 k5 ⟨gv, 0, none⟩ (i : Int) w = some ((), w') ∧ Bk 126 w' gv (ints .u32 (H.map IntKind.u32.wrap)) ∧ Upd (· = gv) w w' := by
  intro d
  induction d with
  | zero =>
    intro i n w cs hi hn hbh hb hc ht
    obtain ⟨n, rfl⟩ : ∃ m, n = m + 1 := ⟨n - 1, by omega⟩
    have : i = 8 := by omega
    subst this
    rw [List.take_of_length_le (by omega), List.take_of_length_le (by simp [hH])] at ht
    refine ⟨w, ?_, ht ▸ hb, Upd.refl _ _⟩
    show ref01_narrow_l1_b K (ref01_narrow_l1 K n) p1 ⟨gh, 0, none⟩ a4 k5 ⟨gv, 0, none⟩ ((8 : Nat) : Int) w = _
    simp [ref01_narrow_l1_b]
  | succ d ih =>
    intro i n w cs hi hn hbh hb hc ht
    obtain ⟨n, rfl⟩ : ∃ m, n = m + 1 := ⟨n - 1, by omega⟩
    have hd : decide ((i : Int) < 8) = true := by simp; omega
    have e1 : IntKind.i64.wrap ((i : Int) + 1) = ((i + 1 : Nat) : Int) := by rw [w64 (by omega) (by omega)]; rfl
    have c0 : (0 : Int) ≤ (i : Int) ∧ (i : Int) < ((8 : Nat) : Int) := by omega
    have hi8 : i < H.length := by omega
    have l0 : ldI .u64 ⟨gh, i, none⟩ w = some (H.getD i 0) := hbh.ldI (by simp [ints, List.getD_eq_getElem?_getD, hi8])
    have hg : (H.map IntKind.u32.wrap).getD i 0 = IntKind.u32.wrap (H.getD i 0) := by
      rw [List.getD_eq_getElem?_getD, List.getElem?_map, List.getElem?_eq_getElem hi8, List.getD_eq_getElem?_getD, List.getElem?_eq_getElem hi8]; rfl
    obtain ⟨w1, s1, s2, s3⟩ := hb.stC (i := i) (by omega) (.int .u32 ((H.map IntKind.u32.wrap).getD i 0))
    obtain ⟨w2, h1, h2, h3⟩ := ih (i + 1) n w1 _ (by omega) (by omega) (hbh.upd s3 hne) s2 (by simpa using hc) (set_front ht (by simp [hH]; omega) (by omega))
    refine ⟨w2, ?_, h2, s3.trans' h3 fun _ _ e => e⟩
    show ref01_narrow_l1_b K (ref01_narrow_l1 K n) p1 ⟨gh, 0, none⟩ a4 k5 ⟨gv, 0, none⟩ (i : Int) w = _
    unfold ref01_narrow_l1_b
    rw [hd, if_pos rfl, if_pos c0]
    simp only [Int.toNat_natCast, add_lit, Nat.mul_one, Nat.zero_add]
    rw [l0, Option.bind_some, if_pos c0, ← hg, s1, Option.bind_some, e1, h1]

theorem rn_l3 (K : Nat) {a4 : Addr} {gh gv : Nat} {V : List Int} (hV : V.length = 8) (hne : gv ≠ gh) :
    ∀ (d i n : Nat) (w : World) (cs : List Value), i + d = 8 → d < n → Bk 126 w gv (ints .u32 V) → Bk 80 w gh cs → cs.length = 8 → cs.take i = ints .u64 ((V.map IntKind.u64.wrap).take i) →
      ∃ w', ref01_narrow_l3 K n ⟨gh, 0, none⟩ a4 ⟨gv, 0, none⟩ (i : Int) w = some ((), w') ∧ Bk 80 w' gh (ints .u64 (V.map IntKind.u64.wrap)) ∧ Upd (· = gh) w w' := by
  intro d
  induction d with
  | zero =>
    intro i n w cs hi hn hbh hb hc ht
    obtain ⟨n, rfl⟩ : ∃ m, n = m + 1 := ⟨n - 1, by omega⟩
    have : i = 8 := by omega
    subst this
    rw [List.take_of_length_le (by omega), List.take_of_length_le (by simp [hV])] at ht
    refine ⟨w, ?_, ht ▸ hb, Upd.refl _ _⟩
    show ref01_narrow_l3_b K (ref01_narrow_l3 K n) ⟨gh, 0, none⟩ a4 ⟨gv, 0, none⟩ ((8 : Nat) : Int) w = _
    simp [ref01_narrow_l3_b]
  | succ d ih =>
    intro i n w cs hi hn hbh hb hc ht
    obtain ⟨n, rfl⟩ : ∃ m, n = m + 1 := ⟨n - 1, by omega⟩
    have hd : decide ((i : Int) < 8) = true := by simp; omega
    have e1 : IntKind.i64.wrap ((i : Int) + 1) = ((i + 1 : Nat) : Int) := by rw [w64 (by omega) (by omega)]; rfl
    have c0 : (0 : Int) ≤ (i : Int) ∧ (i : Int) < ((8 : Nat) : Int) := by omega
    have hi8 : i < V.length := by omega
    have l0 : ldI .u32 ⟨gv, i, none⟩ w = some (V.getD i 0) := hbh.ldI (by simp [ints, List.getD_eq_getElem?_getD, hi8])
    have hg : (V.map IntKind.u64.wrap).getD i 0 = IntKind.u64.wrap (V.getD i 0) := by
      rw [List.getD_eq_getElem?_getD, List.getElem?_map, List.getElem?_eq_getElem hi8, List.getD_eq_getElem?_getD, List.getElem?_eq_getElem hi8]; rfl
    obtain ⟨w1, s1, s2, s3⟩ := hb.stC (i := i) (by omega) (.int .u64 ((V.map IntKind.u64.wrap).getD i 0))
    obtain ⟨w2, h1, h2, h3⟩ := ih (i + 1) n w1 _ (by omega) (by omega) (hbh.upd s3 hne) s2 (by simpa using hc) (set_front ht (by simp [hV]; omega) (by omega))
    refine ⟨w2, ?_, h2, s3.trans' h3 fun _ _ e => e⟩
    show ref01_narrow_l3_b K (ref01_narrow_l3 K n) ⟨gh, 0, none⟩ a4 ⟨gv, 0, none⟩ (i : Int) w = _
    unfold ref01_narrow_l3_b
    rw [hd, if_pos rfl, if_pos c0]
    simp only [Int.toNat_natCast, add_lit, Nat.mul_one, Nat.zero_add]
    rw [l0, Option.bind_some, if_pos c0, ← hg, s1, Option.bind_some, e1, h1]

theorem lay' {e : TypeId} {w : World} {g : Nat} {cs vs : List Value} (hb : Bk e w g cs) (hl : vs.length = cs.length) (h1 : ∀ v ∈ vs, v.oneCell' = true) :
    ∃ w', stA ⟨g, 0, none⟩ vs.toArray w = some w' ∧ Bk e w' g vs ∧ Upd (· = g) w w' ∧ ldA vs.length ⟨g, 0, none⟩ w' = some vs.toArray := by
  obtain ⟨w', a1, a2, a3⟩ := hb.stA (o := 0) (vs := vs.toArray) (by simp [hl]) (fun v hv => h1 v hv)
  have es : seg cs 0 vs = vs := by
    simp only [seg, List.take_zero, List.nil_append, Nat.zero_add]
    rw [List.drop_eq_nil_of_le (by omega), List.append_nil]
  have a2 : Bk e w' g vs := by rw [← es]; exact a2
  have hl := a2.ldA (i := 0) (n := vs.length) (by omega)
  rw [List.drop_zero, List.take_of_length_le (Nat.le_refl _)] at hl
  exact ⟨w', a1, a2, a3, hl⟩

theorem rn_l2 {K : Nat} (hK : 18446744073709551616 ≤ K) {p1 : Sl} {bs : List Int} {h2 a4 : Addr} {gk gv : Nat} {C : List Int} (hC : C.length = 80) (hkv : gk ≠ gv) (hlim : bs.length ≤ 140737488355328) {m0 : Nat} (hbs : bs.length = 64 * m0)
    (hpb : ∀ p, p1.a = some p → p.block ≠ gv) :
    ∀ (m j n : Nat) (w : World) (V : List Int), m + j = m0 → m < n → V.length = 8 → (∀ p, p1.a = some p → p.block < w.heap.size) → RdS .u8 w p1 bs → Bk 124 w gk (ints .u32 (kc32 C)) → Bk 126 w gv (ints .u32 V) →
      ∃ w', ref01_narrow_l2 K n p1 h2 a4 ⟨gk, 0, none⟩ ⟨gv, 0, none⟩ ((64 * j : Nat) : Int) w = some ((), w') ∧ Bk 126 w' gv (ints .u32 (tks32 C m V (bs.drop (64 * j)))) ∧ Upd (· = gv) w w' := by
  intro m
  induction m with
  | zero =>
    intro j n w V hj hn hV hpl hr hbk hb
    obtain ⟨n, rfl⟩ : ∃ m, n = m + 1 := ⟨n - 1, by omega⟩
    refine ⟨w, ?_, hb, Upd.refl _ _⟩
    have hd : decide ((((64 * j : Nat)) : Int) < ((p1.len : Nat) : Int)) = false := by rw [hr.len, hbs]; simp; omega
    show ref01_narrow_l2_b K (ref01_narrow_l2 K n) p1 h2 a4 ⟨gk, 0, none⟩ ⟨gv, 0, none⟩ ((64 * j : Nat) : Int) w = _
    unfold ref01_narrow_l2_b
    rw [hd, if_neg (by decide)]
  | succ m ih =>
    intro j n w V hj hn hV hpl hr hbk hb
    obtain ⟨n, rfl⟩ : ∃ m, n = m + 1 := ⟨n - 1, by omega⟩
    have hlen := hr.len
    have hcap := hr.cap
    have hd : decide ((((64 * j : Nat)) : Int) < ((p1.len : Nat) : Int)) = true := by rw [hlen, hbs]; simp; omega
    have e64 : IntKind.i64.wrap (((64 * j : Nat) : Int) + 64) = ((64 * j + 64 : Nat) : Int) := by rw [w64 (by omega) (by omega)]; omega
    have c1 : (0 : Int) ≤ ((64 * j + 64 : Nat) : Int) ∧ ((64 * j + 64 : Nat) : Int) ≤ ((p1.cap : Nat) : Int) := by omega
    have c2 : (0 : Int) ≤ ((64 * j : Nat) : Int) ∧ ((64 * j : Nat) : Int) ≤ ((64 * j + 64 : Nat) : Int) := by omega
    have hs := hr.drew.sub (lo := 64 * j) (hi := 64 * j + 64) (by omega) (by omega)
    have hx : ((bs.take (64 * j + 64)).drop (64 * j)).length = 64 := by simp; omega
    have hblk : ∀ q, sla p1.a (64 * j) p1.cap 1 = some q → q.block < w.drew.heap.size := by
      intro q hq
      unfold sla at hq
      split at hq
      · exact hpl q hq
      · cases hb' : p1.a with
        | none => rw [hb'] at hq; simp at hq
        | some p =>
          rw [hb'] at hq; simp at hq
          have : q.block = p.block := by rw [← hq]; unfold Addr.add; split <;> rfl
          rw [this]; exact hpl p hb'
    obtain ⟨w1, h1, u1⟩ := taken32_ok hK (w := w.drew) (b := ⟨sla p1.a (64 * j) p1.cap 1, 64 * j + 64 - 64 * j, p1.cap - 64 * j⟩) hx hV hC hblk hs
    have hwd : words32 ((bs.take (64 * j + 64)).drop (64 * j)) 16 = words32 (bs.drop (64 * j)) 16 := by
      have : ∀ n, n ≤ 16 → words32 ((bs.take (64 * j + 64)).drop (64 * j)) n = words32 (bs.drop (64 * j)) n := by
        intro n
        induction n with
        | zero => intro _; rfl
        | succ n ihn =>
          intro hn
          have g : ∀ q, q < 64 → ((bs.take (64 * j + 64)).drop (64 * j)).getD q 0 = (bs.drop (64 * j)).getD q 0 := fun q hq => by
            simp [List.getD_eq_getElem?_getD, List.getElem?_drop, List.getElem?_take, show 64 * j + q < 64 * j + 64 by omega]
          simp only [words32]
          rw [ihn (by omega), g _ (by omega), g _ (by omega), g _ (by omega), g _ (by omega)]
      exact this 16 (Nat.le_refl _)
    have htk : tk32 C V ((bs.take (64 * j + 64)).drop (64 * j)) = tk32 C V (bs.drop (64 * j)) := by unfold tk32; rw [hwd]
    rw [htk] at h1
    have hl8 : (ints .u32 (tk32 C V (bs.drop (64 * j)))).length = 8 := by rw [ints_length, tk32_len]
    obtain ⟨w2, a1, a2, a3, a4'⟩ := lay' (hb.drew.upd0 u1) (vs := ints .u32 (tk32 C V (bs.drop (64 * j)))) (by rw [hl8, ints_length, hV]) ints_one
    have u2 : Upd (· = gv) w w2 := (u1.predrew.mono fun _ _ e => e.elim).trans' a3 fun _ _ e => e
    obtain ⟨w3, h3, b3, u3⟩ := ih (j + 1) n w2 (tk32 C V (bs.drop (64 * j))) (by omega) (by omega) (tk32_len _ _ _) (fun p hp => by have := hpl p hp; have := u2.size; omega)
      (hr.upd u2 fun p hp e => hpb p hp e) (hbk.upd u2 fun e => hkv e) a2
    have lV := hb.drew.ldA (i := 0) (n := 8) (by rw [ints_length, hV]; decide)
    rw [List.drop_zero, List.take_of_length_le (by rw [ints_length, hV]; decide)] at lV
    have lK := hbk.drew.ldA (i := 0) (n := 64) (by rw [ints_length, kc32_len hC]; decide)
    rw [List.drop_zero, List.take_of_length_le (by rw [ints_length, kc32_len hC]; decide)] at lK
    refine ⟨w3, ?_, ?_, u2.trans' u3 fun _ _ e => e⟩
    · show ref01_narrow_l2_b K (ref01_narrow_l2 K n) p1 h2 a4 ⟨gk, 0, none⟩ ⟨gv, 0, none⟩ ((64 * j : Nat) : Int) w = _
      unfold ref01_narrow_l2_b
      rw [hd, if_pos rfl, e64]
      simp only [Int.toNat_natCast]
      have e64' : ((64 * j + 64 : Nat) : Int) = ((64 * (j + 1) : Nat) : Int) := by omega
      rw [if_pos c1, if_pos c2, lV, Option.bind_some, lK, Option.bind_some, h1, bnd_ok]
      show (if (ints .u32 (tk32 C V (bs.drop (64 * j)))).toArray.size = 8 then _ else none) = _
      rw [if_pos (by rw [List.size_toArray, hl8]), a1, Option.bind_some, e64', h3]
    · have : tks32 C (m + 1) V (bs.drop (64 * j)) = tks32 C m (tk32 C V (bs.drop (64 * j))) (bs.drop (64 * (j + 1))) := by
        show tks32 C m (tk32 C V (bs.drop (64 * j))) ((bs.drop (64 * j)).drop 64) = _
        rw [List.drop_drop]
        rfl
      rw [this]; exact b3

/-- the document's narrow: words of a number of blocks -/
theorem refNarrow_ok {K : Nat} (hK : 18446744073709551616 ≤ K) {w : World} {p1 : Sl} {bs H C : List Int} (hC : C.length = 80) (hH : H.length = 8) (hlim : bs.length ≤ 140737488355328) {m : Nat} (hbs : bs.length = 64 * (m + 1))
    (hpl : ∀ p, p1.a = some p → p.block < w.heap.size) (hr : RdS .u8 w p1 bs) (hT : Rd w ⟨1, 0, none⟩ (ints .u64 C)) :
    ∃ w', ref01_narrow K (ints .u64 H).toArray p1 w = some (((ints .u64 (comps32 C (m + 1) H bs)).toArray, ()), w') ∧ Upd none_ w w' := by
  have hRC : 1 < w.heap.size := hT.lt (fun e => by have := congrArg List.length e; simp [hC] at this)
  obtain ⟨w1, n1, b1, u1, z1⟩ := newB_ok (ints .u64 H).toArray 80 w
  obtain ⟨w2, n2, b2, u2, z2⟩ := newB_ok z80 80 w1
  obtain ⟨w3, n3, b3, u3, z3⟩ := newB_ok z124 124 w2
  have b1 : Bk 80 w1 w.heap.size (ints .u64 H) := b1
  have b2 : Bk 80 w2 w1.heap.size z80.toList := b2
  have b3 : Bk 124 w3 w2.heap.size z124.toList := b3
  have q3 : Upd none_ w w3 := (u1.and0 u2).and0 u3
  obtain ⟨w4, h4, b4, u4⟩ := rn_l0 K (p1 := p1) (h2 := ⟨w.heap.size, 0, none⟩) (a4 := ⟨w1.heap.size, 0, none⟩) (gk := w2.heap.size) hC (by omega) 64 0 K w3 _ rfl (by omega) (hT.upd q3 fun _ => id) b3 rfl (by simp)
  have h4 : ref01_narrow_l0 K K p1 ⟨w.heap.size, 0, none⟩ ⟨w1.heap.size, 0, none⟩ ⟨w2.heap.size, 0, none⟩ 0 w3 = _ := h4
  obtain ⟨w5, n5, b5, u5, z5⟩ := newB_ok z126 126 w4
  have b5 : Bk 126 w5 w4.heap.size z126.toList := b5
  have s4 := u4.size
  have d1 : ¬ w.heap.size = w2.heap.size := by omega
  have d2 : ¬ w1.heap.size = w2.heap.size := by omega
  have bH : Bk 80 w5 w.heap.size (ints .u64 H) := ((((b1.upd0 u2).upd0 u3).upd u4 d1).upd0 u5)
  have bO : Bk 80 w5 w1.heap.size z80.toList := (((b2.upd0 u3).upd u4 d2).upd0 u5)
  have bk : Bk 124 w5 w2.heap.size (ints .u32 (kc32 C)) := b4.upd0 u5
  obtain ⟨w6, h6, b6, u6⟩ := rn_l1 K (p1 := p1) (a4 := ⟨w1.heap.size, 0, none⟩) (k5 := ⟨w2.heap.size, 0, none⟩) (gh := w.heap.size) (gv := w4.heap.size) hH (by omega) 8 0 K w5 _ rfl (by omega) bH b5 rfl (by simp)
  have h6 : ref01_narrow_l1 K K p1 ⟨w.heap.size, 0, none⟩ ⟨w1.heap.size, 0, none⟩ ⟨w2.heap.size, 0, none⟩ ⟨w4.heap.size, 0, none⟩ 0 w5 = _ := h6
  have q6 : Upd none_ w w6 := ((q3.trans' u4 fun k hk e => by omega).and0 u5).trans' u6 fun k hk e => by omega
  have s6 := u6.size
  have d3 : ¬ w2.heap.size = w4.heap.size := by omega
  have d4 : ¬ w.heap.size = w4.heap.size := by omega
  have d5 : ¬ w1.heap.size = w4.heap.size := by omega
  have hVl : (H.map IntKind.u32.wrap).length = 8 := by rw [List.length_map, hH]
  obtain ⟨w7, h7, b7, u7⟩ := rn_l2 hK (p1 := p1) (h2 := ⟨w.heap.size, 0, none⟩) (a4 := ⟨w1.heap.size, 0, none⟩) (gk := w2.heap.size) (gv := w4.heap.size) hC d3 hlim hbs (fun p hp e => by have := hpl p hp; omega) (m + 1) 0 K w6 _ rfl (by omega) hVl
    (fun p hp => by have := hpl p hp; have := q6.size; omega) (hr.upd0 q6) (bk.upd u6 d3) b6
  have h7 : ref01_narrow_l2 K K p1 ⟨w.heap.size, 0, none⟩ ⟨w1.heap.size, 0, none⟩ ⟨w2.heap.size, 0, none⟩ ⟨w4.heap.size, 0, none⟩ 0 w6 = _ := h7
  have b7 : Bk 126 w7 w4.heap.size (ints .u32 (tks32 C (m + 1) (H.map IntKind.u32.wrap) bs)) := b7
  have s7 := u7.size
  obtain ⟨w8, h8, b8, u8⟩ := rn_l3 K (a4 := ⟨w1.heap.size, 0, none⟩) (gh := w.heap.size) (gv := w4.heap.size) (tks32_len C (m + 1) _ bs hVl) (fun e => d4 e.symm) 8 0 K w7 _ rfl (by omega) b7 ((bH.upd u6 d4).upd u7 d4) (by rw [ints_length, hH]) (by simp)
  have h8 : ref01_narrow_l3 K K ⟨w.heap.size, 0, none⟩ ⟨w1.heap.size, 0, none⟩ ⟨w4.heap.size, 0, none⟩ 0 w7 = _ := h8
  rw [← comps_tks] at b8
  have hl8 : (ints .u64 (comps32 C (m + 1) H bs)).length = 8 := by rw [ints_length, comps32_len C (m + 1) H bs hH]
  have lH := b8.ldA (i := 0) (n := 8) (by rw [hl8]; decide)
  rw [List.drop_zero, List.take_of_length_le (by rw [hl8]; decide)] at lH
  have d6 : ¬ w1.heap.size = w.heap.size := by omega
  obtain ⟨w9, a1, a2, a3, a4⟩ := lay' (((bO.upd u6 d5).upd u7 d5).upd u8 d6) (vs := ints .u64 (comps32 C (m + 1) H bs)) (by rw [hl8]; rfl) ints_one
  rw [hl8] at a4
  refine ⟨w9, ?_, ?_⟩
  · unfold ref01_narrow
    rw [n1, bnd_ok, n2, bnd_ok, n3, bnd_ok, h4, bnd_ok, n5, bnd_ok, h6, bnd_ok, h7, bnd_ok, h8, bnd_ok, lH, Option.bind_some, if_pos (by rw [List.size_toArray, hl8]), a1, Option.bind_some, a4, Option.bind_some]
  · exact ((q6.trans' u7 fun k hk e => by omega).trans' u8 fun k hk e => by omega).trans' a3 fun k hk e => by omega

end Go.Sh

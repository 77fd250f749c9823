/- Texts of this claim, put together: Ref32, Ref64, Kind, First, Take, TakeOk, End, EndOk, Begin, Parts, Sum, RefSum -/
import Derived.Test.YteomkfcfhlljkaaDoorAllShiiimmk
import Derived.Test.YteomkfcfhlljkaaDoorAllLawaajmbp
import Derived.Test.YteomkfcfhlljkaaDoorAllShhklgmk
import Derived.Test.YteomkfcfhlljkaaDoorAllFwocfjfh
import Derived.Test.YteomkfcfhlljkaaDoorAllLawflpjel
/- The document's own answer: taken32, narrow: what they compute. -/
set_option linter.unusedVariables false
namespace Go.Sh
open Go.Fw Go.Sha Go.RowKit Go.Proofs.Tryd

/-- the constants of 32 bits -/
def kc32 (C : List Int) : List Int := (C.take 64).map fun c => IntKind.u32.wrap (Int.fdiv c (2 ^ 32))

theorem kc32_len {C : List Int} (h : C.length = 80) : (kc32 C).length = 64 := by simp [kc32, h]

theorem kc32_get {C : List Int} (h : C.length = 80) {i : Nat} (hi : i < 64) : (kc32 C).getD i 0 = IntKind.u32.wrap (Int.fdiv (C.getD i 0) (2 ^ 32)) := by
  have h1 : i < C.length := by omega
  simp [kc32, List.getD_eq_getElem?_getD, List.getElem?_take, hi, List.getElem?_eq_getElem h1]

theorem ref_l0 (K : Nat) {b : Sl} {bs : List Int} (hbl : bs.length = 64) {h3 k5 a6 : Addr} {gw : Nat} (hne : ∀ p, b.a = some p → p.block ≠ gw) :
    ∀ (d i n : Nat) (w : World) (cs : List Value), i + d = 16 → d < n → RdS .u8 w b bs → Bk 174 w gw cs → cs.length = 64 → cs.take i = ints .u32 (words32 bs i) →
      ∃ w' cs', ref01_taken32_l0 K n b h3 k5 a6 ⟨gw, 0, none⟩ (i : Int) w = some ((), w') ∧ Bk 174 w' gw cs' ∧ cs'.length = 64 ∧ cs'.take 16 = ints .u32 (words32 bs 16) ∧ Upd (· = gw) w w' := by
  intro d
  induction d with
  | zero =>
    intro i n w cs hi hn hr hb hc ht
    obtain ⟨n, rfl⟩ : ∃ m, n = m + 1 := ⟨n - 1, by omega⟩
    have : i = 16 := by omega
    subst this
    refine ⟨w, cs, ?_, hb, hc, ht, Upd.refl _ _⟩
    show ref01_taken32_l0_b K (ref01_taken32_l0 K n) b h3 k5 a6 ⟨gw, 0, none⟩ ((16 : Nat) : Int) w = _
    simp [ref01_taken32_l0_b]
  | succ d ih =>
    intro i n w cs hi hn hr hb hc ht
    obtain ⟨n, rfl⟩ : ∃ m, n = m + 1 := ⟨n - 1, by omega⟩
    have hbn : bs ≠ [] := fun e => by rw [e] at hbl; simp at hbl
    obtain ⟨p, hp, hl⟩ := rdD hr.drew
    have hlen := hr.len
    have hd : decide ((i : Int) < 16) = true := by simp; omega
    have e4 : IntKind.i64.wrap (4 * (i : Int)) = ((4 * i : Nat) : Int) := by rw [w64 (by omega) (by omega)]; omega
    have f1 : IntKind.i64.wrap (((4 * i : Nat) : Int) + 1) = ((4 * i + 1 : Nat) : Int) := by rw [w64 (by omega) (by omega)]; omega
    have f2 : IntKind.i64.wrap (((4 * i : Nat) : Int) + 2) = ((4 * i + 2 : Nat) : Int) := by rw [w64 (by omega) (by omega)]; omega
    have f3 : IntKind.i64.wrap (((4 * i : Nat) : Int) + 3) = ((4 * i + 3 : Nat) : Int) := by rw [w64 (by omega) (by omega)]; omega
    have e1 : IntKind.i64.wrap ((i : Int) + 1) = ((i + 1 : Nat) : Int) := by rw [w64 (by omega) (by omega)]; rfl
    have k0 : (0 : Int) ≤ ((4 * i : Nat) : Int) ∧ ((4 * i : Nat) : Int) < ((b.len : Nat) : Int) := by omega
    have k1 : (0 : Int) ≤ ((4 * i + 1 : Nat) : Int) ∧ ((4 * i + 1 : Nat) : Int) < ((b.len : Nat) : Int) := by omega
    have k2 : (0 : Int) ≤ ((4 * i + 2 : Nat) : Int) ∧ ((4 * i + 2 : Nat) : Int) < ((b.len : Nat) : Int) := by omega
    have k3 : (0 : Int) ≤ ((4 * i + 3 : Nat) : Int) ∧ ((4 * i + 3 : Nat) : Int) < ((b.len : Nat) : Int) := by omega
    have l0 := hl (4 * i) (by omega)
    have l1 := hl (4 * i + 1) (by omega)
    have l2 := hl (4 * i + 2) (by omega)
    have l3 := hl (4 * i + 3) (by omega)
    have c3 : (0 : Int) ≤ (i : Int) ∧ (i : Int) < ((64 : Nat) : Int) := by omega
    obtain ⟨w1, s1, s2, s3⟩ := hb.drew.stC (i := i) (by omega) (.int .u32 (word32 (bs.getD (4 * i) 0) (bs.getD (4 * i + 1) 0) (bs.getD (4 * i + 2) 0) (bs.getD (4 * i + 3) 0)))
    have ht' : cs.take (words32 bs i).length = ints .u32 (words32 bs i) := by rw [words32_len]; exact ht
    have hfs := front_set ht' (by rw [words32_len]; omega) (word32 (bs.getD (4 * i) 0) (bs.getD (4 * i + 1) 0) (bs.getD (4 * i + 2) 0) (bs.getD (4 * i + 3) 0))
    rw [words32_len] at hfs
    have hfs' : (cs.set i (.int .u32 (word32 (bs.getD (4 * i) 0) (bs.getD (4 * i + 1) 0) (bs.getD (4 * i + 2) 0) (bs.getD (4 * i + 3) 0)))).take (i + 1) = ints .u32 (words32 bs (i + 1)) := by
      have : (words32 bs i ++ [word32 (bs.getD (4 * i) 0) (bs.getD (4 * i + 1) 0) (bs.getD (4 * i + 2) 0) (bs.getD (4 * i + 3) 0)]).length = i + 1 := by simp [words32_len]
      rw [this] at hfs; exact hfs
    obtain ⟨w2, cs2, h1, h2, h4, h5, h6⟩ := ih (i + 1) n w1 _ (by omega) (by omega) (hr.drew.upd s3 (fun q hq e => hne q hq e)) s2 (by simpa using hc) hfs'
    refine ⟨w2, cs2, ?_, h2, h4, h5, (s3.predrew).trans' h6 fun _ _ e => e⟩
    show ref01_taken32_l0_b K (ref01_taken32_l0 K n) b h3 k5 a6 ⟨gw, 0, none⟩ (i : Int) w = _
    unfold ref01_taken32_l0_b
    rw [hd, if_pos rfl, e4, f1, f2, f3, hp hbn]
    simp only [Option.bind_some, Int.toNat_natCast, Nat.mul_one]
    rw [if_pos k0, if_pos k1, if_pos k2, if_pos k3, l0, Option.bind_some, l1, Option.bind_some, l2, Option.bind_some, l3, Option.bind_some, if_pos c3, add_lit, Nat.zero_add]
    show (stC ⟨gw, i, none⟩ (.int .u32 (word32 (bs.getD (4 * i) 0) (bs.getD (4 * i + 1) 0) (bs.getD (4 * i + 2) 0) (bs.getD (4 * i + 3) 0))) w.drew).bind _ = _
    rw [s1, Option.bind_some, e1, h1]

theorem ref_l1 (K : Nat) {h3 k5 a6 : Addr} {gw : Nat} :
    ∀ (d n : Nat) (w : World) (cs : List Value) (S : List Int), S.length + d = 64 → 16 ≤ S.length → d < n → Bk 174 w gw cs → cs.length = 64 → cs.take S.length = ints .u32 S →
      ∃ w' cs', ref01_taken32_l1 K n h3 k5 a6 ⟨gw, 0, none⟩ ((S.length : Nat) : Int) w = some ((), w') ∧ Bk 174 w' gw cs' ∧ cs' = ints .u32 (ext32 d S) ∧ Upd (· = gw) w w' := by
  intro d
  induction d with
  | zero =>
    intro n w cs S hi h16 hn hb hc ht
    obtain ⟨n, rfl⟩ : ∃ m, n = m + 1 := ⟨n - 1, by omega⟩
    have hS : S.length = 64 := by omega
    refine ⟨w, cs, ?_, hb, ?_, Upd.refl _ _⟩
    · show ref01_taken32_l1_b K (ref01_taken32_l1 K n) h3 k5 a6 ⟨gw, 0, none⟩ ((S.length : Nat) : Int) w = _
      rw [hS]
      simp [ref01_taken32_l1_b]
    · rw [hS, List.take_of_length_le (by omega)] at ht; exact ht
  | succ d ih =>
    intro n w cs S hi h16 hn hb hc ht
    obtain ⟨n, rfl⟩ : ∃ m, n = m + 1 := ⟨n - 1, by omega⟩
    have hd : decide (((S.length : Nat) : Int) < 64) = true := by simp; omega
    have e15 : IntKind.i64.wrap (((S.length : Nat) : Int) - 15) = ((S.length - 15 : Nat) : Int) := by rw [w64 (by omega) (by omega)]; omega
    have e2 : IntKind.i64.wrap (((S.length : Nat) : Int) - 2) = ((S.length - 2 : Nat) : Int) := by rw [w64 (by omega) (by omega)]; omega
    have e16 : IntKind.i64.wrap (((S.length : Nat) : Int) - 16) = ((S.length - 16 : Nat) : Int) := by rw [w64 (by omega) (by omega)]; omega
    have e7 : IntKind.i64.wrap (((S.length : Nat) : Int) - 7) = ((S.length - 7 : Nat) : Int) := by rw [w64 (by omega) (by omega)]; omega
    have e1 : IntKind.i64.wrap (((S.length : Nat) : Int) + 1) = ((S.length + 1 : Nat) : Int) := by rw [w64 (by omega) (by omega)]; rfl
    have c15 : (0 : Int) ≤ ((S.length - 15 : Nat) : Int) ∧ ((S.length - 15 : Nat) : Int) < ((64 : Nat) : Int) := by omega
    have c2 : (0 : Int) ≤ ((S.length - 2 : Nat) : Int) ∧ ((S.length - 2 : Nat) : Int) < ((64 : Nat) : Int) := by omega
    have c16 : (0 : Int) ≤ ((S.length - 16 : Nat) : Int) ∧ ((S.length - 16 : Nat) : Int) < ((64 : Nat) : Int) := by omega
    have c7 : (0 : Int) ≤ ((S.length - 7 : Nat) : Int) ∧ ((S.length - 7 : Nat) : Int) < ((64 : Nat) : Int) := by omega
    have c0 : (0 : Int) ≤ ((S.length : Nat) : Int) ∧ ((S.length : Nat) : Int) < ((64 : Nat) : Int) := by omega
    have l15 := hb.ldI (row_front ht (i := S.length - 15) (by omega))
    have l2 := hb.ldI (row_front ht (i := S.length - 2) (by omega))
    have l16 := hb.drew.ldI (row_front ht (i := S.length - 16) (by omega))
    have l7 := hb.drew.ldI (row_front ht (i := S.length - 7) (by omega))
    let x := sch32 (S.getD (S.length - 15) 0) (S.getD (S.length - 2) 0) (S.getD (S.length - 16) 0) (S.getD (S.length - 7) 0)
    obtain ⟨w1, s1, s2, s3⟩ := hb.drew.stC (i := S.length) (by omega) (.int .u32 x)
    have hfs := front_set ht (by omega) x
    have hSl : (S ++ [x]).length = S.length + 1 := by simp
    obtain ⟨w2, cs2, h1, h2, h4, h5⟩ := ih n w1 _ (S ++ [x]) (by rw [hSl]; omega) (by rw [hSl]; omega) (by omega) s2 (by simpa using hc) hfs
    rw [hSl] at h1
    refine ⟨w2, cs2, ?_, h2, by rw [h4]; rfl, s3.predrew.trans' h5 fun _ _ e => e⟩
    show ref01_taken32_l1_b K (ref01_taken32_l1 K n) h3 k5 a6 ⟨gw, 0, none⟩ ((S.length : Nat) : Int) w = _
    unfold ref01_taken32_l1_b
    rw [hd, if_pos rfl, e15, e2, e16, e7]
    simp only [Int.toNat_natCast, add_lit, Nat.mul_one, Nat.zero_add]
    rw [if_pos c15, l15, Option.bind_some, if_pos c2, l2, Option.bind_some, if_pos c7, if_pos c16, l7, Option.bind_some, l16, Option.bind_some, if_pos c0]
    have hx : IntKind.u32.wrap ((IntKind.u32.wrap ((IntKind.u32.wrap ((bits .xor .u32 (bits .xor .u32 (bits .or .u32 (Int.fdiv (S.getD (S.length - 2) 0) (2 ^ 17)) (IntKind.u32.wrap ((S.getD (S.length - 2) 0) * 2 ^ 15))) (bits .or .u32 (Int.fdiv (S.getD (S.length - 2) 0) (2 ^ 19)) (IntKind.u32.wrap ((S.getD (S.length - 2) 0) * 2 ^ 13)))) (Int.fdiv (S.getD (S.length - 2) 0) (2 ^ 10))) + (S.getD (S.length - 7) 0))) + (bits .xor .u32 (bits .xor .u32 (bits .or .u32 (Int.fdiv (S.getD (S.length - 15) 0) (2 ^ 7)) (IntKind.u32.wrap ((S.getD (S.length - 15) 0) * 2 ^ 25))) (bits .or .u32 (Int.fdiv (S.getD (S.length - 15) 0) (2 ^ 18)) (IntKind.u32.wrap ((S.getD (S.length - 15) 0) * 2 ^ 14)))) (Int.fdiv (S.getD (S.length - 15) 0) (2 ^ 3))))) + (S.getD (S.length - 16) 0)) = x := by
      rw [show (15 : Nat) = 32 - 17 from rfl, rr32_or, show (13 : Nat) = 32 - 19 from rfl, rr32_or, show (25 : Nat) = 32 - 7 from rfl, rr32_or, show (14 : Nat) = 32 - 18 from rfl, rr32_or]
      exact sch32_ref _ _ _ _
    rw [hx, s1, Option.bind_some, e1, h1]

theorem ref_l2 (K : Nat) {h3 a6 : Addr} {gk gw : Nat} {W C : List Int} (hW : W.length = 64) (hC : C.length = 80) :
    ∀ (m i n : Nat) (w : World) (a b c d e f g z : Int), i + m = 64 → m < n → Bk 174 w gw (ints .u32 W) → Bk 174 w gk (ints .u32 (kc32 C)) →
      ∃ w', ref01_taken32_l2 K n h3 ⟨gk, 0, none⟩ a6 ⟨gw, 0, none⟩ a b c d e f g z (i : Int) w = some (rounds32 W C m i a b c d e f g z, w') ∧ Upd none_ w w' := by
  intro m
  induction m with
  | zero =>
    intro i n w a b c d e f g z hi hn hb hk
    obtain ⟨n, rfl⟩ : ∃ m, n = m + 1 := ⟨n - 1, by omega⟩
    have : i = 64 := by omega
    subst this
    refine ⟨w, ?_, Upd.refl _ _⟩
    show ref01_taken32_l2_b K (ref01_taken32_l2 K n) h3 ⟨gk, 0, none⟩ a6 ⟨gw, 0, none⟩ a b c d e f g z ((64 : Nat) : Int) w = _
    simp [ref01_taken32_l2_b, rounds32]
  | succ m ih =>
    intro i n w a b c d e f g z hi hn hb hk
    obtain ⟨n, rfl⟩ : ∃ m, n = m + 1 := ⟨n - 1, by omega⟩
    have hd : decide ((i : Int) < 64) = true := by simp; omega
    have e1 : IntKind.i64.wrap ((i : Int) + 1) = ((i + 1 : Nat) : Int) := by rw [w64 (by omega) (by omega)]; rfl
    have c64 : (0 : Int) ≤ (i : Int) ∧ (i : Int) < ((64 : Nat) : Int) := by omega
    have hkl := kc32_len hC
    have lk : ldI .u32 ⟨gk, i, none⟩ w.drew = some (IntKind.u32.wrap (Int.fdiv (C.getD i 0) (2 ^ 32))) := by
      rw [← kc32_get hC (show i < 64 by omega)]
      exact hk.drew.ldI (by
        have h1 : i < (kc32 C).length := by omega
        rw [ints, List.getElem?_map, List.getElem?_eq_getElem h1, List.getD_eq_getElem?_getD, List.getElem?_eq_getElem h1]; rfl)
    have lw : ldI .u32 ⟨gw, i, none⟩ w.drew = some (W.getD i 0) := hb.drew.ldI (by simp [ints, List.getD_eq_getElem?_getD, show i < W.length by omega])
    obtain ⟨w1, h1, h2⟩ := ih (i + 1) n w.drew (IntKind.u32.wrap (t1_32 e f g z (IntKind.u32.wrap (Int.fdiv (C.getD i 0) (2 ^ 32))) (W.getD i 0) + t2_32 a b c)) a b c
      (IntKind.u32.wrap (d + t1_32 e f g z (IntKind.u32.wrap (Int.fdiv (C.getD i 0) (2 ^ 32))) (W.getD i 0))) e f g (by omega) (by omega) hb.drew hk.drew
    refine ⟨w1, ?_, h2.predrew⟩
    show ref01_taken32_l2_b K (ref01_taken32_l2 K n) h3 ⟨gk, 0, none⟩ a6 ⟨gw, 0, none⟩ a b c d e f g z (i : Int) w = _
    unfold ref01_taken32_l2_b
    rw [hd, if_pos rfl, if_pos c64, if_pos c64]
    simp only [Int.toNat_natCast, add_lit, Nat.mul_one, Nat.zero_add]
    rw [lk, Option.bind_some, lw, Option.bind_some, e1]
    have r6 : bits .or .u32 (Int.fdiv e (2 ^ 6)) (IntKind.u32.wrap (e * 2 ^ 26)) = rr32 e 6 := rr32_or e 6
    have r11 : bits .or .u32 (Int.fdiv e (2 ^ 11)) (IntKind.u32.wrap (e * 2 ^ 21)) = rr32 e 11 := rr32_or e 11
    have r25 : bits .or .u32 (Int.fdiv e (2 ^ 25)) (IntKind.u32.wrap (e * 2 ^ 7)) = rr32 e 25 := rr32_or e 25
    have r2 : bits .or .u32 (Int.fdiv a (2 ^ 2)) (IntKind.u32.wrap (a * 2 ^ 30)) = rr32 a 2 := rr32_or a 2
    have r13 : bits .or .u32 (Int.fdiv a (2 ^ 13)) (IntKind.u32.wrap (a * 2 ^ 19)) = rr32 a 13 := rr32_or a 13
    have r22 : bits .or .u32 (Int.fdiv a (2 ^ 22)) (IntKind.u32.wrap (a * 2 ^ 10)) = rr32 a 22 := rr32_or a 22
    rw [r6, r11, r25, r2, r13, r22, ch_or (k := .u32) rfl _ all32, maj_or (k := .u32) rfl]
    exact h1

/-- sums of words of 32 bits -/
def sums32 (v x : List Int) : List Int := (List.range 8).map fun i => IntKind.u32.wrap (v.getD i 0 + x.getD i 0)

/-- a block is taken, of words that are of 32 bits -/
def tk32 (C V bs : List Int) : List Int :=
  sums32 V (list8 (rounds32 (ext32 48 (words32 bs 16)) C 64 0 (V.getD 0 0) (V.getD 1 0) (V.getD 2 0) (V.getD 3 0) (V.getD 4 0) (V.getD 5 0) (V.getD 6 0) (V.getD 7 0)))

theorem tk32_len (C V bs : List Int) : (tk32 C V bs).length = 8 := by simp [tk32, sums32]

theorem taken32_ok {K : Nat} (hK : 18446744073709551616 ≤ K) {w : World} {b : Sl} {bs V C : List Int} (hbl : bs.length = 64) (hV : V.length = 8) (hC : C.length = 80) (hbv : ∀ p, b.a = some p → p.block < w.heap.size) (hr : RdS .u8 w b bs) :
    ∃ w', ref01_taken32 K (ints .u32 V).toArray b (ints .u32 (kc32 C)).toArray w = some (((ints .u32 (tk32 C V bs)).toArray, ()), w') ∧ Upd none_ w w' := by
  obtain ⟨w1, n1, b1, u1, z1⟩ := newB_ok (ints .u32 V).toArray 176 w
  obtain ⟨w2, n2, b2, u2, z2⟩ := newB_ok (ints .u32 (kc32 C)).toArray 174 w1
  obtain ⟨w3, n3, b3, u3, z3⟩ := newB_ok z176 176 w2
  obtain ⟨w4, n4, b4, u4, z4⟩ := newB_ok z174 174 w3
  have b1 : Bk 176 w1 w.heap.size (ints .u32 V) := b1
  have b2 : Bk 174 w2 w1.heap.size (ints .u32 (kc32 C)) := b2
  have b3 : Bk 176 w3 w2.heap.size z176.toList := b3
  have b4 : Bk 174 w4 w3.heap.size z174.toList := b4
  have hr4 : RdS .u8 w4 b bs := (((hr.upd0 u1).upd0 u2).upd0 u3).upd0 u4
  obtain ⟨w5, c5, h5, b5, l5, t5, u5⟩ := ref_l0 K (h3 := ⟨w.heap.size, 0, none⟩) (k5 := ⟨w1.heap.size, 0, none⟩) (a6 := ⟨w2.heap.size, 0, none⟩) hbl (gw := w3.heap.size) (fun p hp e => by have := hbv p hp; omega) 16 0 K w4 _ rfl (by omega) hr4 b4 rfl (by simp [words32])
  have h5 : ref01_taken32_l0 K K b ⟨w.heap.size, 0, none⟩ ⟨w1.heap.size, 0, none⟩ ⟨w2.heap.size, 0, none⟩ ⟨w3.heap.size, 0, none⟩ 0 w4 = _ := h5
  obtain ⟨w6, c6, h6, b6, t6, u6⟩ := ref_l1 K (h3 := ⟨w.heap.size, 0, none⟩) (k5 := ⟨w1.heap.size, 0, none⟩) (a6 := ⟨w2.heap.size, 0, none⟩) 48 K w5 c5 (words32 bs 16) (by rw [words32_len]) (by rw [words32_len]; decide) (by omega) b5 l5 (by rw [words32_len]; exact t5)
  rw [words32_len] at h6
  have h6 : ref01_taken32_l1 K K ⟨w.heap.size, 0, none⟩ ⟨w1.heap.size, 0, none⟩ ⟨w2.heap.size, 0, none⟩ ⟨w3.heap.size, 0, none⟩ 16 w5 = _ := h6
  rw [t6] at b6
  have n13 : ¬ w.heap.size = w3.heap.size := by omega
  have n23 : ¬ w1.heap.size = w3.heap.size := by omega
  have n33 : ¬ w2.heap.size = w3.heap.size := by omega
  have bV : Bk 176 w6 w.heap.size (ints .u32 V) := (((((b1.upd0 u2).upd0 u3).upd0 u4).upd u5 n13).upd u6 n13)
  have bC : Bk 174 w6 w1.heap.size (ints .u32 (kc32 C)) := ((((b2.upd0 u3).upd0 u4).upd u5 n23).upd u6 n23)
  have bO : Bk 176 w6 w2.heap.size z176.toList := (((b3.upd0 u4).upd u5 n33).upd u6 n33)
  have gv : ∀ i, i < 8 → (ints .u32 V)[i]? = some (.int .u32 (V.getD i 0)) := fun i hi => by
    have : i < V.length := by omega
    rw [ints, List.getElem?_map, List.getElem?_eq_getElem this, List.getD_eq_getElem?_getD, List.getElem?_eq_getElem this]; rfl
  have h7x := ref_l2 K (h3 := ⟨w.heap.size, 0, none⟩) (a6 := ⟨w2.heap.size, 0, none⟩) (gk := w1.heap.size) (gw := w3.heap.size) (W := ext32 48 (words32 bs 16)) (C := C) (by rw [ext32_len, words32_len]) hC 64 0 K w6.drew.drew (V.getD 0 0) (V.getD 1 0) (V.getD 2 0) (V.getD 3 0) (V.getD 4 0) (V.getD 5 0) (V.getD 6 0) (V.getD 7 0) rfl (by omega) b6.drew.drew bC.drew.drew
  obtain ⟨y, hy⟩ : ∃ y, rounds32 (ext32 48 (words32 bs 16)) C 64 0 (V.getD 0 0) (V.getD 1 0) (V.getD 2 0) (V.getD 3 0) (V.getD 4 0) (V.getD 5 0) (V.getD 6 0) (V.getD 7 0) = y := ⟨_, rfl⟩
  rw [hy] at h7x
  obtain ⟨w7, h7, u7⟩ := h7x
  have h7 : ref01_taken32_l2 K K ⟨w.heap.size, 0, none⟩ ⟨w1.heap.size, 0, none⟩ ⟨w2.heap.size, 0, none⟩ ⟨w3.heap.size, 0, none⟩ (V.getD 0 0) (V.getD 1 0) (V.getD 2 0) (V.getD 3 0) (V.getD 4 0) (V.getD 5 0) (V.getD 6 0) (V.getD 7 0) 0 w6.drew.drew = some (y, w7) := h7
  have hc : tk32 C V bs = sums32 V (list8 y) := by unfold tk32; rw [hy]
  have hl8 : (ints .u32 (sums32 V (list8 y))).length = 8 := by simp [ints, sums32]
  have bV7 : Bk 176 w7 w.heap.size (ints .u32 V) := bV.drew.drew.upd0 u7
  have bO7 : Bk 176 w7 w2.heap.size z176.toList := bO.drew.drew.upd0 u7
  have hz8 : z176.toList.length = 8 := rfl
  obtain ⟨w8, a1, a2, a3⟩ := bO7.stA (o := 0) (vs := (ints .u32 (sums32 V (list8 y))).toArray) (by rw [List.size_toArray, hl8, hz8]; decide) (fun v hv => ints_one v hv)
  have es : seg z176.toList 0 (ints .u32 (sums32 V (list8 y))) = ints .u32 (sums32 V (list8 y)) := by
    simp only [seg, List.take_zero, List.nil_append, Nat.zero_add]
    rw [List.drop_eq_nil_of_le (by rw [hl8, hz8]; decide), List.append_nil]
  have a2 : Bk 176 w8 w2.heap.size (ints .u32 (sums32 V (list8 y))) := by rw [← es]; exact a2
  have hl := a2.ldA (i := 0) (n := 8) (by rw [hl8]; decide)
  rw [List.drop_zero, List.take_of_length_le (by rw [hl8]; decide)] at hl
  have hsum : [IntKind.u32.wrap (V.getD 0 0 + y.1), IntKind.u32.wrap (V.getD 1 0 + y.2.1), IntKind.u32.wrap (V.getD 2 0 + y.2.2.1), IntKind.u32.wrap (V.getD 3 0 + y.2.2.2.1), IntKind.u32.wrap (V.getD 4 0 + y.2.2.2.2.1), IntKind.u32.wrap (V.getD 5 0 + y.2.2.2.2.2.1), IntKind.u32.wrap (V.getD 6 0 + y.2.2.2.2.2.2.1), IntKind.u32.wrap (V.getD 7 0 + y.2.2.2.2.2.2.2.1)] = sums32 V (list8 y) := rfl
  refine ⟨w8, ?_, ?_⟩
  · unfold ref01_taken32
    rw [n1, bnd_ok, n2, bnd_ok, n3, bnd_ok, n4, bnd_ok, h5, bnd_ok, h6, bnd_ok]
    simp only [add_lit, Nat.zero_mul, Nat.one_mul, Nat.add_zero, Nat.zero_add, Nat.reduceMul]
    rw [bV.drew.ldI (gv 0 (by decide)), Option.bind_some, bV.drew.ldI (gv 1 (by decide)), Option.bind_some, bV.drew.ldI (gv 2 (by decide)), Option.bind_some, bV.drew.ldI (gv 3 (by decide)), Option.bind_some,
      bV.drew.drew.ldI (gv 4 (by decide)), Option.bind_some, bV.drew.drew.ldI (gv 5 (by decide)), Option.bind_some, bV.drew.drew.ldI (gv 6 (by decide)), Option.bind_some, bV.drew.drew.ldI (gv 7 (by decide)), Option.bind_some,
      h7, bnd_ok, bV7.ldI (gv 0 (by decide)), Option.bind_some, bV7.ldI (gv 1 (by decide)), Option.bind_some, bV7.ldI (gv 2 (by decide)), Option.bind_some, bV7.ldI (gv 3 (by decide)), Option.bind_some,
      bV7.ldI (gv 4 (by decide)), Option.bind_some, bV7.ldI (gv 5 (by decide)), Option.bind_some, bV7.ldI (gv 6 (by decide)), Option.bind_some, bV7.ldI (gv 7 (by decide)), Option.bind_some, built176, Option.bind_some, hsum,
      if_pos (by rw [List.size_toArray, hl8]), a1, Option.bind_some, hl, Option.bind_some, hc]
  · have q4 : Upd none_ w w4 := ((u1.and0 u2).and0 u3).and0 u4
    have q6 : Upd none_ w w6 := (q4.trans' u5 fun k hk e => by omega).trans' u6 fun k hk e => by omega
    exact (q6.drew.drew.and0 u7).trans' a3 fun k hk e => by omega

/-- blocks are taken, of words that are of 32 bits -/
def tks32 (C : List Int) : Nat → List Int → List Int → List Int
  | 0, V, _ => V
  | n + 1, V, bs => tks32 C n (tk32 C V bs) (bs.drop 64)

theorem tks32_len (C : List Int) : ∀ (n : Nat) (V bs : List Int), V.length = 8 → (tks32 C n V bs).length = 8
  | 0, _, _, h => h
  | n + 1, V, bs, _ => tks32_len C n _ _ (tk32_len C V bs)

theorem comp_tk (C H bs : List Int) : comp32 C H bs = (tk32 C (H.map IntKind.u32.wrap) bs).map IntKind.u64.wrap ∧ (comp32 C H bs).map IntKind.u32.wrap = tk32 C (H.map IntKind.u32.wrap) bs := by
  refine ⟨?_, ?_⟩
  · unfold comp32 tk32 rv32 sum8 sums32
    rw [List.map_map]; rfl
  · unfold comp32 tk32 rv32 sum8 sums32
    rw [List.map_map]
    apply List.map_congr_left
    intro i _
    simp only [Function.comp, IntKind.wrap_u32, IntKind.wrap_u64]
    omega

theorem comps_tks (C : List Int) : ∀ (n : Nat) (H bs : List Int), comps32 C (n + 1) H bs = (tks32 C (n + 1) (H.map IntKind.u32.wrap) bs).map IntKind.u64.wrap
  | 0, H, bs => (comp_tk C H bs).1
  | n + 1, H, bs => by
    show comps32 C (n + 1) (comp32 C H bs) (bs.drop 64) = (tks32 C (n + 1) (tk32 C (H.map IntKind.u32.wrap) bs) (bs.drop 64)).map IntKind.u64.wrap
    rw [comps_tks C n, (comp_tk C H bs).2]

theorem set_front {κ : IntKind} {cs : List Value} {xs : List Int} {i : Nat} (ht : cs.take i = ints κ (xs.take i)) (hi : i < xs.length) (hc : i < cs.length) : (cs.set i (.int κ (xs.getD i 0))).take (i + 1) = ints κ (xs.take (i + 1)) := by
  have hl : (xs.take i).length = i := by simp; omega
  have h1 : cs.take (xs.take i).length = ints κ (xs.take i) := by rw [hl]; exact ht
  have h2 := front_set h1 (by rw [hl]; exact hc) (xs.getD i 0)
  have h3 : xs.take i ++ [xs.getD i 0] = xs.take (i + 1) := by
    rw [List.take_add_one, List.getElem?_eq_getElem hi, List.getD_eq_getElem?_getD, List.getElem?_eq_getElem hi]; rfl
  rw [hl, h3] at h2
  have h4 : (xs.take (i + 1)).length = i + 1 := by simp; omega
  rw [h4] at h2; exact h2

theorem rn_l0 (K : Nat) {p1 : Sl} {h2 a4 : Addr} {gk : Nat} {C : List Int} (hC : C.length = 80) (hg : gk ≠ 2) :
    ∀ (d i n : Nat) (w : World) (cs : List Value), i + d = 64 → d < n → Rd w ⟨2, 0, none⟩ (ints .u64 C) → Bk 174 w gk cs → cs.length = 64 → cs.take i = ints .u32 ((kc32 C).take i) →
      ∃ w', ref01_narrow_l0 K n p1 h2 a4 ⟨gk, 0, none⟩ (i : Int) w = some ((), w') ∧ Bk 174 w' gk (ints .u32 (kc32 C)) ∧ Upd (· = gk) w w' := by
  intro d
  induction d with
  | zero =>
    intro i n w cs hi hn hT hb hc ht
    obtain ⟨n, rfl⟩ : ∃ m, n = m + 1 := ⟨n - 1, by omega⟩
    have : i = 64 := by omega
    subst this
    rw [List.take_of_length_le (by omega), List.take_of_length_le (by rw [kc32_len hC]; decide)] at ht
    refine ⟨w, ?_, ht ▸ hb, Upd.refl _ _⟩
    show ref01_narrow_l0_b K (ref01_narrow_l0 K n) p1 h2 a4 ⟨gk, 0, none⟩ ((64 : Nat) : Int) w = _
    simp [ref01_narrow_l0_b]
  | succ d ih =>
    intro i n w cs hi hn hT hb hc ht
    obtain ⟨n, rfl⟩ : ∃ m, n = m + 1 := ⟨n - 1, by omega⟩
    have hd : decide ((i : Int) < 64) = true := by simp; omega
    have e1 : IntKind.i64.wrap ((i : Int) + 1) = ((i + 1 : Nat) : Int) := by rw [w64 (by omega) (by omega)]; rfl
    have c80 : (0 : Int) ≤ (i : Int) ∧ (i : Int) < ((80 : Nat) : Int) := by omega
    have c64 : (0 : Int) ≤ (i : Int) ∧ (i : Int) < ((64 : Nat) : Int) := by omega
    have l0 : ldI .u64 ⟨2, i, none⟩ w = some (C.getD i 0) := by
      have := hT i (.int .u64 (C.getD i 0)) (by simp [ints, List.getD_eq_getElem?_getD, show i < C.length by omega])
      rw [add_lit, Nat.zero_add] at this
      simp [ldI, this, asI]
    obtain ⟨w1, s1, s2, s3⟩ := hb.stC (i := i) (by omega) (.int .u32 ((kc32 C).getD i 0))
    obtain ⟨w2, h1, h2', h3⟩ := ih (i + 1) n w1 _ (by omega) (by omega) (hT.upd s3 fun _ e => hg e.symm) s2 (by simpa using hc) (set_front ht (by rw [kc32_len hC]; omega) (by omega))
    refine ⟨w2, ?_, h2', s3.trans' h3 fun _ _ e => e⟩
    show ref01_narrow_l0_b K (ref01_narrow_l0 K n) p1 h2 a4 ⟨gk, 0, none⟩ (i : Int) w = _
    unfold ref01_narrow_l0_b
    rw [hd, if_pos rfl, if_pos c80]
    simp only [Int.toNat_natCast, add_lit, Nat.mul_one, Nat.zero_add]
    rw [l0, Option.bind_some, if_pos c64, ← kc32_get hC (show i < 64 by omega), s1, Option.bind_some, e1, h1]

theorem rn_l1 (K : Nat) {p1 : Sl} {a4 k5 : Addr} {gh gv : Nat} {H : List Int} (hH : H.length = 8) (hne : gh ≠ gv) :
    ∀ (d i n : Nat) (w : World) (cs : List Value), i + d = 8 → d < n → Bk 150 w gh (ints .u64 H) → Bk 176 w gv cs → cs.length = 8 → cs.take i = ints .u32 ((H.map IntKind.u32.wrap).take i) →
      ∃ w', ref01_narrow_l1 K n p1 ⟨gh, 0, none⟩ a4 k5 ⟨gv, 0, none⟩ (i : Int) w = some ((), w') ∧ Bk 176 w' gv (ints .u32 (H.map IntKind.u32.wrap)) ∧ Upd (· = gv) w w' := by
  intro d
  induction d with
  | zero =>
    intro i n w cs hi hn hbh hb hc ht
    obtain ⟨n, rfl⟩ : ∃ m, n = m + 1 := ⟨n - 1, by omega⟩
    have : i = 8 := by omega
    subst this
    rw [List.take_of_length_le (by omega), List.take_of_length_le (by simp [hH])] at ht
    refine ⟨w, ?_, ht ▸ hb, Upd.refl _ _⟩
    show ref01_narrow_l1_b K (ref01_narrow_l1 K n) p1 ⟨gh, 0, none⟩ a4 k5 ⟨gv, 0, none⟩ ((8 : Nat) : Int) w = _
    simp [ref01_narrow_l1_b]
  | succ d ih =>
    intro i n w cs hi hn hbh hb hc ht
    obtain ⟨n, rfl⟩ : ∃ m, n = m + 1 := ⟨n - 1, by omega⟩
    have hd : decide ((i : Int) < 8) = true := by simp; omega
    have e1 : IntKind.i64.wrap ((i : Int) + 1) = ((i + 1 : Nat) : Int) := by rw [w64 (by omega) (by omega)]; rfl
    have c0 : (0 : Int) ≤ (i : Int) ∧ (i : Int) < ((8 : Nat) : Int) := by omega
    have hi8 : i < H.length := by omega
    have l0 : ldI .u64 ⟨gh, i, none⟩ w = some (H.getD i 0) := hbh.ldI (by simp [ints, List.getD_eq_getElem?_getD, hi8])
    have hg : (H.map IntKind.u32.wrap).getD i 0 = IntKind.u32.wrap (H.getD i 0) := by
      rw [List.getD_eq_getElem?_getD, List.getElem?_map, List.getElem?_eq_getElem hi8, List.getD_eq_getElem?_getD, List.getElem?_eq_getElem hi8]; rfl
    obtain ⟨w1, s1, s2, s3⟩ := hb.stC (i := i) (by omega) (.int .u32 ((H.map IntKind.u32.wrap).getD i 0))
    obtain ⟨w2, h1, h2, h3⟩ := ih (i + 1) n w1 _ (by omega) (by omega) (hbh.upd s3 hne) s2 (by simpa using hc) (set_front ht (by simp [hH]; omega) (by omega))
    refine ⟨w2, ?_, h2, s3.trans' h3 fun _ _ e => e⟩
    show ref01_narrow_l1_b K (ref01_narrow_l1 K n) p1 ⟨gh, 0, none⟩ a4 k5 ⟨gv, 0, none⟩ (i : Int) w = _
    unfold ref01_narrow_l1_b
    rw [hd, if_pos rfl, if_pos c0]
    simp only [Int.toNat_natCast, add_lit, Nat.mul_one, Nat.zero_add]
    rw [l0, Option.bind_some, if_pos c0, ← hg, s1, Option.bind_some, e1, h1]

theorem rn_l3 (K : Nat) {a4 : Addr} {gh gv : Nat} {V : List Int} (hV : V.length = 8) (hne : gv ≠ gh) :
    ∀ (d i n : Nat) (w : World) (cs : List Value), i + d = 8 → d < n → Bk 176 w gv (ints .u32 V) → Bk 150 w gh cs → cs.length = 8 → cs.take i = ints .u64 ((V.map IntKind.u64.wrap).take i) →
      ∃ w', ref01_narrow_l3 K n ⟨gh, 0, none⟩ a4 ⟨gv, 0, none⟩ (i : Int) w = some ((), w') ∧ Bk 150 w' gh (ints .u64 (V.map IntKind.u64.wrap)) ∧ Upd (· = gh) w w' := by
  intro d
  induction d with
  | zero =>
    intro i n w cs hi hn hbh hb hc ht
    obtain ⟨n, rfl⟩ : ∃ m, n = m + 1 := ⟨n - 1, by omega⟩
    have : i = 8 := by omega
    subst this
    rw [List.take_of_length_le (by omega), List.take_of_length_le (by simp [hV])] at ht
    refine ⟨w, ?_, ht ▸ hb, Upd.refl _ _⟩
    show ref01_narrow_l3_b K (ref01_narrow_l3 K n) ⟨gh, 0, none⟩ a4 ⟨gv, 0, none⟩ ((8 : Nat) : Int) w = _
    simp [ref01_narrow_l3_b]
  | succ d ih =>
    intro i n w cs hi hn hbh hb hc ht
    obtain ⟨n, rfl⟩ : ∃ m, n = m + 1 := ⟨n - 1, by omega⟩
    have hd : decide ((i : Int) < 8) = true := by simp; omega
    have e1 : IntKind.i64.wrap ((i : Int) + 1) = ((i + 1 : Nat) : Int) := by rw [w64 (by omega) (by omega)]; rfl
    have c0 : (0 : Int) ≤ (i : Int) ∧ (i : Int) < ((8 : Nat) : Int) := by omega
    have hi8 : i < V.length := by omega
    have l0 : ldI .u32 ⟨gv, i, none⟩ w = some (V.getD i 0) := hbh.ldI (by simp [ints, List.getD_eq_getElem?_getD, hi8])
    have hg : (V.map IntKind.u64.wrap).getD i 0 = IntKind.u64.wrap (V.getD i 0) := by
      rw [List.getD_eq_getElem?_getD, List.getElem?_map, List.getElem?_eq_getElem hi8, List.getD_eq_getElem?_getD, List.getElem?_eq_getElem hi8]; rfl
    obtain ⟨w1, s1, s2, s3⟩ := hb.stC (i := i) (by omega) (.int .u64 ((V.map IntKind.u64.wrap).getD i 0))
    obtain ⟨w2, h1, h2, h3⟩ := ih (i + 1) n w1 _ (by omega) (by omega) (hbh.upd s3 hne) s2 (by simpa using hc) (set_front ht (by simp [hV]; omega) (by omega))
    refine ⟨w2, ?_, h2, s3.trans' h3 fun _ _ e => e⟩
    show ref01_narrow_l3_b K (ref01_narrow_l3 K n) ⟨gh, 0, none⟩ a4 ⟨gv, 0, none⟩ (i : Int) w = _
    unfold ref01_narrow_l3_b
    rw [hd, if_pos rfl, if_pos c0]
    simp only [Int.toNat_natCast, add_lit, Nat.mul_one, Nat.zero_add]
    rw [l0, Option.bind_some, if_pos c0, ← hg, s1, Option.bind_some, e1, h1]

theorem lay' {e : TypeId} {w : World} {g : Nat} {cs vs : List Value} (hb : Bk e w g cs) (hl : vs.length = cs.length) (h1 : ∀ v ∈ vs, v.oneCell' = true) :
    ∃ w', stA ⟨g, 0, none⟩ vs.toArray w = some w' ∧ Bk e w' g vs ∧ Upd (· = g) w w' ∧ ldA vs.length ⟨g, 0, none⟩ w' = some vs.toArray := by
  obtain ⟨w', a1, a2, a3⟩ := hb.stA (o := 0) (vs := vs.toArray) (by simp [hl]) (fun v hv => h1 v hv)
  have es : seg cs 0 vs = vs := by
    simp only [seg, List.take_zero, List.nil_append, Nat.zero_add]
    rw [List.drop_eq_nil_of_le (by omega), List.append_nil]
  have a2 : Bk e w' g vs := by rw [← es]; exact a2
  have hl := a2.ldA (i := 0) (n := vs.length) (by omega)
  rw [List.drop_zero, List.take_of_length_le (Nat.le_refl _)] at hl
  exact ⟨w', a1, a2, a3, hl⟩

theorem rn_l2 {K : Nat} (hK : 18446744073709551616 ≤ K) {p1 : Sl} {bs : List Int} {h2 a4 : Addr} {gk gv : Nat} {C : List Int} (hC : C.length = 80) (hkv : gk ≠ gv) (hlim : bs.length ≤ 140737488355328) {m0 : Nat} (hbs : bs.length = 64 * m0)
    (hpb : ∀ p, p1.a = some p → p.block ≠ gv) :
    ∀ (m j n : Nat) (w : World) (V : List Int), m + j = m0 → m < n → V.length = 8 → (∀ p, p1.a = some p → p.block < w.heap.size) → RdS .u8 w p1 bs → Bk 174 w gk (ints .u32 (kc32 C)) → Bk 176 w gv (ints .u32 V) →
      ∃ w', ref01_narrow_l2 K n p1 h2 a4 ⟨gk, 0, none⟩ ⟨gv, 0, none⟩ ((64 * j : Nat) : Int) w = some ((), w') ∧ Bk 176 w' gv (ints .u32 (tks32 C m V (bs.drop (64 * j)))) ∧ Upd (· = gv) w w' := by
  intro m
  induction m with
  | zero =>
    intro j n w V hj hn hV hpl hr hbk hb
    obtain ⟨n, rfl⟩ : ∃ m, n = m + 1 := ⟨n - 1, by omega⟩
    refine ⟨w, ?_, hb, Upd.refl _ _⟩
    have hd : decide ((((64 * j : Nat)) : Int) < ((p1.len : Nat) : Int)) = false := by rw [hr.len, hbs]; simp; omega
    show ref01_narrow_l2_b K (ref01_narrow_l2 K n) p1 h2 a4 ⟨gk, 0, none⟩ ⟨gv, 0, none⟩ ((64 * j : Nat) : Int) w = _
    unfold ref01_narrow_l2_b
    rw [hd, if_neg (by decide)]
  | succ m ih =>
    intro j n w V hj hn hV hpl hr hbk hb
    obtain ⟨n, rfl⟩ : ∃ m, n = m + 1 := ⟨n - 1, by omega⟩
    have hlen := hr.len
    have hcap := hr.cap
    have hd : decide ((((64 * j : Nat)) : Int) < ((p1.len : Nat) : Int)) = true := by rw [hlen, hbs]; simp; omega
    have e64 : IntKind.i64.wrap (((64 * j : Nat) : Int) + 64) = ((64 * j + 64 : Nat) : Int) := by rw [w64 (by omega) (by omega)]; omega
    have c1 : (0 : Int) ≤ ((64 * j + 64 : Nat) : Int) ∧ ((64 * j + 64 : Nat) : Int) ≤ ((p1.cap : Nat) : Int) := by omega
    have c2 : (0 : Int) ≤ ((64 * j : Nat) : Int) ∧ ((64 * j : Nat) : Int) ≤ ((64 * j + 64 : Nat) : Int) := by omega
    have hs := hr.drew.sub (lo := 64 * j) (hi := 64 * j + 64) (by omega) (by omega)
    have hx : ((bs.take (64 * j + 64)).drop (64 * j)).length = 64 := by simp; omega
    have hblk : ∀ q, sla p1.a (64 * j) p1.cap 1 = some q → q.block < w.drew.heap.size := by
      intro q hq
      unfold sla at hq
      split at hq
      · exact hpl q hq
      · cases hb' : p1.a with
        | none => rw [hb'] at hq; simp at hq
        | some p =>
          rw [hb'] at hq; simp at hq
          have : q.block = p.block := by rw [← hq]; unfold Addr.add; split <;> rfl
          rw [this]; exact hpl p hb'
    obtain ⟨w1, h1, u1⟩ := taken32_ok hK (w := w.drew) (b := ⟨sla p1.a (64 * j) p1.cap 1, 64 * j + 64 - 64 * j, p1.cap - 64 * j⟩) hx hV hC hblk hs
    have hwd : words32 ((bs.take (64 * j + 64)).drop (64 * j)) 16 = words32 (bs.drop (64 * j)) 16 := by
      have : ∀ n, n ≤ 16 → words32 ((bs.take (64 * j + 64)).drop (64 * j)) n = words32 (bs.drop (64 * j)) n := by
        intro n
        induction n with
        | zero => intro _; rfl
        | succ n ihn =>
          intro hn
          have g : ∀ q, q < 64 → ((bs.take (64 * j + 64)).drop (64 * j)).getD q 0 = (bs.drop (64 * j)).getD q 0 := fun q hq => by
            simp [List.getD_eq_getElem?_getD, List.getElem?_drop, List.getElem?_take, show 64 * j + q < 64 * j + 64 by omega]
          simp only [words32]
          rw [ihn (by omega), g _ (by omega), g _ (by omega), g _ (by omega), g _ (by omega)]
      exact this 16 (Nat.le_refl _)
    have htk : tk32 C V ((bs.take (64 * j + 64)).drop (64 * j)) = tk32 C V (bs.drop (64 * j)) := by unfold tk32; rw [hwd]
    rw [htk] at h1
    have hl8 : (ints .u32 (tk32 C V (bs.drop (64 * j)))).length = 8 := by rw [ints_length, tk32_len]
    obtain ⟨w2, a1, a2, a3, a4'⟩ := lay' (hb.drew.upd0 u1) (vs := ints .u32 (tk32 C V (bs.drop (64 * j)))) (by rw [hl8, ints_length, hV]) ints_one
    have u2 : Upd (· = gv) w w2 := (u1.predrew.mono fun _ _ e => e.elim).trans' a3 fun _ _ e => e
    obtain ⟨w3, h3, b3, u3⟩ := ih (j + 1) n w2 (tk32 C V (bs.drop (64 * j))) (by omega) (by omega) (tk32_len _ _ _) (fun p hp => by have := hpl p hp; have := u2.size; omega)
      (hr.upd u2 fun p hp e => hpb p hp e) (hbk.upd u2 fun e => hkv e) a2
    have lV := hb.drew.ldA (i := 0) (n := 8) (by rw [ints_length, hV]; decide)
    rw [List.drop_zero, List.take_of_length_le (by rw [ints_length, hV]; decide)] at lV
    have lK := hbk.drew.ldA (i := 0) (n := 64) (by rw [ints_length, kc32_len hC]; decide)
    rw [List.drop_zero, List.take_of_length_le (by rw [ints_length, kc32_len hC]; decide)] at lK
    refine ⟨w3, ?_, ?_, u2.trans' u3 fun _ _ e => e⟩
    · show ref01_narrow_l2_b K (ref01_narrow_l2 K n) p1 h2 a4 ⟨gk, 0, none⟩ ⟨gv, 0, none⟩ ((64 * j : Nat) : Int) w = _
      unfold ref01_narrow_l2_b
      rw [hd, if_pos rfl, e64]
      simp only [Int.toNat_natCast]
      have e64' : ((64 * j + 64 : Nat) : Int) = ((64 * (j + 1) : Nat) : Int) := by omega
      rw [if_pos c1, if_pos c2, lV, Option.bind_some, lK, Option.bind_some, h1, bnd_ok]
      show (if (ints .u32 (tk32 C V (bs.drop (64 * j)))).toArray.size = 8 then _ else none) = _
      rw [if_pos (by rw [List.size_toArray, hl8]), a1, Option.bind_some, e64', h3]
    · have : tks32 C (m + 1) V (bs.drop (64 * j)) = tks32 C m (tk32 C V (bs.drop (64 * j))) (bs.drop (64 * (j + 1))) := by
        show tks32 C m (tk32 C V (bs.drop (64 * j))) ((bs.drop (64 * j)).drop 64) = _
        rw [List.drop_drop]
        rfl
      rw [this]; exact b3

/-- the document's narrow: words of a number of blocks -/
theorem refNarrow_ok {K : Nat} (hK : 18446744073709551616 ≤ K) {w : World} {p1 : Sl} {bs H C : List Int} (hC : C.length = 80) (hH : H.length = 8) (hlim : bs.length ≤ 140737488355328) {m : Nat} (hbs : bs.length = 64 * (m + 1))
    (hpl : ∀ p, p1.a = some p → p.block < w.heap.size) (hr : RdS .u8 w p1 bs) (hT : Rd w ⟨2, 0, none⟩ (ints .u64 C)) :
    ∃ w', ref01_narrow K (ints .u64 H).toArray p1 w = some (((ints .u64 (comps32 C (m + 1) H bs)).toArray, ()), w') ∧ Upd none_ w w' := by
  have hRC : 2 < w.heap.size := hT.lt (fun e => by have := congrArg List.length e; simp [hC] at this)
  obtain ⟨w1, n1, b1, u1, z1⟩ := newB_ok (ints .u64 H).toArray 150 w
  obtain ⟨w2, n2, b2, u2, z2⟩ := newB_ok z150 150 w1
  obtain ⟨w3, n3, b3, u3, z3⟩ := newB_ok z174 174 w2
  have b1 : Bk 150 w1 w.heap.size (ints .u64 H) := b1
  have b2 : Bk 150 w2 w1.heap.size z150.toList := b2
  have b3 : Bk 174 w3 w2.heap.size z174.toList := b3
  have q3 : Upd none_ w w3 := (u1.and0 u2).and0 u3
  obtain ⟨w4, h4, b4, u4⟩ := rn_l0 K (p1 := p1) (h2 := ⟨w.heap.size, 0, none⟩) (a4 := ⟨w1.heap.size, 0, none⟩) (gk := w2.heap.size) hC (by omega) 64 0 K w3 _ rfl (by omega) (hT.upd q3 fun _ => id) b3 rfl (by simp)
  have h4 : ref01_narrow_l0 K K p1 ⟨w.heap.size, 0, none⟩ ⟨w1.heap.size, 0, none⟩ ⟨w2.heap.size, 0, none⟩ 0 w3 = _ := h4
  obtain ⟨w5, n5, b5, u5, z5⟩ := newB_ok z176 176 w4
  have b5 : Bk 176 w5 w4.heap.size z176.toList := b5
  have s4 := u4.size
  have d1 : ¬ w.heap.size = w2.heap.size := by omega
  have d2 : ¬ w1.heap.size = w2.heap.size := by omega
  have bH : Bk 150 w5 w.heap.size (ints .u64 H) := ((((b1.upd0 u2).upd0 u3).upd u4 d1).upd0 u5)
  have bO : Bk 150 w5 w1.heap.size z150.toList := (((b2.upd0 u3).upd u4 d2).upd0 u5)
  have bk : Bk 174 w5 w2.heap.size (ints .u32 (kc32 C)) := b4.upd0 u5
  obtain ⟨w6, h6, b6, u6⟩ := rn_l1 K (p1 := p1) (a4 := ⟨w1.heap.size, 0, none⟩) (k5 := ⟨w2.heap.size, 0, none⟩) (gh := w.heap.size) (gv := w4.heap.size) hH (by omega) 8 0 K w5 _ rfl (by omega) bH b5 rfl (by simp)
  have h6 : ref01_narrow_l1 K K p1 ⟨w.heap.size, 0, none⟩ ⟨w1.heap.size, 0, none⟩ ⟨w2.heap.size, 0, none⟩ ⟨w4.heap.size, 0, none⟩ 0 w5 = _ := h6
  have q6 : Upd none_ w w6 := ((q3.trans' u4 fun k hk e => by omega).and0 u5).trans' u6 fun k hk e => by omega
  have s6 := u6.size
  have d3 : ¬ w2.heap.size = w4.heap.size := by omega
  have d4 : ¬ w.heap.size = w4.heap.size := by omega
  have d5 : ¬ w1.heap.size = w4.heap.size := by omega
  have hVl : (H.map IntKind.u32.wrap).length = 8 := by rw [List.length_map, hH]
  obtain ⟨w7, h7, b7, u7⟩ := rn_l2 hK (p1 := p1) (h2 := ⟨w.heap.size, 0, none⟩) (a4 := ⟨w1.heap.size, 0, none⟩) (gk := w2.heap.size) (gv := w4.heap.size) hC d3 hlim hbs (fun p hp e => by have := hpl p hp; omega) (m + 1) 0 K w6 _ rfl (by omega) hVl
    (fun p hp => by have := hpl p hp; have := q6.size; omega) (hr.upd0 q6) (bk.upd u6 d3) b6
  have h7 : ref01_narrow_l2 K K p1 ⟨w.heap.size, 0, none⟩ ⟨w1.heap.size, 0, none⟩ ⟨w2.heap.size, 0, none⟩ ⟨w4.heap.size, 0, none⟩ 0 w6 = _ := h7
  have b7 : Bk 176 w7 w4.heap.size (ints .u32 (tks32 C (m + 1) (H.map IntKind.u32.wrap) bs)) := b7
  have s7 := u7.size
  obtain ⟨w8, h8, b8, u8⟩ := rn_l3 K (a4 := ⟨w1.heap.size, 0, none⟩) (gh := w.heap.size) (gv := w4.heap.size) (tks32_len C (m + 1) _ bs hVl) (fun e => d4 e.symm) 8 0 K w7 _ rfl (by omega) b7 ((bH.upd u6 d4).upd u7 d4) (by rw [ints_length, hH]) (by simp)
  have h8 : ref01_narrow_l3 K K ⟨w.heap.size, 0, none⟩ ⟨w1.heap.size, 0, none⟩ ⟨w4.heap.size, 0, none⟩ 0 w7 = _ := h8
  rw [← comps_tks] at b8
  have hl8 : (ints .u64 (comps32 C (m + 1) H bs)).length = 8 := by rw [ints_length, comps32_len C (m + 1) H bs hH]
  have lH := b8.ldA (i := 0) (n := 8) (by rw [hl8]; decide)
  rw [List.drop_zero, List.take_of_length_le (by rw [hl8]; decide)] at lH
  have d6 : ¬ w1.heap.size = w.heap.size := by omega
  obtain ⟨w9, a1, a2, a3, a4⟩ := lay' (((bO.upd u6 d5).upd u7 d5).upd u8 d6) (vs := ints .u64 (comps32 C (m + 1) H bs)) (by rw [hl8]; rfl) ints_one
  rw [hl8] at a4
  refine ⟨w9, ?_, ?_⟩
  · unfold ref01_narrow
    rw [n1, bnd_ok, n2, bnd_ok, n3, bnd_ok, h4, bnd_ok, n5, bnd_ok, h6, bnd_ok, h7, bnd_ok, h8, bnd_ok, lH, Option.bind_some, if_pos (by rw [List.size_toArray, hl8]), a1, Option.bind_some, a4, Option.bind_some]
  · exact ((q6.trans' u7 fun k hk e => by omega).trans' u8 fun k hk e => by omega).trans' a3 fun k hk e => by omega

end Go.Sh

/- The document's own answer: taken64: what it computes. -/
set_option linter.unusedVariables false
namespace Go.Sh
open Go.Fw Go.Sha Go.RowKit Go.Proofs.Tryd

theorem ref64_l1 (K : Nat) {b : Sl} {bs : List Int} (hbl : bs.length = 128) {h2 a4 : Addr} {gw i : Nat} (hi16 : i < 16) (hne : ∀ p, b.a = some p → p.block ≠ gw) {v : Int} {ws : List Int} (hws : ws.length = 80) :
    ∀ (d j n : Nat) (w : World), j + d = 8 → d < n → RdS .u8 w b bs → Bk 175 w gw (ints .u64 (ws.set i (word64 v bs (8 * i) j))) →
      ∃ w', ref01_taken64_l1 K n b h2 a4 ⟨gw, 0, none⟩ (i : Int) (j : Int) w = some ((), w') ∧ Bk 175 w' gw (ints .u64 (ws.set i (word64 v bs (8 * i) 8))) ∧ Upd (· = gw) w w' := by
  intro d
  induction d with
  | zero =>
    intro j n w hj hn hr hb
    obtain ⟨n, rfl⟩ : ∃ m, n = m + 1 := ⟨n - 1, by omega⟩
    have : j = 8 := by omega
    subst this
    refine ⟨w, ?_, hb, Upd.refl _ _⟩
    show ref01_taken64_l1_b K (ref01_taken64_l1 K n) b h2 a4 ⟨gw, 0, none⟩ (i : Int) ((8 : Nat) : Int) w = _
    simp [ref01_taken64_l1_b]
  | succ d ih =>
    intro j n w hj hn hr hb
    obtain ⟨n, rfl⟩ : ∃ m, n = m + 1 := ⟨n - 1, by omega⟩
    obtain ⟨p, hp, hl⟩ := rdD hr.drew
    have hxn : bs ≠ [] := fun e => by rw [e] at hbl; cases hbl
    have hlen := hr.len
    have hd : decide ((j : Int) < 8) = true := by simp; omega
    have e1 : IntKind.i64.wrap ((j : Int) + 1) = ((j + 1 : Nat) : Int) := by rw [w64 (by omega) (by omega)]; rfl
    have e8 : IntKind.i64.wrap (8 * (i : Int)) = ((8 * i : Nat) : Int) := by rw [w64 (by omega) (by omega)]; omega
    have e8j : IntKind.i64.wrap (((8 * i : Nat) : Int) + (j : Int)) = ((8 * i + j : Nat) : Int) := by rw [w64 (by omega) (by omega)]; omega
    have c1 : (0 : Int) ≤ ((8 * i + j : Nat) : Int) ∧ ((8 * i + j : Nat) : Int) < ((b.len : Nat) : Int) := by omega
    have c2 : (0 : Int) ≤ (i : Int) ∧ (i : Int) < ((80 : Nat) : Int) := by omega
    have lx := hl (8 * i + j) (by omega)
    have lw : ldI .u64 ⟨gw, i, none⟩ w.drew = some (word64 v bs (8 * i) j) := hb.drew.ldI (by simp [ints, hws, show i < 80 by omega])
    obtain ⟨w1, s1, s2, s3⟩ := hb.drew.stC (i := i) (by rw [ints_length, List.length_set, hws]; omega) (.int .u64 (word64 v bs (8 * i) (j + 1)))
    rw [ints_set, List.set_set] at s2
    obtain ⟨w2, h1, h2', h3⟩ := ih (j + 1) n w1 (by omega) (by omega) (hr.drew.upd s3 fun q hq e => hne q hq e) s2
    refine ⟨w2, ?_, h2', s3.predrew.trans' h3 fun _ _ e => e⟩
    show ref01_taken64_l1_b K (ref01_taken64_l1 K n) b h2 a4 ⟨gw, 0, none⟩ (i : Int) (j : Int) w = _
    unfold ref01_taken64_l1_b
    rw [hd, if_pos rfl, if_pos c2, hp hxn, Option.bind_some, e8, e8j, if_pos c1]
    simp only [Int.toNat_natCast, add_lit, Nat.mul_one, Nat.zero_add]
    rw [lw, Option.bind_some, lx, Option.bind_some, if_pos c2]
    show (stC ⟨gw, i, none⟩ (.int .u64 (word64 v bs (8 * i) (j + 1))) w.drew).bind _ = _
    rw [s1, Option.bind_some, e1, h1]

theorem ref64_l0 {K : Nat} (hK : 18446744073709551616 ≤ K) {b : Sl} {bs : List Int} (hin : ∀ i, InK .u8 (bs.getD i 0)) (hbl : bs.length = 128) {h2 a4 : Addr} {gw : Nat} (hne : ∀ p, b.a = some p → p.block ≠ gw) :
    ∀ (d i n : Nat) (w : World) (ws : List Int), i + d = 16 → d < n → RdS .u8 w b bs → Bk 175 w gw (ints .u64 ws) → ws.length = 80 → ws.take i = words64 bs i →
      ∃ w' ws', ref01_taken64_l0 K n b h2 a4 ⟨gw, 0, none⟩ (i : Int) w = some ((), w') ∧ Bk 175 w' gw (ints .u64 ws') ∧ ws'.length = 80 ∧ ws'.take 16 = words64 bs 16 ∧ Upd (· = gw) w w' := by
  intro d
  induction d with
  | zero =>
    intro i n w ws hi hn hr hb hc ht
    obtain ⟨n, rfl⟩ : ∃ m, n = m + 1 := ⟨n - 1, by omega⟩
    have : i = 16 := by omega
    subst this
    refine ⟨w, ws, ?_, hb, hc, ht, Upd.refl _ _⟩
    show ref01_taken64_l0_b K (ref01_taken64_l0 K n) b h2 a4 ⟨gw, 0, none⟩ ((16 : Nat) : Int) w = _
    simp [ref01_taken64_l0_b]
  | succ d ih =>
    intro i n w ws hi hn hr hb hc ht
    obtain ⟨n, rfl⟩ : ∃ m, n = m + 1 := ⟨n - 1, by omega⟩
    have hd : decide ((i : Int) < 16) = true := by simp; omega
    have e1 : IntKind.i64.wrap ((i : Int) + 1) = ((i + 1 : Nat) : Int) := by rw [w64 (by omega) (by omega)]; rfl
    have hb0 : Bk 175 w gw (ints .u64 (ws.set i (word64 (ws.getD i 0) bs (8 * i) 0))) := by
      have : ws.set i (word64 (ws.getD i 0) bs (8 * i) 0) = ws := by
        show ws.set i (ws.getD i 0) = ws
        rw [List.getD_eq_getElem?_getD, List.getElem?_eq_getElem (show i < ws.length by omega)]
        exact List.set_getElem_self _
      rw [this]; exact hb
    obtain ⟨w1, h1, b1, u1⟩ := ref64_l1 K (h2 := h2) (a4 := a4) hbl (i := i) (by omega) hne (v := ws.getD i 0) hc 8 0 K w rfl (by omega) hr hb0
    have h1 : ref01_taken64_l1 K K b h2 a4 ⟨gw, 0, none⟩ (i : Int) 0 w = _ := h1
    rw [word64_any hin] at b1
    have ht1 : (ws.set i (word64 0 bs (8 * i) 8)).take (i + 1) = words64 bs (i + 1) := by
      rw [List.take_add_one, List.take_set_of_le (Nat.le_refl _), ht]
      simp [words64, show i < ws.length by omega]
    obtain ⟨w2, ws2, h3, b2, l2, t2, u2⟩ := ih (i + 1) n w1 _ (by omega) (by omega) (hr.upd u1 fun q hq e => hne q hq e) b1 (by simpa using hc) ht1
    refine ⟨w2, ws2, ?_, b2, l2, t2, u1.trans' u2 fun _ _ e => e⟩
    show ref01_taken64_l0_b K (ref01_taken64_l0 K n) b h2 a4 ⟨gw, 0, none⟩ (i : Int) w = _
    unfold ref01_taken64_l0_b
    rw [hd, if_pos rfl, h1, bnd_ok, e1, h3]

theorem ref64_l2 (K : Nat) {h2 a4 : Addr} {gw : Nat} :
    ∀ (d n : Nat) (w : World) (cs : List Value) (S : List Int), S.length + d = 80 → 16 ≤ S.length → d < n → Bk 175 w gw cs → cs.length = 80 → cs.take S.length = ints .u64 S →
      ∃ w' cs', ref01_taken64_l2 K n h2 a4 ⟨gw, 0, none⟩ ((S.length : Nat) : Int) w = some ((), w') ∧ Bk 175 w' gw cs' ∧ cs' = ints .u64 (ext64 d S) ∧ Upd (· = gw) w w' := by
  intro d
  induction d with
  | zero =>
    intro n w cs S hi h16 hn hb hc ht
    obtain ⟨n, rfl⟩ : ∃ m, n = m + 1 := ⟨n - 1, by omega⟩
    have hS : S.length = 80 := by omega
    refine ⟨w, cs, ?_, hb, ?_, Upd.refl _ _⟩
    · show ref01_taken64_l2_b K (ref01_taken64_l2 K n) h2 a4 ⟨gw, 0, none⟩ ((S.length : Nat) : Int) w = _
      rw [hS]
      simp [ref01_taken64_l2_b]
    · rw [hS, List.take_of_length_le (by omega)] at ht; exact ht
  | succ d ih =>
    intro n w cs S hi h16 hn hb hc ht
    obtain ⟨n, rfl⟩ : ∃ m, n = m + 1 := ⟨n - 1, by omega⟩
    have hd : decide (((S.length : Nat) : Int) < 80) = true := by simp; omega
    have e15 : IntKind.i64.wrap (((S.length : Nat) : Int) - 15) = ((S.length - 15 : Nat) : Int) := by rw [w64 (by omega) (by omega)]; omega
    have e2 : IntKind.i64.wrap (((S.length : Nat) : Int) - 2) = ((S.length - 2 : Nat) : Int) := by rw [w64 (by omega) (by omega)]; omega
    have e16 : IntKind.i64.wrap (((S.length : Nat) : Int) - 16) = ((S.length - 16 : Nat) : Int) := by rw [w64 (by omega) (by omega)]; omega
    have e7 : IntKind.i64.wrap (((S.length : Nat) : Int) - 7) = ((S.length - 7 : Nat) : Int) := by rw [w64 (by omega) (by omega)]; omega
    have e1 : IntKind.i64.wrap (((S.length : Nat) : Int) + 1) = ((S.length + 1 : Nat) : Int) := by rw [w64 (by omega) (by omega)]; rfl
    have c15 : (0 : Int) ≤ ((S.length - 15 : Nat) : Int) ∧ ((S.length - 15 : Nat) : Int) < ((80 : Nat) : Int) := by omega
    have c2 : (0 : Int) ≤ ((S.length - 2 : Nat) : Int) ∧ ((S.length - 2 : Nat) : Int) < ((80 : Nat) : Int) := by omega
    have c16 : (0 : Int) ≤ ((S.length - 16 : Nat) : Int) ∧ ((S.length - 16 : Nat) : Int) < ((80 : Nat) : Int) := by omega
    have c7 : (0 : Int) ≤ ((S.length - 7 : Nat) : Int) ∧ ((S.length - 7 : Nat) : Int) < ((80 : Nat) : Int) := by omega
    have c0 : (0 : Int) ≤ ((S.length : Nat) : Int) ∧ ((S.length : Nat) : Int) < ((80 : Nat) : Int) := by omega
    have l15 := hb.ldI (row_front ht (i := S.length - 15) (by omega))
    have l2 := hb.ldI (row_front ht (i := S.length - 2) (by omega))
    have l16 := hb.drew.ldI (row_front ht (i := S.length - 16) (by omega))
    have l7 := hb.drew.ldI (row_front ht (i := S.length - 7) (by omega))
    let x := sch64 (S.getD (S.length - 15) 0) (S.getD (S.length - 2) 0) (S.getD (S.length - 16) 0) (S.getD (S.length - 7) 0)
    obtain ⟨w1, s1, s2, s3⟩ := hb.drew.stC (i := S.length) (by omega) (.int .u64 x)
    have hfs := front_set ht (by omega) x
    have hSl : (S ++ [x]).length = S.length + 1 := by simp
    obtain ⟨w2, cs2, h1, b2, h4, h5⟩ := ih n w1 _ (S ++ [x]) (by rw [hSl]; omega) (by rw [hSl]; omega) (by omega) s2 (by simpa using hc) hfs
    rw [hSl] at h1
    refine ⟨w2, cs2, ?_, b2, by rw [h4]; rfl, s3.predrew.trans' h5 fun _ _ e => e⟩
    show ref01_taken64_l2_b K (ref01_taken64_l2 K n) h2 a4 ⟨gw, 0, none⟩ ((S.length : Nat) : Int) w = _
    unfold ref01_taken64_l2_b
    rw [hd, if_pos rfl, e15, e2, e16, e7]
    simp only [Int.toNat_natCast, add_lit, Nat.mul_one, Nat.zero_add]
    rw [if_pos c15, l15, Option.bind_some, if_pos c2, l2, Option.bind_some, if_pos c7, if_pos c16, l7, Option.bind_some, l16, Option.bind_some, if_pos c0]
    have r19 : bits .or .u64 (Int.fdiv (S.getD (S.length - 2) 0) (2 ^ 19)) (IntKind.u64.wrap ((S.getD (S.length - 2) 0) * 2 ^ 45)) = rr64 (S.getD (S.length - 2) 0) 19 := rr64_or _ 19
    have r61 : bits .or .u64 (Int.fdiv (S.getD (S.length - 2) 0) (2 ^ 61)) (IntKind.u64.wrap ((S.getD (S.length - 2) 0) * 2 ^ 3)) = rr64 (S.getD (S.length - 2) 0) 61 := rr64_or _ 61
    have r1 : bits .or .u64 (Int.fdiv (S.getD (S.length - 15) 0) (2 ^ 1)) (IntKind.u64.wrap ((S.getD (S.length - 15) 0) * 2 ^ 63)) = rr64 (S.getD (S.length - 15) 0) 1 := rr64_or _ 1
    have r8 : bits .or .u64 (Int.fdiv (S.getD (S.length - 15) 0) (2 ^ 8)) (IntKind.u64.wrap ((S.getD (S.length - 15) 0) * 2 ^ 56)) = rr64 (S.getD (S.length - 15) 0) 8 := rr64_or _ 8
    rw [r19, r61, r1, r8]
    have hx := sch64_ref (S.getD (S.length - 15) 0) (S.getD (S.length - 2) 0) (S.getD (S.length - 16) 0) (S.getD (S.length - 7) 0)
    rw [hx, s1, Option.bind_some, e1, h1]

theorem ref64_l3 (K : Nat) {h2 a4 : Addr} {gw : Nat} {W C : List Int} (hW : W.length = 80) (hC : C.length = 80) :
    ∀ (m i n : Nat) (w : World) (a b c d e f g z : Int), i + m = 80 → m < n → Bk 175 w gw (ints .u64 W) → Rd w ⟨2, 0, none⟩ (ints .u64 C) →
      ∃ w', ref01_taken64_l3 K n h2 a4 ⟨gw, 0, none⟩ a b c d e f g z (i : Int) w = some (rounds64 W C m i a b c d e f g z, w') ∧ Upd none_ w w' := by
  intro m
  induction m with
  | zero =>
    intro i n w a b c d e f g z hi hn hb hk
    obtain ⟨n, rfl⟩ : ∃ m, n = m + 1 := ⟨n - 1, by omega⟩
    have : i = 80 := by omega
    subst this
    refine ⟨w, ?_, Upd.refl _ _⟩
    show ref01_taken64_l3_b K (ref01_taken64_l3 K n) h2 a4 ⟨gw, 0, none⟩ a b c d e f g z ((80 : Nat) : Int) w = _
    simp [ref01_taken64_l3_b, rounds64]
  | succ m ih =>
    intro i n w a b c d e f g z hi hn hb hk
    obtain ⟨n, rfl⟩ : ∃ m, n = m + 1 := ⟨n - 1, by omega⟩
    have hd : decide ((i : Int) < 80) = true := by simp; omega
    have e1 : IntKind.i64.wrap ((i : Int) + 1) = ((i + 1 : Nat) : Int) := by rw [w64 (by omega) (by omega)]; rfl
    have c64 : (0 : Int) ≤ (i : Int) ∧ (i : Int) < ((80 : Nat) : Int) := by omega
    have lk : ldI .u64 ⟨2, i, none⟩ w.drew = some (C.getD i 0) := by
      have := hk i (.int .u64 (C.getD i 0)) (by simp [ints, List.getD_eq_getElem?_getD, show i < C.length by omega])
      rw [add_lit, Nat.zero_add] at this
      have h9 : w.drew.cell? ⟨2, i, none⟩ = some (.int .u64 (C.getD i 0)) := this
      simp [ldI, h9, asI]
    have lw : ldI .u64 ⟨gw, i, none⟩ w.drew = some (W.getD i 0) := hb.drew.ldI (by simp [ints, List.getD_eq_getElem?_getD, show i < W.length by omega])
    obtain ⟨w1, h1, u1⟩ := ih (i + 1) n w.drew (IntKind.u64.wrap (t1_64 e f g z (C.getD i 0) (W.getD i 0) + t2_64 a b c)) a b c
      (IntKind.u64.wrap (d + t1_64 e f g z (C.getD i 0) (W.getD i 0))) e f g (by omega) (by omega) hb.drew (hk.upd (S := none_) (Upd.refl _ _).drew fun _ => id)
    refine ⟨w1, ?_, u1.predrew⟩
    show ref01_taken64_l3_b K (ref01_taken64_l3 K n) h2 a4 ⟨gw, 0, none⟩ a b c d e f g z (i : Int) w = _
    unfold ref01_taken64_l3_b
    rw [hd, if_pos rfl, if_pos c64, if_pos c64]
    simp only [Int.toNat_natCast, add_lit, Nat.mul_one, Nat.zero_add]
    rw [lk, Option.bind_some, lw, Option.bind_some, e1]
    have r14 : bits .or .u64 (Int.fdiv e (2 ^ 14)) (IntKind.u64.wrap (e * 2 ^ 50)) = rr64 e 14 := rr64_or e 14
    have r18 : bits .or .u64 (Int.fdiv e (2 ^ 18)) (IntKind.u64.wrap (e * 2 ^ 46)) = rr64 e 18 := rr64_or e 18
    have r41 : bits .or .u64 (Int.fdiv e (2 ^ 41)) (IntKind.u64.wrap (e * 2 ^ 23)) = rr64 e 41 := rr64_or e 41
    have r28 : bits .or .u64 (Int.fdiv a (2 ^ 28)) (IntKind.u64.wrap (a * 2 ^ 36)) = rr64 a 28 := rr64_or a 28
    have r34 : bits .or .u64 (Int.fdiv a (2 ^ 34)) (IntKind.u64.wrap (a * 2 ^ 30)) = rr64 a 34 := rr64_or a 34
    have r39 : bits .or .u64 (Int.fdiv a (2 ^ 39)) (IntKind.u64.wrap (a * 2 ^ 25)) = rr64 a 39 := rr64_or a 39
    rw [r14, r18, r41, r28, r34, r39, ch_or (k := .u64) rfl _ all64, maj_or (k := .u64) rfl]
    exact h1

theorem taken64_ok {K : Nat} (hK : 18446744073709551616 ≤ K) {w : World} {b : Sl} {bs V C : List Int} (hin : ∀ i, InK .u8 (bs.getD i 0)) (hbl : bs.length = 128) (hV : V.length = 8) (hC : C.length = 80) (hbv : ∀ p, b.a = some p → p.block < w.heap.size) (hr : RdS .u8 w b bs) (hT : Rd w ⟨2, 0, none⟩ (ints .u64 C)) :
    ∃ w', ref01_taken64 K (ints .u64 V).toArray b w = some (((ints .u64 (comp64 C V bs)).toArray, ()), w') ∧ Upd none_ w w' := by
  have hRC : 2 < w.heap.size := hT.lt (fun e => by have := congrArg List.length e; simp [hC] at this)
  obtain ⟨w1, n1, b1, u1, z1⟩ := newB_ok (ints .u64 V).toArray 150 w
  obtain ⟨w2, n2, b2, u2, z2⟩ := newB_ok z150 150 w1
  obtain ⟨w3, n3, b3, u3, z3⟩ := newB_ok z175 175 w2
  have b1 : Bk 150 w1 w.heap.size (ints .u64 V) := b1
  have b2 : Bk 150 w2 w1.heap.size z150.toList := b2
  have b3 : Bk 175 w3 w2.heap.size (ints .u64 (List.replicate 80 0)) := by
    have e : z175.toList = ints .u64 (List.replicate 80 0) := by simp [z175, ints]
    rw [← e]; exact b3
  have q3 : Upd none_ w w3 := (u1.and0 u2).and0 u3
  obtain ⟨w5, c5, h5, b5, l5, t5, u5⟩ := ref64_l0 hK (h2 := ⟨w.heap.size, 0, none⟩) (a4 := ⟨w1.heap.size, 0, none⟩) hin hbl (gw := w2.heap.size) (fun p hp e => by have := hbv p hp; omega) 16 0 K w3 (List.replicate 80 0) rfl (by omega) (hr.upd0 q3) b3 (by simp) (by simp [words64])
  have h5 : ref01_taken64_l0 K K b ⟨w.heap.size, 0, none⟩ ⟨w1.heap.size, 0, none⟩ ⟨w2.heap.size, 0, none⟩ 0 w3 = _ := h5
  obtain ⟨w6, c6, h6, b6, t6, u6⟩ := ref64_l2 K (h2 := ⟨w.heap.size, 0, none⟩) (a4 := ⟨w1.heap.size, 0, none⟩) 64 K w5 (ints .u64 c5) (words64 bs 16) (by rw [words64_len]) (by rw [words64_len]; decide) (by omega) b5 (by rw [ints_length]; exact l5) (by rw [words64_len, ints_take, t5])
  rw [words64_len] at h6
  have h6 : ref01_taken64_l2 K K ⟨w.heap.size, 0, none⟩ ⟨w1.heap.size, 0, none⟩ ⟨w2.heap.size, 0, none⟩ 16 w5 = _ := h6
  rw [t6] at b6
  have n13 : ¬ w.heap.size = w2.heap.size := by omega
  have n23 : ¬ w1.heap.size = w2.heap.size := by omega
  have bV : Bk 150 w6 w.heap.size (ints .u64 V) := ((((b1.upd0 u2).upd0 u3).upd u5 n13).upd u6 n13)
  have bO : Bk 150 w6 w1.heap.size z150.toList := (((b2.upd0 u3).upd u5 n23).upd u6 n23)
  have q6 : Upd none_ w w6 := (q3.trans' u5 fun k hk e => by omega).trans' u6 fun k hk e => by omega
  have gv : ∀ i, i < 8 → (ints .u64 V)[i]? = some (.int .u64 (V.getD i 0)) := fun i hi => by
    have : i < V.length := by omega
    rw [ints, List.getElem?_map, List.getElem?_eq_getElem this, List.getD_eq_getElem?_getD, List.getElem?_eq_getElem this]; rfl
  have h7x := ref64_l3 K (h2 := ⟨w.heap.size, 0, none⟩) (a4 := ⟨w1.heap.size, 0, none⟩) (gw := w2.heap.size) (W := ext64 64 (words64 bs 16)) (C := C) (by rw [ext64_len, words64_len]) hC 80 0 K w6.drew.drew (V.getD 0 0) (V.getD 1 0) (V.getD 2 0) (V.getD 3 0) (V.getD 4 0) (V.getD 5 0) (V.getD 6 0) (V.getD 7 0) rfl (by omega) b6.drew.drew (hT.upd (S := none_) q6.drew.drew fun _ => id)
  obtain ⟨y, hy⟩ : ∃ y, rv64 C V bs = y := ⟨_, rfl⟩
  unfold rv64 at hy
  rw [hy] at h7x
  obtain ⟨w7, h7, u7⟩ := h7x
  have h7 : ref01_taken64_l3 K K ⟨w.heap.size, 0, none⟩ ⟨w1.heap.size, 0, none⟩ ⟨w2.heap.size, 0, none⟩ (V.getD 0 0) (V.getD 1 0) (V.getD 2 0) (V.getD 3 0) (V.getD 4 0) (V.getD 5 0) (V.getD 6 0) (V.getD 7 0) 0 w6.drew.drew = some (y, w7) := h7
  have hc : comp64 C V bs = sum8w V (list8 y) := by unfold comp64 rv64; rw [hy]
  have hl8 : (ints .u64 (sum8w V (list8 y))).length = 8 := by simp [ints, sum8w]
  have bV7 : Bk 150 w7 w.heap.size (ints .u64 V) := bV.drew.drew.upd0 u7
  have bO7 : Bk 150 w7 w1.heap.size z150.toList := bO.drew.drew.upd0 u7
  obtain ⟨w8, a1, a2, a3, a4⟩ := lay' bO7 (vs := ints .u64 (sum8w V (list8 y))) (by rw [hl8]; rfl) ints_one
  rw [hl8] at a4
  have hsum : [IntKind.u64.wrap (V.getD 0 0 + y.1), IntKind.u64.wrap (V.getD 1 0 + y.2.1), IntKind.u64.wrap (V.getD 2 0 + y.2.2.1), IntKind.u64.wrap (V.getD 3 0 + y.2.2.2.1), IntKind.u64.wrap (V.getD 4 0 + y.2.2.2.2.1), IntKind.u64.wrap (V.getD 5 0 + y.2.2.2.2.2.1), IntKind.u64.wrap (V.getD 6 0 + y.2.2.2.2.2.2.1), IntKind.u64.wrap (V.getD 7 0 + y.2.2.2.2.2.2.2.1)] = sum8w V (list8 y) := rfl
  refine ⟨w8, ?_, ?_⟩
  · unfold ref01_taken64
    rw [n1, bnd_ok, n2, bnd_ok, n3, bnd_ok, h5, bnd_ok, h6, bnd_ok]
    simp only [add_lit, Nat.zero_mul, Nat.one_mul, Nat.add_zero, Nat.zero_add, Nat.reduceMul]
    rw [bV.drew.ldI (gv 0 (by decide)), Option.bind_some, bV.drew.ldI (gv 1 (by decide)), Option.bind_some, bV.drew.ldI (gv 2 (by decide)), Option.bind_some, bV.drew.ldI (gv 3 (by decide)), Option.bind_some,
      bV.drew.drew.ldI (gv 4 (by decide)), Option.bind_some, bV.drew.drew.ldI (gv 5 (by decide)), Option.bind_some, bV.drew.drew.ldI (gv 6 (by decide)), Option.bind_some, bV.drew.drew.ldI (gv 7 (by decide)), Option.bind_some,
      h7, bnd_ok, bV7.ldI (gv 0 (by decide)), Option.bind_some, bV7.ldI (gv 1 (by decide)), Option.bind_some, bV7.ldI (gv 2 (by decide)), Option.bind_some, bV7.ldI (gv 3 (by decide)), Option.bind_some,
      bV7.ldI (gv 4 (by decide)), Option.bind_some, bV7.ldI (gv 5 (by decide)), Option.bind_some, bV7.ldI (gv 6 (by decide)), Option.bind_some, bV7.ldI (gv 7 (by decide)), Option.bind_some, built150, Option.bind_some, hsum,
      if_pos (by rw [List.size_toArray, hl8]), a1, Option.bind_some, a4, Option.bind_some, hc]
  · exact (q6.drew.drew.and0 u7).trans' a3 fun k hk e => by omega

end Go.Sh

/- Kinds of digests: what kindOf, Size and Block of package digest compute; 'cofferlaw01.DigestSizes': what the walk computes. -/
set_option linter.unusedVariables false
namespace Go.Sh
open Go.Fw Go.RowKit Go.Proofs.Tryd

/-- the cells of a kind -/
def kc (h : Int) : List Value :=
  if h = 224 then [.int .i64 28, .int .i64 64, .int .i64 4, .func (.func 113) #[] #[]]
  else if h = 256 then [.int .i64 32, .int .i64 64, .int .i64 4, .func (.func 113) #[] #[]]
  else if h = 384 then [.int .i64 48, .int .i64 128, .int .i64 8, .func (.func 114) #[] #[]]
  else if h = 512 then [.int .i64 64, .int .i64 128, .int .i64 8, .func (.func 114) #[] #[]]
  else [.int .i64 0, .int .i64 0, .int .i64 0, .nilFunc]

def known (h : Int) : Bool := h == 224 || h == 256 || h == 384 || h == 512

theorem kc_len (h : Int) : (kc h).length = 4 := by
  unfold kc; repeat' split
  all_goals rfl
theorem kc_one (h : Int) : ∀ v ∈ kc h, v.oneCell' = true := by
  unfold kc
  repeat' split
  all_goals (intro v hv; simp at hv; rcases hv with rfl | rfl | rfl | rfl <;> rfl)

theorem z77_eq : z138.toList = [.int .i64 0, .int .i64 0, .int .i64 0, .nilFunc] := rfl

theorem built224 : prog.built 138 [(0, (.int .i64 (IntKind.i64.wrap (Int.tdiv 224 8)))), (1, (.int .i64 64)), (2, (.int .i64 4)), (3, (.func (.func 113) #[] #[]))] = some (kc 224).toArray := by kernel_rfl
theorem built256 : prog.built 138 [(0, (.int .i64 (IntKind.i64.wrap (Int.tdiv 256 8)))), (1, (.int .i64 64)), (2, (.int .i64 4)), (3, (.func (.func 113) #[] #[]))] = some (kc 256).toArray := by kernel_rfl
theorem built384 : prog.built 138 [(0, (.int .i64 (IntKind.i64.wrap (Int.tdiv 384 8)))), (1, (.int .i64 128)), (2, (.int .i64 8)), (3, (.func (.func 114) #[] #[]))] = some (kc 384).toArray := by kernel_rfl
theorem built512 : prog.built 138 [(0, (.int .i64 (IntKind.i64.wrap (Int.tdiv 512 8)))), (1, (.int .i64 128)), (2, (.int .i64 8)), (3, (.func (.func 114) #[] #[]))] = some (kc 512).toArray := by kernel_rfl
theorem built0 : prog.built 138 [] = some #[.int .i64 0, .int .i64 0, .int .i64 0, .nilFunc] := by kernel_rfl

theorem kc_other {h : Int} (hk : known h = false) : kc h = [.int .i64 0, .int .i64 0, .int .i64 0, .nilFunc] := by
  simp [known] at hk
  unfold kc
  rw [if_neg hk.1.1.1, if_neg hk.1.1.2, if_neg hk.1.2, if_neg hk.2]

/-- a row of cells laid over a new block of as many -/
theorem lay {e : TypeId} {w : World} {g : Nat} {cs vs : List Value} (hb : Bk e w g cs) (hl : vs.length = cs.length) (h1 : ∀ v ∈ vs, v.oneCell' = true) :
    ∃ w', stA ⟨g, 0, none⟩ vs.toArray w = some w' ∧ Bk e w' g vs ∧ Upd (· = g) w w' ∧ ldA vs.length ⟨g, 0, none⟩ w' = some vs.toArray := by
  obtain ⟨w', a1, a2, a3⟩ := hb.stA (o := 0) (vs := vs.toArray) (by simp [hl]) (fun v hv => h1 v hv)
  have es : seg cs 0 vs = vs := by
    simp only [seg, List.take_zero, List.nil_append, Nat.zero_add]
    rw [List.drop_eq_nil_of_le (by omega), List.append_nil]
  have a2 : Bk e w' g vs := by rw [← es]; exact a2
  have hl := a2.ldA (i := 0) (n := vs.length) (by omega)
  rw [List.drop_zero, List.take_of_length_le (Nat.le_refl _)] at hl
  exact ⟨w', a1, a2, a3, hl⟩

/-- the end of kindOf: the cells are laid and read -/
theorem kindOf_end {w : World} {cs : List Value} (v : List Value) (b : Bool) (hc : cs.length = 4) {g : Nat} (hb : Bk 138 w g cs) (hv : v.length = 4) (h1 : ∀ x ∈ v, x.oneCell' = true) :
    ∃ w', (if (v.toArray).size = 4 then ((stA ⟨g, 0, none⟩ v.toArray w).bind fun w_6 => (ldA 4 ⟨g, 0, none⟩ w_6).bind fun res_7 => some ((res_7, b, ()), w_6)) else none) = some ((v.toArray, b, ()), w') ∧ Upd (· = g) w w' := by
  obtain ⟨w', a1, a2, a3, a4⟩ := lay hb (by omega) h1
  rw [hv] at a4
  refine ⟨w', ?_, a3⟩
  rw [if_pos (by simpa using hv), a1, Option.bind_some, a4, Option.bind_some]

theorem kindOf_ok (h : Int) (w : World) : ∃ w', digest_kindOf h w = some (((kc h).toArray, known h, ()), w') ∧ Upd none_ w w' := by
  obtain ⟨w1, n1, b1, u1, z1⟩ := newB_ok z138 138 w
  have b1 : Bk 138 w1 w.heap.size z138.toList := b1
  obtain ⟨w2, e2, u2⟩ := kindOf_end (kc h) (known h) (by rw [z77_eq]; rfl) b1 (kc_len h) (kc_one h)
  refine ⟨w2, ?_, u1.trans' u2 fun k hk e => by omega⟩
  unfold digest_kindOf
  rw [n1, bnd_ok]
  by_cases c1 : h = 224
  · subst c1
    have s0 : digest_kindOf_s0 224 ((224 : Int) == 224) w1 = some ((true, ()), w1) := rfl
    rw [s0, bnd_ok, if_pos rfl, built224, Option.bind_some]
    exact e2
  by_cases c2 : h = 256
  · subst c2
    have s0 : digest_kindOf_s0 256 ((256 : Int) == 224) w1 = some ((true, ()), w1) := rfl
    rw [s0, bnd_ok, if_pos rfl, built256, Option.bind_some]
    exact e2
  have s0 : digest_kindOf_s0 h (h == 224) w1 = some ((false, ()), w1) := by
    have q1 : (h == 224) = false := by simpa using c1
    have q2 : (h == 256) = false := by simpa using c2
    unfold digest_kindOf_s0; rw [q1, q2]; rfl
  rw [s0, bnd_ok, if_neg (by decide)]
  by_cases c3 : h = 384
  · subst c3
    have s1 : digest_kindOf_s1 384 ((384 : Int) == 384) w1 = some ((true, ()), w1) := rfl
    rw [s1, bnd_ok, if_pos rfl, built384, Option.bind_some]
    exact e2
  by_cases c4 : h = 512
  · subst c4
    have s1 : digest_kindOf_s1 512 ((512 : Int) == 384) w1 = some ((true, ()), w1) := rfl
    rw [s1, bnd_ok, if_pos rfl, built512, Option.bind_some]
    exact e2
  have s1 : digest_kindOf_s1 h (h == 384) w1 = some ((false, ()), w1) := by
    have q1 : (h == 384) = false := by simpa using c3
    have q2 : (h == 512) = false := by simpa using c4
    unfold digest_kindOf_s1; rw [q1, q2]; rfl
  have hk : known h = false := by simp [known, c1, c2, c3, c4]
  rw [s1, bnd_ok, if_neg (by decide), built0, Option.bind_some]
  rw [kc_other hk, hk] at e2 ⊢
  exact e2

/-- size and block of a digest -/
def sizeOfH (h : Int) : Int := if known h = true then h / 8 else 0
def blockOfH (h : Int) : Int := if h = 224 ∨ h = 256 then 64 else if h = 384 ∨ h = 512 then 128 else 0

theorem refSize_ok (h : Int) : ref01_Size h = some (sizeOfH h, ()) := by
  by_cases c1 : h = 224
  · subst c1; rfl
  by_cases c2 : h = 256
  · subst c2; rfl
  by_cases c3 : h = 384
  · subst c3; rfl
  by_cases c4 : h = 512
  · subst c4; rfl
  have hk : known h = false := by simp [known, c1, c2, c3, c4]
  simp [ref01_Size, sizeOfH, hk, c1, c2, c3, c4]

theorem refBlock_ok (h : Int) : ref01_Block h = some (blockOfH h, ()) := by
  by_cases c1 : h = 224
  · subst c1; rfl
  by_cases c2 : h = 256
  · subst c2; rfl
  by_cases c3 : h = 384
  · subst c3; rfl
  by_cases c4 : h = 512
  · subst c4; rfl
  simp [ref01_Block, ref01_Block_s0, blockOfH, c1, c2, c3, c4]

end Go.Sh

/- The words that a digest begins with, by the program and by the document's answer. -/
set_option linter.unusedVariables false
namespace Go.Sh
open Go.Fw Go.Sha Go.RowKit Go.Proofs.Tryd

def fw1 (S : List Int) (h : Int) (i : Nat) : Int :=
  if h = 224 then Int.tmod (S.getD (8 + i) 0) 4294967296 else if h = 256 then Int.fdiv (S.getD i 0) (2 ^ 32) else if h = 384 then S.getD (8 + i) 0 else if h = 512 then S.getD i 0 else 0

def firstH (S : List Int) (h : Int) : List Int := (List.range 8).map (fw1 S h)

theorem firstH_len (S : List Int) (h : Int) : (firstH S h).length = 8 := by simp [firstH]
theorem firstH_get (S : List Int) (h : Int) {i : Nat} (hi : i < 8) : (firstH S h).getD i 0 = fw1 S h i := by
  simp [firstH, List.getD_eq_getElem?_getD, hi]

theorem known_cases {h : Int} (hk : known h = true) : h = 224 ∨ h = 256 ∨ h = 384 ∨ h = 512 := by
  simp [known] at hk
  rcases hk with ((h | h) | h) | h <;> simp [h]

theorem and32 {x : Int} (hx : InK .u64 x) : bits .and .u64 x 4294967295 = Int.tmod x 4294967296 := by
  obtain ⟨n, rfl, hn⟩ := hx.nat
  have h1 := (bits_nats (k := .u64) rfl hn (show 4294967295 < 2 ^ IntKind.u64.bits by decide)).1
  have h2 : n &&& 4294967295 = n % 4294967296 := Nat.and_two_pow_sub_one_eq_mod n 32
  rw [h2] at h1
  exact h1.trans (tmod_nat n 4294967296).symm

theorem rd_ld {w : World} {g : Nat} {S : List Int} (h : Rd w ⟨g, 0, none⟩ (ints .u64 S)) {i : Nat} (hi : i < S.length) : ldI .u64 ⟨g, i, none⟩ w = some (S.getD i 0) := by
  have := h i (.int .u64 (S.getD i 0)) (by simp [ints, List.getD_eq_getElem?_getD, hi])
  rw [add_lit, Nat.zero_add] at this
  simp [ldI, this, asI]

theorem refFirst_loop (K : Nat) {h : Int} (hk : known h = true) {S : List Int} (hS : S.length = 16) {a2 : Addr} {gh : Nat} (hg : gh ≠ 1) :
    ∀ (d i n : Nat) (w : World) (cs : List Value), i + d = 8 → d < n → Rd w ⟨1, 0, none⟩ (ints .u64 S) → Bk 150 w gh cs → cs.length = 8 → cs.take i = ints .u64 ((firstH S h).take i) →
      ∃ w', ref01_first_l0 K n h a2 ⟨gh, 0, none⟩ (i : Int) w = some ((), w') ∧ Bk 150 w' gh (ints .u64 (firstH S h)) ∧ Upd (· = gh) w w' := by
  intro d
  induction d with
  | zero =>
    intro i n w cs hi hn hT hb hc ht
    obtain ⟨n, rfl⟩ : ∃ m, n = m + 1 := ⟨n - 1, by omega⟩
    have : i = 8 := by omega
    subst this
    rw [List.take_of_length_le (by omega), List.take_of_length_le (by rw [firstH_len]; decide)] at ht
    refine ⟨w, ?_, ht ▸ hb, Upd.refl _ _⟩
    show ref01_first_l0_b K (ref01_first_l0 K n) h a2 ⟨gh, 0, none⟩ ((8 : Nat) : Int) w = _
    simp [ref01_first_l0_b]
  | succ d ih =>
    intro i n w cs hi hn hT hb hc ht
    obtain ⟨n, rfl⟩ : ∃ m, n = m + 1 := ⟨n - 1, by omega⟩
    have hd : decide ((i : Int) < 8) = true := by simp; omega
    have e1 : IntKind.i64.wrap ((i : Int) + 1) = ((i + 1 : Nat) : Int) := by rw [w64 (by omega) (by omega)]; rfl
    have e8 : IntKind.i64.wrap (8 + (i : Int)) = ((8 + i : Nat) : Int) := by rw [w64 (by omega) (by omega)]; rfl
    have c8 : (0 : Int) ≤ ((8 + i : Nat) : Int) ∧ ((8 + i : Nat) : Int) < ((16 : Nat) : Int) := by omega
    have c16 : (0 : Int) ≤ (i : Int) ∧ (i : Int) < ((16 : Nat) : Int) := by omega
    have c0 : (0 : Int) ≤ (i : Int) ∧ (i : Int) < ((8 : Nat) : Int) := by omega
    have l8 := rd_ld hT (i := 8 + i) (by omega)
    have l0 := rd_ld hT (i := i) (by omega)
    have hx := firstH_get S h (i := i) (by omega)
    obtain ⟨w1, s1, s2, s3⟩ := hb.stC (i := i) (by omega) (.int .u64 ((firstH S h).getD i 0))
    obtain ⟨w2, h1, h2, h3⟩ := ih (i + 1) n w1 _ (by omega) (by omega) (hT.upd s3 fun _ e => hg e.symm) s2 (by simpa using hc) (set_front ht (by rw [firstH_len]; omega) (by omega))
    refine ⟨w2, ?_, h2, s3.trans' h3 fun _ _ e => e⟩
    show ref01_first_l0_b K (ref01_first_l0 K n) h a2 ⟨gh, 0, none⟩ (i : Int) w = _
    rw [hx] at s1
    unfold ref01_first_l0_b
    rcases known_cases hk with e | e | e | e
    · subst e
      rw [hd, if_pos rfl, if_pos (by decide), e8, if_pos c8]
      simp only [Int.toNat_natCast, add_lit, Nat.mul_one, Nat.zero_add]
      rw [l8, Option.bind_some, if_pos c0]
      have s1 : stC ⟨gh, i, none⟩ (.int .u64 (Int.tmod (S.getD (8 + i) 0) 4294967296)) w = some w1 := s1
      rw [s1, Option.bind_some, e1, h1]
    · subst e
      rw [hd, if_pos rfl, if_neg (by decide), if_pos (by decide), if_pos c16]
      simp only [Int.toNat_natCast, add_lit, Nat.mul_one, Nat.zero_add]
      rw [l0, Option.bind_some, if_pos c0]
      have s1 : stC ⟨gh, i, none⟩ (.int .u64 (Int.fdiv (S.getD i 0) (2 ^ 32))) w = some w1 := s1
      rw [s1, Option.bind_some, e1, h1]
    · subst e
      rw [hd, if_pos rfl, if_neg (by decide), if_neg (by decide), if_pos (by decide), e8, if_pos c8]
      simp only [Int.toNat_natCast, add_lit, Nat.mul_one, Nat.zero_add]
      rw [l8, Option.bind_some, if_pos c0]
      have s1 : stC ⟨gh, i, none⟩ (.int .u64 (S.getD (8 + i) 0)) w = some w1 := s1
      rw [s1, Option.bind_some, e1, h1]
    · subst e
      rw [hd, if_pos rfl, if_neg (by decide), if_neg (by decide), if_neg (by decide), if_pos (by decide), if_pos c16]
      simp only [Int.toNat_natCast, add_lit, Nat.mul_one, Nat.zero_add]
      rw [l0, Option.bind_some, if_pos c0]
      have s1 : stC ⟨gh, i, none⟩ (.int .u64 (S.getD i 0)) w = some w1 := s1
      rw [s1, Option.bind_some, e1, h1]

theorem refFirst_ok {K : Nat} (hK : 18446744073709551616 ≤ K) {h : Int} (hk : known h = true) {S : List Int} (hS : S.length = 16) {w : World} (hT : Rd w ⟨1, 0, none⟩ (ints .u64 S)) :
    ∃ w', ref01_first K h w = some (((ints .u64 (firstH S h)).toArray, ()), w') ∧ Upd none_ w w' := by
  have hR : 1 < w.heap.size := hT.lt (fun e => by have := congrArg List.length e; simp [hS] at this)
  obtain ⟨w1, n1, b1, u1, z1⟩ := newB_ok z150 150 w
  obtain ⟨w2, n2, b2, u2, z2⟩ := newB_ok z150 150 w1
  have b1 : Bk 150 w1 w.heap.size z150.toList := b1
  have b2 : Bk 150 w2 w1.heap.size z150.toList := b2
  obtain ⟨w3, h3, b3, u3⟩ := refFirst_loop K hk hS (a2 := ⟨w.heap.size, 0, none⟩) (gh := w1.heap.size) (by omega) 8 0 K w2 _ rfl (by omega) (hT.upd (u1.and0 u2) fun _ => id) b2 rfl (by simp)
  have h3 : ref01_first_l0 K K h ⟨w.heap.size, 0, none⟩ ⟨w1.heap.size, 0, none⟩ 0 w2 = _ := h3
  have hl8 : (ints .u64 (firstH S h)).length = 8 := by rw [ints_length, firstH_len]
  have l3 := b3.ldA (i := 0) (n := 8) (by rw [hl8]; decide)
  rw [List.drop_zero, List.take_of_length_le (by rw [hl8]; decide)] at l3
  obtain ⟨w4, a1, a2, a3, a4⟩ := lay' ((b1.upd0 u2).upd u3 (by omega)) (vs := ints .u64 (firstH S h)) (by rw [hl8]; rfl) ints_one
  rw [hl8] at a4
  refine ⟨w4, ?_, ((u1.and0 u2).trans' u3 fun k hk e => by omega).trans' a3 fun k hk e => by omega⟩
  unfold ref01_first
  rw [n1, bnd_ok, n2, bnd_ok, h3, bnd_ok, l3, Option.bind_some, if_pos (by rw [List.size_toArray, hl8]), a1, Option.bind_some, a4, Option.bind_some]

theorem first_loop (K : Nat) {h : Int} (hk : known h = true) {S : List Int} (hS : S.length = 16) (hin : ∀ i, InK .u64 (S.getD i 0)) {gh : Nat} (hg : gh ≠ 4) :
    ∀ (d i n : Nat) (w : World) (cs : List Value), i + d = 8 → d < n → Rd w ⟨4, 0, none⟩ (ints .u64 S) → Bk 150 w gh cs → cs.length = 8 → cs.take i = ints .u64 ((firstH S h).take i) →
      ∃ w', digest_first_l0 K n h ⟨gh, 0, none⟩ (i : Int) w = some ((), w') ∧ Bk 150 w' gh (ints .u64 (firstH S h)) ∧ Upd (· = gh) w w' := by
  intro d
  induction d with
  | zero =>
    intro i n w cs hi hn hT hb hc ht
    obtain ⟨n, rfl⟩ : ∃ m, n = m + 1 := ⟨n - 1, by omega⟩
    have : i = 8 := by omega
    subst this
    rw [List.take_of_length_le (by omega), List.take_of_length_le (by rw [firstH_len]; decide)] at ht
    refine ⟨w, ?_, ht ▸ hb, Upd.refl _ _⟩
    show digest_first_l0_b K (digest_first_l0 K n) h ⟨gh, 0, none⟩ ((8 : Nat) : Int) w = _
    simp [digest_first_l0_b]
  | succ d ih =>
    intro i n w cs hi hn hT hb hc ht
    obtain ⟨n, rfl⟩ : ∃ m, n = m + 1 := ⟨n - 1, by omega⟩
    have hd : decide ((i : Int) < 8) = true := by simp; omega
    have e1 : IntKind.i64.wrap ((i : Int) + 1) = ((i + 1 : Nat) : Int) := by rw [w64 (by omega) (by omega)]; rfl
    have e8 : IntKind.i64.wrap (8 + (i : Int)) = ((8 + i : Nat) : Int) := by rw [w64 (by omega) (by omega)]; rfl
    have c8 : (0 : Int) ≤ ((8 + i : Nat) : Int) ∧ ((8 + i : Nat) : Int) < ((16 : Nat) : Int) := by omega
    have c16 : (0 : Int) ≤ (i : Int) ∧ (i : Int) < ((16 : Nat) : Int) := by omega
    have c0 : (0 : Int) ≤ (i : Int) ∧ (i : Int) < ((8 : Nat) : Int) := by omega
    have l8 := rd_ld hT (i := 8 + i) (by omega)
    have l0 := rd_ld hT (i := i) (by omega)
    have hx := firstH_get S h (i := i) (by omega)
    obtain ⟨w1, s1, s2, s3⟩ := hb.stC (i := i) (by omega) (.int .u64 ((firstH S h).getD i 0))
    obtain ⟨w2, h1, h2, h3⟩ := ih (i + 1) n w1 _ (by omega) (by omega) (hT.upd s3 fun _ e => hg e.symm) s2 (by simpa using hc) (set_front ht (by rw [firstH_len]; omega) (by omega))
    refine ⟨w2, ?_, h2, s3.trans' h3 fun _ _ e => e⟩
    show digest_first_l0_b K (digest_first_l0 K n) h ⟨gh, 0, none⟩ (i : Int) w = _
    rw [hx] at s1
    unfold digest_first_l0_b
    rcases known_cases hk with e | e | e | e
    · subst e
      rw [hd, if_pos rfl, if_pos (by decide), e8, if_pos c8]
      simp only [Int.toNat_natCast, add_lit, Nat.mul_one, Nat.zero_add]
      rw [l8, Option.bind_some, if_pos c0]
      have s1 : stC ⟨gh, i, none⟩ (.int .u64 (Int.tmod (S.getD (8 + i) 0) 4294967296)) w = some w1 := s1
      rw [and32 (hin _), s1, Option.bind_some, e1, h1]
    · subst e
      rw [hd, if_pos rfl, if_neg (by decide), if_pos (by decide), if_pos c16]
      simp only [Int.toNat_natCast, add_lit, Nat.mul_one, Nat.zero_add]
      rw [l0, Option.bind_some, if_pos c0]
      have s1 : stC ⟨gh, i, none⟩ (.int .u64 (Int.fdiv (S.getD i 0) (2 ^ 32))) w = some w1 := s1
      rw [s1, Option.bind_some, e1, h1]
    · subst e
      rw [hd, if_pos rfl, if_neg (by decide), if_neg (by decide), if_pos (by decide), e8, if_pos c8]
      simp only [Int.toNat_natCast, add_lit, Nat.mul_one, Nat.zero_add]
      rw [l8, Option.bind_some, if_pos c0]
      have s1 : stC ⟨gh, i, none⟩ (.int .u64 (S.getD (8 + i) 0)) w = some w1 := s1
      rw [s1, Option.bind_some, e1, h1]
    · subst e
      rw [hd, if_pos rfl, if_neg (by decide), if_neg (by decide), if_neg (by decide), if_pos (by decide), if_pos c16]
      simp only [Int.toNat_natCast, add_lit, Nat.mul_one, Nat.zero_add]
      rw [l0, Option.bind_some, if_pos c0]
      have s1 : stC ⟨gh, i, none⟩ (.int .u64 (S.getD i 0)) w = some w1 := s1
      rw [s1, Option.bind_some, e1, h1]

theorem first_ok {K : Nat} (hK : 18446744073709551616 ≤ K) {h : Int} (hk : known h = true) {S : List Int} (hS : S.length = 16) (hin : ∀ i, InK .u64 (S.getD i 0)) {w : World} (hT : Rd w ⟨4, 0, none⟩ (ints .u64 S)) :
    ∃ w', digest_first K h w = some (((ints .u64 (firstH S h)).toArray, ()), w') ∧ Upd none_ w w' := by
  have hR : 4 < w.heap.size := hT.lt (fun e => by have := congrArg List.length e; simp [hS] at this)
  obtain ⟨w1, n1, b1, u1, z1⟩ := newB_ok z150 150 w
  have b1 : Bk 150 w1 w.heap.size z150.toList := b1
  obtain ⟨w3, h3, b3, u3⟩ := first_loop K hk hS hin (gh := w.heap.size) (by omega) 8 0 K w1 _ rfl (by omega) (hT.upd u1 fun _ => id) b1 rfl (by simp)
  have h3 : digest_first_l0 K K h ⟨w.heap.size, 0, none⟩ 0 w1 = _ := h3
  have hl8 : (ints .u64 (firstH S h)).length = 8 := by rw [ints_length, firstH_len]
  have l3 := b3.ldA (i := 0) (n := 8) (by rw [hl8]; decide)
  rw [List.drop_zero, List.take_of_length_le (by rw [hl8]; decide)] at l3
  obtain ⟨w4, a1, a2, a3, a4⟩ := lay' b3 (vs := ints .u64 (firstH S h)) rfl ints_one
  rw [hl8] at a4
  refine ⟨w4, ?_, (u1.trans' u3 fun k hk e => by omega).trans' a3 fun k hk e => by omega⟩
  unfold digest_first
  rw [n1, bnd_ok, h3, bnd_ok, l3, Option.bind_some, if_pos (by rw [List.size_toArray, hl8]), a1, Option.bind_some, a4, Option.bind_some]

end Go.Sh

/- A digest in the midst is fed: what take of package digest computes. -/
set_option linter.unusedVariables false
namespace Go.Sh
open Go.Fw Go.Sha Go.RowKit Go.Proofs.Tryd

theorem sizeB : (prog.info? 5).map (·.size) = some 1 := by kernel_rfl

/-- copy of bytes into a block -/
theorem cpy_ok {w : World} {b : Sl} {vs : List Value} (hx : Src w b vs) {e : TypeId} {g o dLen dCap : Nat} {cs : List Value} (hb : Bk e w g cs) (hl : o + min b.len dLen ≤ cs.length) :
    ∃ w', cpy prog 23 23 (.slice (some ⟨g, o, none⟩) dLen dCap) (.slice b.a b.len b.cap) w = some (((min b.len dLen : Nat) : Int), w') ∧ Bk e w' g (seg cs o (vs.take (min b.len dLen))) ∧ Upd (· = g) w w' := by
  have hlen := hx.len
  rcases hx.rd with ⟨h1, h2, h3⟩ | ⟨p, h1, h2⟩
  · have h0 : b.len = 0 := by rw [hlen, h3]; rfl
    have hr := run_copy_nil (P := prog) w 23 23 0 5 ⟨g, o, none⟩ dLen dCap sliceB.ht (by rw [sizeB]; rfl)
    refine ⟨w, ?_, ?_, Upd.refl _ _⟩
    · unfold cpy
      rw [h1, h0, h2, hr]
      simp [goInt]
    · rw [h3]; simpa [seg] using hb
  · have hr := run_copy_row (P := prog) w 23 23 0 5 g o dLen dCap p b.len b.cap cs.toArray e (vs.take (min b.len dLen)) sliceB.ht sizeB hb (by simp [hlen])
      (fun j v hv => h2 j v (by
        rw [List.getElem?_take] at hv
        split at hv
        · exact hv
        · cases hv)) (by simp [hlen] at hl ⊢; omega) (fun v hv => hx.one v (List.mem_of_mem_take hv))
    refine ⟨w.setRow g (cs.take o ++ vs.take (min b.len dLen) ++ cs.drop (o + (vs.take (min b.len dLen)).length)).toArray, ?_, ?_, Upd.setRow w g _⟩
    · unfold cpy
      rw [h1, hr]
      have : (vs.take (min b.len dLen)).length = min b.len dLen := by simp [hlen]
      simp only [goInt, this]
    · have := hb.setRow (cs.take o ++ vs.take (min b.len dLen) ++ cs.drop (o + (vs.take (min b.len dLen)).length)).toArray
      simpa [seg] using this

theorem seg_set {cs xs : List Value} {o : Nat} (h : o + xs.length ≤ cs.length) {i : Nat} (hi : i < xs.length) (v : Value) : (seg cs o xs).set (o + i) v = seg cs o (xs.set i v) := by
  apply List.ext_getElem?
  intro j
  rw [List.getElem?_set, seg_length h, seg_get h, seg_get (by simpa using h), List.length_set]
  by_cases h1 : o + i = j
  · subst h1
    rw [if_pos rfl, if_pos (by omega), if_neg (by omega), if_pos (by omega)]
    simp [hi]
  · rw [if_neg h1]
    by_cases h2 : j < o
    · simp [h2]
    · rw [if_neg h2, if_neg h2]
      by_cases h3 : j < o + xs.length
      · rw [if_pos h3, if_pos h3, List.getElem?_set_ne (by omega)]
      · rw [if_neg h3, if_neg h3]

theorem seg_in {cs xs ys : List Value} {o i : Nat} (h : o + xs.length ≤ cs.length) (hi : i + ys.length ≤ xs.length) : seg (seg cs o xs) (o + i) ys = seg cs o (seg xs i ys) := by
  apply List.ext_getElem?
  intro j
  rw [seg_get (by rw [seg_length h]; omega), seg_get h, seg_get (by rw [seg_length hi]; exact h), seg_length hi]
  by_cases h1 : j < o
  · rw [if_pos (by omega), if_pos h1, if_pos h1]
  · by_cases h2 : j < o + i
    · rw [if_pos h2, if_neg h1, if_pos (by omega), if_neg h1, if_pos (by omega), seg_get hi, if_pos (by omega)]
    · rw [if_neg h2]
      by_cases h3 : j < o + i + ys.length
      · rw [if_pos h3, if_neg h1, if_pos (by omega), seg_get hi, if_neg (by omega), if_pos (by omega), show j - (o + i) = j - o - i by omega]
      · rw [if_neg h3, if_neg h1]
        by_cases h4 : j < o + xs.length
        · rw [if_pos h4, if_neg h1, if_pos h4, seg_get hi, if_neg (by omega), if_neg (by omega)]
        · rw [if_neg h4, if_neg h1, if_neg h4]

/-- the cells of a digest in the midst -/
def stCells (h : Int) (cnt : Nat) (H half : List Int) : List Value := kc h ++ ([.int .i64 h, .int .u64 (cnt : Int)] ++ (ints .u64 H ++ ints .u8 half))

theorem stCells_len (h : Int) (cnt : Nat) {H half : List Int} (hH : H.length = 8) (hh : half.length = 128) : (stCells h cnt H half).length = 142 := by
  simp [stCells, kc_len, hH, hh]

theorem stCells_count (h : Int) (cnt cnt' : Nat) (H half : List Int) : (stCells h cnt H half).set 5 (.int .u64 (cnt' : Int)) = stCells h cnt' H half := by
  unfold stCells
  have : 5 = (kc h).length + 1 := by rw [kc_len]
  rw [this, List.set_append_right _ _ (by omega)]
  simp

theorem stCells_words (h : Int) (cnt : Nat) {H H' half : List Int} (hH : H.length = 8) (hH' : H'.length = 8) : seg (stCells h cnt H half) 6 (ints .u64 H') = stCells h cnt H' half := by
  unfold stCells seg
  have e1 : (kc h ++ ([Value.int .i64 h, .int .u64 (cnt : Int)] ++ (ints .u64 H ++ ints .u8 half))) = (kc h ++ [Value.int .i64 h, .int .u64 (cnt : Int)]) ++ (ints .u64 H ++ ints .u8 half) := by simp
  have l1 : (kc h ++ [Value.int .i64 h, .int .u64 (cnt : Int)]).length = 6 := by simp [kc_len]
  rw [e1, List.take_left' l1]
  have e2 : ((kc h ++ [Value.int .i64 h, .int .u64 (cnt : Int)]) ++ (ints .u64 H ++ ints .u8 half)).drop (6 + (ints .u64 H').length) = ints .u8 half := by
    rw [← List.append_assoc]
    exact List.drop_left' (by rw [List.length_append, l1, ints_length, ints_length, hH, hH'])
  rw [e2]
  simp

theorem stCells_half (h : Int) (cnt : Nat) {H half ys : List Int} (hH : H.length = 8) {at_ : Nat} (hl : at_ + ys.length ≤ half.length) : seg (stCells h cnt H half) (14 + at_) (ints .u8 ys) = stCells h cnt H (over half at_ ys) := by
  unfold stCells
  have e1 : ∀ q : List Int, (kc h ++ ([Value.int .i64 h, .int .u64 (cnt : Int)] ++ (ints .u64 H ++ ints .u8 q))) = (kc h ++ [Value.int .i64 h, .int .u64 (cnt : Int)] ++ ints .u64 H) ++ ints .u8 q := fun q => by simp
  have l1 : (kc h ++ [Value.int .i64 h, .int .u64 (cnt : Int)] ++ ints .u64 H).length = 14 := by simp [kc_len, hH]
  rw [e1, e1]
  unfold seg
  have t1 : ((kc h ++ [Value.int .i64 h, .int .u64 (cnt : Int)] ++ ints .u64 H) ++ ints .u8 half).take (14 + at_) = (kc h ++ [Value.int .i64 h, .int .u64 (cnt : Int)] ++ ints .u64 H) ++ ints .u8 (half.take at_) := by
    rw [List.take_append, l1, List.take_of_length_le (by omega), show 14 + at_ - 14 = at_ by omega, ints_take]
  have t2 : ((kc h ++ [Value.int .i64 h, .int .u64 (cnt : Int)] ++ ints .u64 H) ++ ints .u8 half).drop (14 + at_ + (ints .u8 ys).length) = ints .u8 (half.drop (at_ + ys.length)) := by
    rw [List.drop_append, l1, List.drop_eq_nil_of_le (by omega), List.nil_append, ints_length, show 14 + at_ + ys.length - 14 = at_ + ys.length by omega]
    simp [ints, List.map_drop]
  rw [t1, t2]
  unfold over
  rw [ints_append, ints_append]
  simp

/-- a cell of it -/
theorem st_get {h : Int} {cnt : Nat} {H half : List Int} (hH : H.length = 8) (hh : half.length = 128) {cs : List Value} {o : Nat} (hl : o + 142 ≤ cs.length) {i : Nat} (hi : i < 142) : (seg cs o (stCells h cnt H half))[o + i]? = (stCells h cnt H half)[i]? := by
  have hlen := stCells_len h cnt hH hh
  rw [seg_get (by omega), if_neg (by omega), if_pos (by omega), show o + i - o = i by omega]

theorem st_block {h : Int} (hk : known h = true) (cnt : Nat) (H half : List Int) : (stCells h cnt H half)[1]? = some (.int .i64 ((blk h : Nat) : Int)) ∧ (stCells h cnt H half)[5]? = some (.int .u64 (cnt : Int)) ∧
    (stCells h cnt H half)[3]? = some (.func (.func (if narrowB h = true then 113 else 114)) #[] #[]) := by
  rcases known_cases hk with e | e | e | e <;> subst e <;> exact ⟨rfl, rfl, rfl⟩

theorem known_blk {h : Int} (hk : known h = true) : blk h = 64 ∨ blk h = 128 := by unfold blk; split <;> simp

/-- the call of the blocks' function -/
theorem dyn_blocks {β : Type} (K : Nat) (h : Int) (p : Option Addr) (s : Sl) (w : World) (k : Value → World → Option β) :
    dyn (tab (digest_state_take_E K)) (.func (.func (if narrowB h = true then 113 else 114)) #[] #[]) [.pointer p, .slice s.a s.len s.cap] w k =
      bnd (if narrowB h = true then digest_narrow K p s w else digest_wide K p s w) fun _ w' => k (.tuple #[]) w' := by
  cases hn : narrowB h <;> rfl

theorem blocks_ok {K : Nat} (hK : 18446744073709551616 ≤ K) (h : Int) {gh oh : Nat} {eh : TypeId} {C : List Int} (hC : C.length = 80) (hg3 : gh ≠ 3) {w : World} {b : Sl} {bs H : List Int} {ch : List Value} (hin : ∀ i, InK .u8 (bs.getD i 0))
    (hlim : bs.length ≤ 140737488355328) (hH : H.length = 8) (hch : oh + 8 ≤ ch.length) (hAt : (ch.drop oh).take 8 = ints .u64 H)
    (hbv : ∀ p, b.a = some p → bs ≠ [] → p.block < w.heap.size) (hbh : (∀ p, b.a = some p → p.block ≠ gh) ∨ bs.length < 2 * blk h) (hr : RdS .u8 w b bs) (hb : Bk eh w gh ch) (hT : Rd w ⟨3, 0, none⟩ (ints .u64 C)) :
    ∃ w', (if narrowB h = true then digest_narrow K (some ⟨gh, oh, none⟩) b w else digest_wide K (some ⟨gh, oh, none⟩) b w) = some ((), w') ∧ Bk eh w' gh (seg ch oh (ints .u64 (compsH h C (bs.length / blk h) H bs))) ∧ Upd (· = gh) w w' := by
  unfold compsH
  unfold blk at *
  cases hn : narrowB h with
  | true =>
    rw [hn] at hbh
    simp only [if_true] at hbh ⊢
    exact narrow_ok hK hC hg3 hlim hH hch hAt hbv (hbh.imp id fun h => by omega) hr hb hT
  | false =>
    rw [hn] at hbh
    simp only [Bool.false_eq_true, if_false] at hbh ⊢
    exact wide_ok hK hC hg3 hin hlim hH hch hAt hbv (hbh.imp id fun h => by omega) hr hb hT

theorem inD {l : List Int} (h : ∀ x ∈ l, InK .u8 x) (i : Nat) : InK .u8 (l.getD i 0) := by
  by_cases hi : i < l.length
  · rw [List.getD_eq_getElem?_getD, List.getElem?_eq_getElem hi]; exact h _ (List.getElem_mem hi)
  · rw [List.getD_eq_getElem?_getD, List.getElem?_eq_none (by omega)]; exact ⟨by decide, by decide⟩

theorem over_in {l ys : List Int} {o : Nat} (h : ∀ x ∈ l, InK .u8 x) (h2 : ∀ x ∈ ys, InK .u8 x) : ∀ x ∈ over l o ys, InK .u8 x := by
  intro x hx
  unfold over at hx
  simp only [List.mem_append] at hx
  rcases hx with (hx | hx) | hx
  · exact h x (List.mem_of_mem_take hx)
  · exact h2 x hx
  · exact h x (List.mem_of_mem_drop hx)

/-- A digest in the midst lies in a block. -/
structure StAt (w : World) (e : TypeId) (g o : Nat) (cs0 : List Value) (h : Int) (cnt : Nat) (H half : List Int) : Prop where
  bk : Bk e w g (seg cs0 o (stCells h cnt H half))
  room : o + 142 ≤ cs0.length
  words : H.length = 8
  len : half.length = 128
  inn : ∀ x ∈ half, InK .u8 x

theorem StAt.upd {w w' : World} {e : TypeId} {g o : Nat} {cs0 : List Value} {h : Int} {cnt : Nat} {H half : List Int} {S : Nat → Prop} (s : StAt w e g o cs0 h cnt H half) (u : Upd S w w') (hn : ¬ S g) : StAt w' e g o cs0 h cnt H half :=
  ⟨s.bk.upd u hn, s.room, s.words, s.len, s.inn⟩
theorem StAt.drew {w : World} {e : TypeId} {g o : Nat} {cs0 : List Value} {h : Int} {cnt : Nat} {H half : List Int} (s : StAt w e g o cs0 h cnt H half) : StAt w.drew e g o cs0 h cnt H half := ⟨s.bk.drew, s.room, s.words, s.len, s.inn⟩

theorem StAt.ld {w : World} {e : TypeId} {g o : Nat} {cs0 : List Value} {h : Int} {cnt : Nat} {H half : List Int} (s : StAt w e g o cs0 h cnt H half) (hk : known h = true) :
    ldI .i64 ⟨g, o + 1, none⟩ w = some ((blk h : Nat) : Int) ∧ ldI .u64 ⟨g, o + 5, none⟩ w = some (cnt : Int) ∧ ldV ⟨g, o + 3, none⟩ w = some (.func (.func (if narrowB h = true then 113 else 114)) #[] #[]) := by
  obtain ⟨h1, h2, h3⟩ := st_block hk cnt H half
  exact ⟨s.bk.ldI ((st_get s.words s.len s.room (by decide)).trans h1), s.bk.ldI ((st_get s.words s.len s.room (by decide)).trans h2), s.bk.ldV ((st_get s.words s.len s.room (by decide)).trans h3)⟩

/-- its words, its half block -/
theorem StAt.at8 {w : World} {e : TypeId} {g o : Nat} {cs0 : List Value} {h : Int} {cnt : Nat} {H half : List Int} (s : StAt w e g o cs0 h cnt H half) : ((seg cs0 o (stCells h cnt H half)).drop (o + 6)).take 8 = ints .u64 H := by
  apply List.ext_getElem?
  intro i
  rw [List.getElem?_take]
  by_cases hi : i < 8
  · rw [if_pos hi, List.getElem?_drop, show o + 6 + i = o + (6 + i) by omega, st_get s.words s.len s.room (by omega)]
    unfold stCells
    rw [List.getElem?_append_right (by rw [kc_len]; omega), List.getElem?_append_right (by rw [kc_len]; simp; omega), List.getElem?_append_left (by rw [kc_len, ints_length, s.words]; simp; omega)]
    rw [kc_len]
    congr 1
    simp; omega
  · rw [if_neg hi, List.getElem?_eq_none (by rw [ints_length, s.words]; omega)]

theorem StAt.half_rd {w : World} {e : TypeId} {g o : Nat} {cs0 : List Value} {h : Int} {cnt : Nat} {H half : List Int} (s : StAt w e g o cs0 h cnt H half) {n : Nat} (hn : n ≤ 128) : RdS .u8 w ⟨some ⟨g, o + 14, none⟩, n, 128⟩ (half.take n) := by
  refine ⟨by simp [s.len]; omega, hn, .inr ⟨_, rfl, fun i v hv => ?_⟩⟩
  rw [add_lit, s.bk.cell, show o + 14 + i = o + (14 + i) by omega]
  have hi : i < n := by
    have := (List.getElem?_eq_some_iff.1 hv).1
    simp at this; omega
  rw [st_get s.words s.len s.room (by omega)]
  unfold stCells
  rw [List.getElem?_append_right (by rw [kc_len]; omega), List.getElem?_append_right (by rw [kc_len]; simp; omega), List.getElem?_append_right (by rw [kc_len, ints_length, s.words]; simp; omega)]
  rw [kc_len, ints_length, s.words]
  simp only [List.length_cons, List.length_nil]
  rw [← hv]
  simp only [ints, List.getElem?_map, List.getElem?_take, if_pos hi]
  congr 2
  omega

theorem StAt.count {w : World} {e : TypeId} {g o : Nat} {cs0 : List Value} {h : Int} {cnt : Nat} {H half : List Int} (s : StAt w e g o cs0 h cnt H half) (cnt' : Nat) :
    ∃ w', stC ⟨g, o + 5, none⟩ (.int .u64 (cnt' : Int)) w = some w' ∧ StAt w' e g o cs0 h cnt' H half ∧ Upd (· = g) w w' := by
  have hl := stCells_len h cnt s.words s.len
  have hr := s.room
  obtain ⟨w', s1, s2, s3⟩ := s.bk.stC (i := o + 5) (by rw [seg_length (by omega)]; omega) (.int .u64 (cnt' : Int))
  rw [seg_set (by omega) (by omega), stCells_count] at s2
  exact ⟨w', s1, ⟨s2, s.room, s.words, s.len, s.inn⟩, s3⟩

theorem StAt.cpy {w : World} {e : TypeId} {g o : Nat} {cs0 : List Value} {h : Int} {cnt : Nat} {H half : List Int} (s : StAt w e g o cs0 h cnt H half) {b : Sl} {ys : List Int} (hx : Src w b (ints .u8 ys)) (hy : ∀ x ∈ ys, InK .u8 x) {at_ dLen dCap : Nat} (hd : at_ + dLen ≤ 128) :
    ∃ w', Fw.cpy prog 23 23 (.slice (some ⟨g, o + 14 + at_, none⟩) dLen dCap) (.slice b.a b.len b.cap) w = some (((min b.len dLen : Nat) : Int), w') ∧ StAt w' e g o cs0 h cnt H (over half at_ (ys.take (min b.len dLen))) ∧ Upd (· = g) w w' := by
  have hl := stCells_len h cnt s.words s.len
  have hr := s.room
  have hbl : b.len = ys.length := by simpa using hx.len
  obtain ⟨w', c1, c2, c3⟩ := cpy_ok hx s.bk (o := o + 14 + at_) (dLen := dLen) (dCap := dCap) (by rw [seg_length (by omega)]; omega)
  have hml : (ys.take (min b.len dLen)).length ≤ dLen := by simp; omega
  rw [ints_take, show o + 14 + at_ = o + (14 + at_) by omega, seg_in (by omega) (by rw [ints_length, hl]; omega), stCells_half h cnt s.words (by rw [s.len]; omega)] at c2
  refine ⟨w', c1, ⟨c2, s.room, s.words, by rw [over_len (by rw [s.len]; omega)]; exact s.len, over_in s.inn fun x hx => hy x (List.mem_of_mem_take hx)⟩, c3⟩

theorem StAt.blocks {K : Nat} (hK : 18446744073709551616 ≤ K) {w : World} {e : TypeId} {g o : Nat} {cs0 : List Value} {h : Int} {cnt : Nat} {H half C : List Int} (s : StAt w e g o cs0 h cnt H half) (hC : C.length = 80) (hg3 : g ≠ 3) (hT : Rd w ⟨3, 0, none⟩ (ints .u64 C))
    {b : Sl} {bs : List Int} (hin : ∀ i, InK .u8 (bs.getD i 0)) (hlim : bs.length ≤ 140737488355328) (hbv : ∀ p, b.a = some p → bs ≠ [] → p.block < w.heap.size) (hbh : (∀ p, b.a = some p → p.block ≠ g) ∨ bs.length < 2 * blk h) (hr : RdS .u8 w b bs) :
    ∃ w', (if narrowB h = true then digest_narrow K (some ⟨g, o + 6, none⟩) b w else digest_wide K (some ⟨g, o + 6, none⟩) b w) = some ((), w') ∧ StAt w' e g o cs0 h cnt (compsH h C (bs.length / blk h) H bs) half ∧ Upd (· = g) w w' := by
  have hl := stCells_len h cnt s.words s.len
  have hrm := s.room
  obtain ⟨w', c1, c2, c3⟩ := blocks_ok hK h hC hg3 hin hlim s.words (oh := o + 6) (by rw [seg_length (by omega)]; omega) s.at8 hbv hbh hr s.bk hT
  have hcl := compsH_len h C (bs.length / blk h) H bs s.words
  rw [seg_in (by omega) (by rw [ints_length, hcl, hl]; decide), stCells_words h cnt s.words hcl] at c2
  exact ⟨w', c1, ⟨c2, s.room, hcl, s.len, s.inn⟩, c3⟩

end Go.Sh

/- A digest in the midst is fed: take of package digest, whole. -/
set_option linter.unusedVariables false
namespace Go.Sh
open Go.Fw Go.Sha Go.RowKit Go.Proofs.Tryd

theorem sla_some {p : Addr} {lo m : Nat} (h : m ≠ lo) : sla (some p) lo m 1 = some (p.add lo) := by simp [sla, h]

/-- the rest of a slice -/
theorem src_sub {w : World} {s : Sl} {vs : List Value} (h : Src w s vs) {lo : Nat} (h1 : lo ≤ vs.length) : Src w ⟨sla s.a lo s.cap 1, s.len - lo, s.cap - lo⟩ (vs.drop lo) := by
  have hl := h.len
  have hc := h.cap
  refine ⟨by simp; omega, by show s.len - lo ≤ s.cap - lo; omega, ?_, fun v hv => h.one v (List.mem_of_mem_drop hv)⟩
  rcases h.rd with ⟨a1, a2, a3⟩ | ⟨p, a1, a2⟩
  · left
    refine ⟨by simp [sla, a1], by show s.cap - lo = 0; omega, by rw [a3]; simp⟩
  · right
    by_cases hm : s.cap = lo
    · refine ⟨p, by simp [sla, a1, hm], fun i v hv => ?_⟩
      have : vs.drop lo = [] := List.drop_eq_nil_of_le (by omega)
      rw [this] at hv; simp at hv
    · refine ⟨p.add lo, by rw [a1, sla_some hm], fun i v hv => ?_⟩
      rw [add_add]
      rw [List.getElem?_drop] at hv
      exact a2 _ _ hv

theorem sla_blk {a : Option Addr} {lo m : Nat} {q : Addr} (h : sla a lo m 1 = some q) : ∃ p, a = some p ∧ q.block = p.block := by
  unfold sla at h
  split at h
  · exact ⟨q, h, rfl⟩
  · cases ha : a with
    | none => rw [ha] at h; simp at h
    | some p => rw [ha] at h; simp at h; exact ⟨p, rfl, by rw [← h]; unfold Addr.add; split <;> rfl⟩

theorem src_updW {S : Nat → Prop} {w w' : World} {s : Sl} {xs : List Int} (h : Src w s (ints .u8 xs)) (u : Upd S w w') (hn : ∀ p, s.a = some p → xs ≠ [] → ¬ S p.block) : Src w' s (ints .u8 xs) :=
  ⟨h.len, h.cap, h.rd.imp id fun ⟨p, hp, hr⟩ => ⟨p, hp, hr.upd u fun hne => hn p hp fun e => hne (by rw [e]; rfl)⟩, h.one⟩

/-- the last part of take: whole blocks, what is left -/
theorem take_rest {K : Nat} (hK : 18446744073709551616 ≤ K) {w : World} {e : TypeId} {g o : Nat} {cs0 : List Value} {h : Int} (hk : known h = true) {cnt : Nat} {H half C H0 xs : List Int} (s : StAt w e g o cs0 h cnt H half) (f : Fed h C H0 xs H half) (hz : xs.length % blk h = 0)
    (hC : C.length = 80) (hg3 : g ≠ 3) (hT : Rd w ⟨3, 0, none⟩ (ints .u64 C)) {b : Sl} {ys : List Int} (hy : ∀ x ∈ ys, InK .u8 x) (hlim : ys.length ≤ 140737488355328) (hx : Src w b (ints .u8 ys)) (hbg : ∀ p, b.a = some p → ys ≠ [] → p.block ≠ g) (hbv : ∀ p, b.a = some p → ys ≠ [] → p.block < w.heap.size)
    (rest : Option (Unit × World)) :
    ∃ w' H' half', ((ldI .i64 ⟨g, o + 1, none⟩ w.drew).bind fun v_29 => if v_29 ≠ 0 then ((ldI .i64 ⟨g, o + 1, none⟩ w.drew).bind fun v_30 =>
        if (0 : Int) ≤ (IntKind.i64.wrap ((IntKind.i64.wrap (Int.tdiv ((b.len : Nat) : Int) v_29)) * v_30)) ∧ (IntKind.i64.wrap ((IntKind.i64.wrap (Int.tdiv ((b.len : Nat) : Int) v_29)) * v_30)) ≤ ((b.cap : Nat) : Int) then ((ldV ⟨g, o + 3, none⟩ w.drew.drew).bind fun v_33 =>
        dyn (tab (digest_state_take_E K)) v_33 [(.pointer (some ⟨g, o + 6, none⟩)), (.slice (sla b.a 0 b.cap 1) ((Int.toNat (IntKind.i64.wrap ((IntKind.i64.wrap (Int.tdiv ((b.len : Nat) : Int) v_29)) * v_30))) - 0) (b.cap - 0))] w.drew.drew fun v_34 w_35 =>
        if (0 : Int) ≤ (IntKind.i64.wrap ((IntKind.i64.wrap (Int.tdiv ((b.len : Nat) : Int) v_29)) * v_30)) ∧ (IntKind.i64.wrap ((IntKind.i64.wrap (Int.tdiv ((b.len : Nat) : Int) v_29)) * v_30)) ≤ ((b.len : Nat) : Int) then
          (bnd (Fw.cpy prog 23 23 (.slice (sla (some ⟨g, o + 14, none⟩) 0 128 1) (128 - 0) (128 - 0)) (.slice (sla b.a (Int.toNat (IntKind.i64.wrap ((IntKind.i64.wrap (Int.tdiv ((b.len : Nat) : Int) v_29)) * v_30))) b.cap 1) (b.len - (Int.toNat (IntKind.i64.wrap ((IntKind.i64.wrap (Int.tdiv ((b.len : Nat) : Int) v_29)) * v_30)))) (b.cap - (Int.toNat (IntKind.i64.wrap ((IntKind.i64.wrap (Int.tdiv ((b.len : Nat) : Int) v_29)) * v_30))))) w_35.drew) fun s_37 w_38 => some ((), w_38)) else none) else none) else none) = some ((), w') ∧
      StAt w' e g o cs0 h cnt H' half' ∧ Fed h C H0 (xs ++ ys) H' half' ∧ Upd (· = g) w w' := by
  have hbp := blk_pos h
  have hble := blk_le h
  have hlen : b.len = ys.length := by simpa using hx.len
  have hcap := hx.cap
  obtain ⟨l1, l5, l3⟩ := s.drew.ld hk
  obtain ⟨m1, m5, m3⟩ := s.drew.drew.ld hk
  have hn : IntKind.i64.wrap ((IntKind.i64.wrap (Int.tdiv ((ys.length : Nat) : Int) ((blk h : Nat) : Int))) * ((blk h : Nat) : Int)) = ((ys.length / blk h * blk h : Nat) : Int) := by
    have hle : ys.length / blk h * blk h ≤ ys.length := Nat.div_mul_le_self _ _
    have hle2 : ys.length / blk h ≤ ys.length := Nat.div_le_self _ _
    rw [tdiv_nat, wn64 (by omega)]
    have : ((ys.length / blk h : Nat) : Int) * ((blk h : Nat) : Int) = ((ys.length / blk h * blk h : Nat) : Int) := by simp
    rw [this, wn64 (by omega)]
  have hle : ys.length / blk h * blk h ≤ ys.length := Nat.div_mul_le_self _ _
  have hne : ((blk h : Nat) : Int) ≠ 0 := by omega
  have hr := (hx.rds.drew.drew).sub (lo := 0) (hi := ys.length / blk h * blk h) (Nat.zero_le _) hle
  rw [List.drop_zero] at hr
  have hdl : (ys.take (ys.length / blk h * blk h)).length / blk h = ys.length / blk h := by
    rw [List.length_take, Nat.min_eq_left hle]; exact Nat.mul_div_cancel _ hbp
  obtain ⟨w1, c1, s1, u1⟩ := s.drew.drew.blocks hK hC hg3 (hT.upd (S := none_) (Upd.refl _ _).drew.drew fun _ => id) (b := ⟨sla b.a 0 b.cap 1, ys.length / blk h * blk h - 0, b.cap - 0⟩) (bs := ys.take (ys.length / blk h * blk h)) (inD fun x hx => hy x (List.mem_of_mem_take hx)) (by simp; omega)
    (fun p hp hne => by rw [show (⟨sla b.a 0 b.cap 1, ys.length / blk h * blk h - 0, b.cap - 0⟩ : Sl).a = b.a by simp] at hp; exact hbv p hp (fun e => hne (by rw [e, List.take_nil]))) (if h0 : ys = [] then .inr (by rw [h0]; simp; omega) else .inl fun p hp => by rw [show (⟨sla b.a 0 b.cap 1, ys.length / blk h * blk h - 0, b.cap - 0⟩ : Sl).a = b.a by simp] at hp; exact hbg p hp h0) hr
  rw [hdl] at s1
  have hx1 : Src w1.drew b (ints .u8 ys) := (src_updW (hx.upd0 ((Upd.refl none_ w).drew.drew)) u1 fun p hp hne e => hbg p hp hne e).upd0 (Upd.refl none_ w1).drew
  have hsub := src_sub hx1 (lo := ys.length / blk h * blk h) (by rw [ints_length]; exact hle)
  have hdr : (ints .u8 ys).drop (ys.length / blk h * blk h) = ints .u8 (ys.drop (ys.length / blk h * blk h)) := by simp [ints, List.map_drop]
  rw [hdr] at hsub
  have hym := Nat.mod_lt ys.length hbp
  have hya := Nat.div_add_mod ys.length (blk h)
  have hyc : blk h * (ys.length / blk h) = ys.length / blk h * blk h := Nat.mul_comm _ _
  obtain ⟨w2, c2, s2, u2⟩ := s1.drew.cpy hsub (fun x hx => hy x (List.mem_of_mem_drop hx)) (at_ := 0) (dLen := 128) (dCap := 128) (by decide)
  have hmin : min (b.len - ys.length / blk h * blk h) 128 = (ys.drop (ys.length / blk h * blk h)).length := by rw [List.length_drop, hlen]; omega
  have hfw := f.whole (ys := ys) hz
  have htk : (ys.drop (ys.length / blk h * blk h)).take (min (b.len - ys.length / blk h * blk h) 128) = ys.drop (ys.length / blk h * blk h) := by rw [hmin, List.take_length]
  have s2 : StAt w2 e g o cs0 h cnt (compsH h C (ys.length / blk h) H (ys.take (ys.length / blk h * blk h))) (over half 0 (ys.drop (ys.length / blk h * blk h))) := by
    have s2' := s2
    rw [show (⟨sla b.a (ys.length / blk h * blk h) b.cap 1, b.len - ys.length / blk h * blk h, b.cap - ys.length / blk h * blk h⟩ : Sl).len = b.len - ys.length / blk h * blk h from rfl, htk] at s2'
    exact s2'
  refine ⟨w2, _, _, ?_, s2, hfw, ((Upd.refl (· = g) w).drew.drew.trans' u1 fun _ _ e => e).drew.trans' u2 fun _ _ e => e⟩
  have k1 : (0 : Int) ≤ ((ys.length / blk h * blk h : Nat) : Int) ∧ ((ys.length / blk h * blk h : Nat) : Int) ≤ ((b.cap : Nat) : Int) := by omega
  have k2 : (0 : Int) ≤ ((ys.length / blk h * blk h : Nat) : Int) ∧ ((ys.length / blk h * blk h : Nat) : Int) ≤ ((ys.length : Nat) : Int) := by omega
  rw [l1, Option.bind_some, if_pos hne, Option.bind_some]
  simp only [hlen, hn]
  rw [if_pos k1, m3, Option.bind_some, Int.toNat_natCast]
  have hd := dyn_blocks K h (some ⟨g, o + 6, none⟩) ⟨sla b.a 0 b.cap 1, ys.length / blk h * blk h - 0, b.cap - 0⟩ w.drew.drew (β := Unit × World)
  have hd' := fun k => hd k
  rw [hd', c1, bnd_ok, if_pos k2]
  have c2' : Fw.cpy prog 23 23 (.slice (sla (some ⟨g, o + 14, none⟩) 0 128 1) (128 - 0) (128 - 0)) (.slice (sla b.a (ys.length / blk h * blk h) b.cap 1) (ys.length - ys.length / blk h * blk h) (b.cap - ys.length / blk h * blk h)) w1.drew = some (((min (ys.length - ys.length / blk h * blk h) 128 : Nat) : Int), w2) := by
    have := c2
    simp only [Nat.add_zero, hlen] at this
    rw [sla_zero]
    exact this
  rw [c2', bnd_ok]

/-- take: a part is fed. -/
theorem take_ok {K : Nat} (hK : 18446744073709551616 ≤ K) {w : World} {e : TypeId} {g o : Nat} {cs0 : List Value} {h : Int} (hk : known h = true) {H half C H0 xs : List Int} (s : StAt w e g o cs0 h xs.length H half) (f : Fed h C H0 xs H half)
    (hC : C.length = 80) (hg3 : g ≠ 3) (hT : Rd w ⟨3, 0, none⟩ (ints .u64 C)) {b : Sl} {ys : List Int} (hy : ∀ x ∈ ys, InK .u8 x) (hlim : xs.length + ys.length ≤ 140737488355328) (hx : Src w b (ints .u8 ys)) (hbg : ∀ p, b.a = some p → ys ≠ [] → p.block ≠ g) (hbv : ∀ p, b.a = some p → ys ≠ [] → p.block < w.heap.size) :
    ∃ w' H' half', digest_state_take K (some ⟨g, o, none⟩) b w = some ((), w') ∧ StAt w' e g o cs0 h (xs ++ ys).length H' half' ∧ Fed h C H0 (xs ++ ys) H' half' ∧ Upd (· = g) w w' := by
  have hbp := blk_pos h
  have hble := blk_le h
  have hlen : b.len = ys.length := by simpa using hx.len
  have hcap := hx.cap
  obtain ⟨l1, l5, l3⟩ := s.drew.ld hk
  have eb : IntKind.u64.wrap ((blk h : Nat) : Int) = ((blk h : Nat) : Int) := by rw [IntKind.wrap_u64]; omega
  have hne : ((blk h : Nat) : Int) ≠ 0 := by omega
  have el : IntKind.u64.wrap ((ys.length : Nat) : Int) = ((ys.length : Nat) : Int) := by rw [IntKind.wrap_u64]; omega
  have ec : IntKind.u64.wrap (((xs.length : Nat) : Int) + ((ys.length : Nat) : Int)) = (((xs ++ ys).length : Nat) : Int) := by rw [IntKind.wrap_u64, List.length_append]; omega
  have hat := Nat.mod_lt xs.length hbp
  have ea : IntKind.i64.wrap (Int.tmod ((xs.length : Nat) : Int) ((blk h : Nat) : Int)) = ((xs.length % blk h : Nat) : Int) := by rw [tmod_nat, wn64 (by omega)]
  obtain ⟨w1, c1, s1, u1⟩ := s.drew.count (xs ++ ys).length
  have u1' : Upd (· = g) w w1 := u1.predrew
  have hx1 := src_updW (hx.upd0 (Upd.refl none_ w).drew) u1 fun p hp hne e => hbg p hp hne e
  have hbv1 : ∀ p, b.a = some p → ys ≠ [] → p.block < w1.heap.size := fun p hp hne => by have := hbv p hp hne; have := u1'.size; omega
  have hT1 : Rd w1 ⟨3, 0, none⟩ (ints .u64 C) := hT.upd u1' fun _ e => hg3 e.symm
  unfold digest_state_take
  simp only [Option.bind_some, add_lit, Nat.add_zero]
  rw [l5, Option.bind_some, l1, Option.bind_some, eb, if_pos hne, Option.bind_some, hlen, el, ec, c1, Option.bind_some, ea]
  by_cases hz : xs.length % blk h = 0
  · -- nothing was held
    have hd : decide (((xs.length % blk h : Nat) : Int) > 0) = false := by rw [hz]; rfl
    have hs0 : digest_state_take_s0 K (some ⟨g, o, none⟩) b ((xs.length % blk h : Nat) : Int) false w1 = some (.norm (b, ()), w1) := by
      unfold digest_state_take_s0; rw [if_neg (by decide)]
    rw [hd, hs0, bnd_ok]
    obtain ⟨w2, H2, half2, r1, r2, r3, r4⟩ := take_rest hK hk s1 f hz hC hg3 hT1 hy (by omega) hx1 hbg hbv1 none
    exact ⟨w2, H2, half2, r1, r2, r3, u1'.trans' r4 fun _ _ e => e⟩
  · have hd : decide (((xs.length % blk h : Nat) : Int) > 0) = true := by simp; omega
    rw [hd]
    obtain ⟨k1, k5, k3⟩ := s1.drew.ld hk
    have hx1d := hx1.upd0 (Upd.refl none_ w1).drew
    obtain ⟨w2, c2, s2, u2⟩ := s1.drew.cpy hx1d hy (at_ := xs.length % blk h) (dLen := blk h - xs.length % blk h) (dCap := 128 - xs.length % blk h) (by omega)
    have a1 : (0 : Int) ≤ ((blk h : Nat) : Int) ∧ ((blk h : Nat) : Int) ≤ ((128 : Nat) : Int) := by omega
    have a2 : (0 : Int) ≤ ((xs.length % blk h : Nat) : Int) ∧ ((xs.length % blk h : Nat) : Int) ≤ ((blk h : Nat) : Int) := by omega
    have a3 : (0 : Int) ≤ ((min b.len (blk h - xs.length % blk h) : Nat) : Int) ∧ ((min b.len (blk h - xs.length % blk h) : Nat) : Int) ≤ ((b.len : Nat) : Int) := by omega
    have hsl : sla (some ⟨g, o + 14, none⟩) (xs.length % blk h) 128 1 = some ⟨g, o + 14 + xs.length % blk h, none⟩ := by rw [sla_some (by omega), add_lit]
    obtain ⟨m1, m5, m3⟩ := s2.ld hk
    have ew : IntKind.i64.wrap (((xs.length % blk h : Nat) : Int) + ((min b.len (blk h - xs.length % blk h) : Nat) : Int)) = ((xs.length % blk h + min b.len (blk h - xs.length % blk h) : Nat) : Int) := by rw [w64 (by omega) (by omega)]; rfl
    by_cases hlt : xs.length % blk h + ys.length < blk h
    · -- it stays less than a block
      have hmin : min b.len (blk h - xs.length % blk h) = ys.length := by rw [hlen]; omega
      rw [hmin, List.take_length] at s2
      have hlt' : decide (((xs.length % blk h + min b.len (blk h - xs.length % blk h) : Nat) : Int) < ((blk h : Nat) : Int)) = true := by rw [hmin]; simp; omega
      have hs0 : digest_state_take_s0 K (some ⟨g, o, none⟩) b ((xs.length % blk h : Nat) : Int) true w1 = some (.ret (), w2) := by
        unfold digest_state_take_s0
        rw [if_pos rfl]
        simp only [Option.bind_some, add_lit, Nat.add_zero]
        rw [k1, Option.bind_some, if_pos a1]
        simp only [Int.toNat_natCast]
        rw [if_pos a2, hsl, c2, bnd_ok, if_pos a3, m1, Option.bind_some, ew, hlt', if_pos rfl]
      rw [hs0, bnd_ok]
      exact ⟨w2, _, _, rfl, s2, f.less hlt, (u1'.drew.trans' u2 fun _ _ e => e)⟩
    · -- a block is filled
      have hmin : min b.len (blk h - xs.length % blk h) = blk h - xs.length % blk h := by rw [hlen]; omega
      have hlt' : decide (((xs.length % blk h + min b.len (blk h - xs.length % blk h) : Nat) : Int) < ((blk h : Nat) : Int)) = false := by rw [hmin]; simp; omega
      rw [hmin] at s2 c2 a3 ew
      have hyl : (ys.take (blk h - xs.length % blk h)).length = blk h - xs.length % blk h := by simp; omega
      have hfill := f.fill (ys := ys.take (blk h - xs.length % blk h)) (by rw [hyl]; omega)
      have hT2 : Rd w2.drew ⟨3, 0, none⟩ (ints .u64 C) := (hT1.upd ((Upd.refl (· = g) w1).drew.trans' u2 fun _ _ e => e) fun _ e => hg3 e.symm).upd (S := none_) (Upd.refl _ _).drew fun _ => id
      have hhalf := s2.drew.half_rd (n := blk h) hble
      have hol := s2.len
      obtain ⟨n1, n5, n3⟩ := s2.drew.ld hk
      obtain ⟨w3, c3, s3, u3⟩ := s2.drew.blocks hK hC hg3 hT2 (b := ⟨some ⟨g, o + 14, none⟩, blk h, 128⟩) (bs := (over half (xs.length % blk h) (ys.take (blk h - xs.length % blk h))).take (blk h)) (inD fun x hx => s2.inn x (List.mem_of_mem_take hx)) (by simp; omega)
        (fun p hp _=>by have e1 : p = ⟨g, o + 14, none⟩ := by simpa using hp.symm
                        rw [e1]; exact s2.drew.bk.lt) (.inr (by rw [List.length_take]; omega)) hhalf
      have hone : ((over half (xs.length % blk h) (ys.take (blk h - xs.length % blk h))).take (blk h)).length / blk h = 1 := by
        rw [List.length_take, hol, Nat.min_eq_left hble]; exact Nat.div_self hbp
      rw [hone] at s3
      have hs0 : digest_state_take_s0 K (some ⟨g, o, none⟩) b ((xs.length % blk h : Nat) : Int) true w1 =
          some (.norm (⟨sla b.a (blk h - xs.length % blk h) b.cap 1, b.len - (blk h - xs.length % blk h), b.cap - (blk h - xs.length % blk h)⟩, ()), w3) := by
        unfold digest_state_take_s0
        rw [if_pos rfl]
        simp only [Option.bind_some, add_lit, Nat.add_zero]
        rw [k1, Option.bind_some, if_pos a1]
        simp only [Int.toNat_natCast]
        rw [if_pos a2, hsl, c2, bnd_ok, if_pos a3, m1, Option.bind_some, ew]
        rw [hmin] at hlt'
        rw [hlt', if_neg (by decide), n3, Option.bind_some, n1, Option.bind_some, if_pos a1]
        have hd := dyn_blocks K h (some ⟨g, o + 6, none⟩) ⟨some ⟨g, o + 14, none⟩, blk h, 128⟩ w2.drew (β := Out (Sl × Unit) Unit × World)
        simp only [sla_zero, Int.toNat_natCast, Nat.sub_zero]
        rw [hd, c3, bnd_ok]
      have hmod : (xs ++ ys.take (blk h - xs.length % blk h)).length % blk h = 0 := by
        rw [List.length_append, hyl]
        have h1 := Nat.div_add_mod xs.length (blk h)
        have h2 : xs.length + (blk h - xs.length % blk h) = (xs.length / blk h + 1) * blk h := by rw [Nat.succ_mul, Nat.mul_comm]; omega
        rw [h2]; exact Nat.mul_mod_left _ _
      have u13 : Upd (· = g) w1 w3 := ((Upd.refl (· = g) w1).drew.trans' u2 fun _ _ e => e).drew.trans' u3 fun _ _ e => e
      have hx3 := src_sub (src_updW hx1 u13 fun p hp hne e => hbg p hp hne e) (lo := blk h - xs.length % blk h) (by rw [ints_length]; omega)
      have hdr : (ints .u8 ys).drop (blk h - xs.length % blk h) = ints .u8 (ys.drop (blk h - xs.length % blk h)) := by simp [ints, List.map_drop]
      rw [hdr] at hx3
      obtain ⟨w4, H4, half4, r1, r2, r3, r4⟩ := take_rest hK hk s3 hfill hmod hC hg3 (hT1.upd u13 fun _ e => hg3 e.symm) (fun x hx => hy x (List.mem_of_mem_drop hx)) (by simp; omega) hx3
        (fun q hq hne => by obtain ⟨p, hp, e1⟩ := sla_blk hq; rw [e1]; exact hbg p hp (fun e => hne (by rw [e]; simp))) (fun q hq hne => by obtain ⟨p, hp, e1⟩ := sla_blk hq; rw [e1]; have := hbv1 p hp (fun e => hne (by rw [e]; simp)); have := u13.size; omega) none
      rw [List.append_assoc, List.take_append_drop] at r3
      rw [hs0, bnd_ok]
      exact ⟨w4, H4, half4, r1, r2, r3, (u1'.trans' u13 fun _ _ e => e).trans' r4 fun _ _ e => e⟩

end Go.Sh

/- A digest is told: big, end of package digest; the document's Sum. -/
set_option linter.unusedVariables false
namespace Go.Sh
open Go.Fw Go.Sha Go.RowKit Go.Proofs.Tryd

/-- the bytes of a word, the great ones first -/
def bigB (x : Int) : Nat → List Int
  | 0 => []
  | n + 1 => IntKind.u8.wrap (Int.fdiv x (2 ^ (8 * n))) :: bigB x n

theorem bigB_len (x : Int) : ∀ n, (bigB x n).length = n
  | 0 => rfl
  | n + 1 => by simp [bigB, bigB_len x n]

/-- one byte is appended -/
theorem push1 {w : World} {s : Sl} {xs : List Int} (x : Int) {B : Nat} (ho : OwnS 5 w s (ints .u8 xs)) (hs : s.len + 1 ≤ 140737488355328) (hB : B ≤ w.heap.size) (hf : Fresh B s) :
    ∃ w1 s2 w2, bldS prog 23 1 #[(0, (.int .u8 x))] w = some (⟨some ⟨w.heap.size, 0, none⟩, 1, 1⟩, w1) ∧ apd prog 23 23 (.slice s.a s.len s.cap) (.slice (some ⟨w.heap.size, 0, none⟩) 1 1) w1 = some (s2, w2) ∧
      OwnS 5 w2 s2 (ints .u8 (xs ++ [x])) ∧ s2.len = s.len + 1 ∧ Below B w w2 ∧ Fresh B s2 := by
  obtain ⟨w1, h1, o1, u1, z1⟩ := bldS1_ok sliceB (.int .u8 x) rfl w
  obtain ⟨s2, w2, h2, l2, o2, u2, b2⟩ := apd_ok sliceB (ho.upd0 u1) (o1.src (by simp [Value.oneCell'])) (by show (s.len + 1) * 1 ≤ _; omega)
  have bl1 : Below B w w1 := u1.below hB fun _ _ => id
  have bl2 : Below B w w2 := below_upd bl1 u2 (by omega) fun k hk e => by have := hf k e; omega
  refine ⟨w1, s2, w2, h1, h2, by simpa using o2, l2, bl2, ?_⟩
  intro k hk
  rcases b2 with e | e
  · exact hf k (e ▸ hk)
  · rw [e] at hk; have := Option.some.inj hk; omega

theorem big_loop (K B : Nat) (x : Int) : ∀ (m n : Nat) (w : World) (s : Sl) (xs : List Int), m ≤ 8 → m < n → OwnS 5 w s (ints .u8 xs) → s.len + m ≤ 140737488355328 → B ≤ w.heap.size → Fresh B s →
    ∃ s' w', digest_big_l0 K n s x ((m : Int) - 1) w = some ((s', ()), w') ∧ OwnS 5 w' s' (ints .u8 (xs ++ bigB x m)) ∧ Below B w w' ∧ Fresh B s' := by
  intro m
  induction m with
  | zero =>
    intro n w s xs hm hn ho hs hB hf
    obtain ⟨n, rfl⟩ : ∃ k, n = k + 1 := ⟨n - 1, by omega⟩
    refine ⟨s, w, ?_, by simpa [bigB] using ho, Below.refl B w, hf⟩
    show digest_big_l0_b K (digest_big_l0 K n) s x (((0 : Nat) : Int) - 1) w = _
    simp [digest_big_l0_b]
  | succ m ih =>
    intro n w s xs hm hn ho hs hB hf
    obtain ⟨n, rfl⟩ : ∃ k, n = k + 1 := ⟨n - 1, by omega⟩
    obtain ⟨w1, s2, w2, h1, h2, o2, l2, bl2, hf2⟩ := push1 (IntKind.u8.wrap (Int.fdiv x (2 ^ (8 * m)))) ho (by omega) hB hf
    obtain ⟨s3, w3, h3, o3, bl3, hf3⟩ := ih n w2 s2 _ (by omega) (by omega) o2 (by omega) (by have := bl2.size; omega) hf2
    refine ⟨s3, w3, ?_, by simpa [bigB] using o3, bl2.trans bl3, hf3⟩
    show digest_big_l0_b K (digest_big_l0 K n) s x (((m + 1 : Nat) : Int) - 1) w = _
    have e0 : (((m + 1 : Nat) : Int) - 1) = (m : Int) := by omega
    have hd : decide ((m : Int) ≥ 0) = true := by simp
    have e8 : IntKind.i64.wrap (8 * (m : Int)) = ((8 * m : Nat) : Int) := by rw [w64 (by omega) (by omega)]; omega
    have e1 : IntKind.i64.wrap ((m : Int) - 1) = (m : Int) - 1 := w64 (by omega) (by omega)
    have hmin : min (8 * m) IntKind.u64.bits = 8 * m := Nat.min_eq_left (by simp only [IntKind.bits]; omega)
    unfold digest_big_l0_b
    rw [e0, hd, if_pos rfl, e8, if_pos (Int.natCast_nonneg _), Int.toNat_natCast, hmin, h1, bnd_ok]
    show bnd (apd prog 23 23 (.slice s.a s.len s.cap) (.slice (some ⟨w.heap.size, 0, none⟩) 1 1) w1) _ = _
    rw [h2, bnd_ok, e1, h3]

theorem big_ok {K : Nat} (hK : 18446744073709551616 ≤ K) {B : Nat} (x : Int) {m : Nat} (hm : m ≤ 8) {w : World} {s : Sl} {xs : List Int} (ho : OwnS 5 w s (ints .u8 xs)) (hs : s.len + m ≤ 140737488355328) (hB : B ≤ w.heap.size) (hf : Fresh B s) :
    ∃ s' w', digest_big K s x (m : Int) w = some ((s', ()), w') ∧ OwnS 5 w' s' (ints .u8 (xs ++ bigB x m)) ∧ Below B w w' ∧ Fresh B s' := by
  obtain ⟨s', w', h1, h2, h3, h4⟩ := big_loop K B x m K w s xs hm (by omega) ho hs hB hf
  refine ⟨s', w', ?_, h2, h3, h4⟩
  have e1 : IntKind.i64.wrap ((m : Int) - 1) = (m : Int) - 1 := w64 (by omega) (by omega)
  unfold digest_big
  rw [e1, h1, bnd_ok]

/-- the zeros behind the mark, as many as it takes till a whole number of blocks comes out -/
def padZ (b m len : Nat) : Nat := (b - (len + 1 + m) % b) % b

theorem padZ_spec {b m len j : Nat} (hb : b = 64 ∨ b = 128) (hj : j ≤ padZ b m len) : (len % b + (1 + j) + m) % b = 0 ↔ j = padZ b m len := by
  unfold padZ at *
  rcases hb with rfl | rfl <;> omega

theorem padZ_lt {b m len : Nat} (hb : b = 64 ∨ b = 128) : padZ b m len < b := by
  unfold padZ
  rcases hb with rfl | rfl <;> omega

theorem padZ_whole {b m len : Nat} (hb : b = 64 ∨ b = 128) : (len + 1 + padZ b m len + m) % b = 0 := by
  unfold padZ
  rcases hb with rfl | rfl <;> omega

/-- bytes of a digest's word -/
def wordB (h : Int) : Nat := if narrowB h = true then 4 else 8
theorem wordB_blk (h : Int) : (wordB h = 4 ∧ blk h = 64) ∨ (wordB h = 8 ∧ blk h = 128) := by unfold wordB blk; split <;> simp

theorem st_word {h : Int} (hk : known h = true) (cnt : Nat) (H half : List Int) : (stCells h cnt H half)[2]? = some (.int .i64 ((wordB h : Nat) : Int)) ∧ (stCells h cnt H half)[0]? = some (.int .i64 (h / 8)) := by
  rcases known_cases hk with e | e | e | e <;> subst e <;> exact ⟨rfl, rfl⟩

theorem StAt.ld2 {w : World} {e : TypeId} {g o : Nat} {cs0 : List Value} {h : Int} {cnt : Nat} {H half : List Int} (s : StAt w e g o cs0 h cnt H half) (hk : known h = true) :
    ldI .i64 ⟨g, o + 2, none⟩ w = some ((wordB h : Nat) : Int) ∧ ldI .i64 ⟨g, o + 0, none⟩ w = some (h / 8) := by
  obtain ⟨h1, h2⟩ := st_word hk cnt H half
  exact ⟨s.bk.ldI ((st_get s.words s.len s.room (by decide)).trans h1), s.bk.ldI ((st_get s.words s.len s.room (by decide)).trans h2)⟩

theorem end_l0 (K : Nat) {e : TypeId} {g : Nat} {cs0 : List Value} {h : Int} (hk : known h = true) {cnt : Nat} (hcnt : cnt ≤ 140737488355328) {H half : List Int} {bits3 : Int} {pad4 : Addr} :
    ∀ (d j n : Nat) (w : World), j + d = padZ (blk h) (2 * wordB h) cnt → d < n → StAt w e g 0 cs0 h cnt H half →
      ∃ w', digest_state_end_l0 K n ⟨g, 0, none⟩ bits3 pad4 ((1 + j : Nat) : Int) w = some ((((1 + padZ (blk h) (2 * wordB h) cnt : Nat) : Int), ()), w') ∧ Upd none_ w w' := by
  have hbp := blk_pos h
  have hw := wordB_blk h
  have hbk : blk h = 64 ∨ blk h = 128 := known_blk hk
  have hzl := padZ_lt (m := 2 * wordB h) (len := cnt) hbk
  intro d
  induction d with
  | zero =>
    intro j n w hj hn s
    obtain ⟨n, rfl⟩ : ∃ m, n = m + 1 := ⟨n - 1, by omega⟩
    have hj : j = padZ (blk h) (2 * wordB h) cnt := by omega
    obtain ⟨l1, l5, l3⟩ := s.drew.ld hk
    obtain ⟨l2, l0⟩ := s.drew.ld2 hk
    simp only [Nat.zero_add] at l1 l2 l5
    have eb : IntKind.u64.wrap ((blk h : Nat) : Int) = ((blk h : Nat) : Int) := by rw [IntKind.wrap_u64]; omega
    have hne : ((blk h : Nat) : Int) ≠ 0 := by omega
    have hat := Nat.mod_lt cnt hbp
    have ea : IntKind.i64.wrap (Int.tmod (cnt : Int) ((blk h : Nat) : Int)) = ((cnt % blk h : Nat) : Int) := by rw [tmod_nat, wn64 (by omega)]
    have e2 : IntKind.i64.wrap (2 * ((wordB h : Nat) : Int)) = ((2 * wordB h : Nat) : Int) := by rw [w64 (by omega) (by omega)]; omega
    have e3 : IntKind.i64.wrap (((cnt % blk h : Nat) : Int) + ((1 + j : Nat) : Int)) = ((cnt % blk h + (1 + j) : Nat) : Int) := by rw [w64 (by omega) (by omega)]; omega
    have e4 : IntKind.i64.wrap (((cnt % blk h + (1 + j) : Nat) : Int) + ((2 * wordB h : Nat) : Int)) = ((cnt % blk h + (1 + j) + 2 * wordB h : Nat) : Int) := by rw [w64 (by omega) (by omega)]; omega
    have hz := (padZ_spec (m := 2 * wordB h) (len := cnt) (j := j) hbk (by omega)).2 hj
    refine ⟨w.drew, ?_, (Upd.refl none_ w).drew⟩
    show digest_state_end_l0_b K (digest_state_end_l0 K n) ⟨g, 0, none⟩ bits3 pad4 ((1 + j : Nat) : Int) w = _
    unfold digest_state_end_l0_b
    simp only [add_lit, Nat.zero_add, Nat.add_zero]
    rw [l5, Option.bind_some, l1, Option.bind_some, eb, if_pos hne, l2, Option.bind_some, Option.bind_some, if_pos hne, ea, e2, e3, e4, tmod_nat, hz]
    rw [if_neg (by simp), hj]
  | succ d ih =>
    intro j n w hj hn s
    obtain ⟨n, rfl⟩ : ∃ m, n = m + 1 := ⟨n - 1, by omega⟩
    obtain ⟨l1, l5, l3⟩ := s.drew.ld hk
    obtain ⟨l2, l0⟩ := s.drew.ld2 hk
    simp only [Nat.zero_add] at l1 l2 l5
    have eb : IntKind.u64.wrap ((blk h : Nat) : Int) = ((blk h : Nat) : Int) := by rw [IntKind.wrap_u64]; omega
    have hne : ((blk h : Nat) : Int) ≠ 0 := by omega
    have hat := Nat.mod_lt cnt hbp
    have ea : IntKind.i64.wrap (Int.tmod (cnt : Int) ((blk h : Nat) : Int)) = ((cnt % blk h : Nat) : Int) := by rw [tmod_nat, wn64 (by omega)]
    have e2 : IntKind.i64.wrap (2 * ((wordB h : Nat) : Int)) = ((2 * wordB h : Nat) : Int) := by rw [w64 (by omega) (by omega)]; omega
    have e3 : IntKind.i64.wrap (((cnt % blk h : Nat) : Int) + ((1 + j : Nat) : Int)) = ((cnt % blk h + (1 + j) : Nat) : Int) := by rw [w64 (by omega) (by omega)]; omega
    have e4 : IntKind.i64.wrap (((cnt % blk h + (1 + j) : Nat) : Int) + ((2 * wordB h : Nat) : Int)) = ((cnt % blk h + (1 + j) + 2 * wordB h : Nat) : Int) := by rw [w64 (by omega) (by omega)]; omega
    have hz : ¬ (cnt % blk h + (1 + j) + 2 * wordB h) % blk h = 0 := fun e0 => by
      have := (padZ_spec (m := 2 * wordB h) (len := cnt) (j := j) hbk (by omega)).1 e0
      omega
    have e1 : IntKind.i64.wrap (((1 + j : Nat) : Int) + 1) = ((1 + (j + 1) : Nat) : Int) := by rw [w64 (by omega) (by omega)]; omega
    obtain ⟨w1, h1, u1⟩ := ih (j + 1) n w.drew (by omega) (by omega) s.drew
    refine ⟨w1, ?_, u1.predrew⟩
    show digest_state_end_l0_b K (digest_state_end_l0 K n) ⟨g, 0, none⟩ bits3 pad4 ((1 + j : Nat) : Int) w = _
    have hnz : ((((cnt % blk h + (1 + j) + 2 * wordB h) % blk h : Nat) : Int) != 0) = true := by rw [bne_iff_ne]; exact fun e0 => hz (Int.natCast_eq_zero.1 e0)
    unfold digest_state_end_l0_b
    simp only [add_lit, Nat.zero_add, Nat.add_zero]
    rw [l5, Option.bind_some, l1, Option.bind_some, eb, if_pos hne, l2, Option.bind_some, Option.bind_some, if_pos hne, ea, e2, e3, e4, tmod_nat, hnz, if_pos rfl, e1, h1]

theorem seg_cons {cs vs : List Value} {o : Nat} (h : o + 1 + vs.length ≤ cs.length) (v : Value) : (seg cs (o + 1) vs).set o v = seg cs o (v :: vs) := by
  apply List.ext_getElem?
  intro i
  rw [List.getElem?_set, seg_length h, seg_get h, seg_get (by simp; omega)]
  simp only [List.length_cons]
  by_cases h1 : o = i
  · subst h1
    rw [if_pos rfl, if_pos (by omega), if_neg (by omega), if_pos (by omega)]
    simp
  · rw [if_neg h1]
    by_cases h2 : i < o
    · rw [if_pos (by omega), if_pos h2]
    · rw [if_neg (by omega), if_neg h2]
      by_cases h3 : i < o + 1 + vs.length
      · rw [if_pos h3, if_pos (by omega), show i - o = (i - (o + 1)) + 1 by omega]; rfl
      · rw [if_neg h3, if_neg (by omega)]

theorem end_l1 (K : Nat) {s1 : Addr} {bits : Int} {gp n0 : Nat} {ep : TypeId} {ps : List Value} (hps : ps.length = 256) (hn8 : 8 ≤ n0) (hn0 : n0 ≤ 256) :
    ∀ (d i n : Nat) (w : World), i + d = 8 → d < n → Bk ep w gp (seg ps (n0 - i) (ints .u8 (bigB bits i))) →
      ∃ w', digest_state_end_l1 K n s1 bits ⟨gp, 0, none⟩ (n0 : Int) (i : Int) w = some ((), w') ∧ Bk ep w' gp (seg ps (n0 - 8) (ints .u8 (bigB bits 8))) ∧ Upd (· = gp) w w' := by
  intro d
  induction d with
  | zero =>
    intro i n w hi hn hb
    obtain ⟨n, rfl⟩ : ∃ m, n = m + 1 := ⟨n - 1, by omega⟩
    have : i = 8 := by omega
    subst this
    refine ⟨w, ?_, hb, Upd.refl _ _⟩
    show digest_state_end_l1_b K (digest_state_end_l1 K n) s1 bits ⟨gp, 0, none⟩ (n0 : Int) ((8 : Nat) : Int) w = _
    simp [digest_state_end_l1_b]
  | succ d ih =>
    intro i n w hi hn hb
    obtain ⟨n, rfl⟩ : ∃ m, n = m + 1 := ⟨n - 1, by omega⟩
    have hd : decide ((i : Int) < 8) = true := by simp; omega
    have e1 : IntKind.i64.wrap ((i : Int) + 1) = ((i + 1 : Nat) : Int) := by rw [w64 (by omega) (by omega)]; rfl
    have e8 : IntKind.i64.wrap (8 * (i : Int)) = ((8 * i : Nat) : Int) := by rw [w64 (by omega) (by omega)]; omega
    have en : IntKind.i64.wrap ((n0 : Int) - 1) = ((n0 - 1 : Nat) : Int) := by rw [w64 (by omega) (by omega)]; omega
    have eni : IntKind.i64.wrap (((n0 - 1 : Nat) : Int) - (i : Int)) = ((n0 - (i + 1) : Nat) : Int) := by rw [w64 (by omega) (by omega)]; omega
    have hmin : min (8 * i) IntKind.u64.bits = 8 * i := Nat.min_eq_left (by simp only [IntKind.bits]; omega)
    have c0 : (0 : Int) ≤ ((n0 - (i + 1) : Nat) : Int) ∧ ((n0 - (i + 1) : Nat) : Int) < ((256 : Nat) : Int) := by omega
    have hbl := bigB_len bits i
    obtain ⟨w1, s1', s2, s3⟩ := hb.stC (i := n0 - (i + 1)) (by rw [seg_length (by rw [ints_length, hbl]; omega)]; omega) (.int .u8 (IntKind.u8.wrap (Int.fdiv bits (2 ^ (8 * i)))))
    have hst : (seg ps (n0 - i) (ints .u8 (bigB bits i))).set (n0 - (i + 1)) (.int .u8 (IntKind.u8.wrap (Int.fdiv bits (2 ^ (8 * i))))) = seg ps (n0 - (i + 1)) (ints .u8 (bigB bits (i + 1))) := by
      have := seg_cons (cs := ps) (vs := ints .u8 (bigB bits i)) (o := n0 - (i + 1)) (by rw [ints_length, hbl]; omega) (.int .u8 (IntKind.u8.wrap (Int.fdiv bits (2 ^ (8 * i)))))
      rw [show n0 - (i + 1) + 1 = n0 - i by omega] at this
      rw [this]; rfl
    rw [hst] at s2
    obtain ⟨w2, h1, h2, h3⟩ := ih (i + 1) n w1 (by omega) (by omega) s2
    refine ⟨w2, ?_, h2, s3.trans' h3 fun _ _ e => e⟩
    show digest_state_end_l1_b K (digest_state_end_l1 K n) s1 bits ⟨gp, 0, none⟩ (n0 : Int) (i : Int) w = _
    unfold digest_state_end_l1_b
    rw [hd, if_pos rfl, e8, if_pos (Int.natCast_nonneg _), en, eni, if_pos c0]
    simp only [Int.toNat_natCast, add_lit, Nat.mul_one, Nat.zero_add]
    rw [hmin, s1', Option.bind_some, e1, h1]

/-- the bytes of words -/
def outW (H : List Int) (m : Nat) : Nat → List Int
  | 0 => []
  | i + 1 => outW H m i ++ bigB (H.getD i 0) m

theorem outW_len (H : List Int) (m : Nat) : ∀ i, (outW H m i).length = i * m
  | 0 => by simp [outW]
  | i + 1 => by simp [outW, outW_len H m i, bigB_len, Nat.succ_mul]

theorem end_l2 {K : Nat} (hK : 18446744073709551616 ≤ K) (B : Nat) {e : TypeId} {g : Nat} {cs0 : List Value} {h : Int} (hk : known h = true) {cnt : Nat} {H half X : List Int} (hX : X.length = 8) (hgB : g < B) :
    ∀ (d i n : Nat) (w : World) (s : Sl), i + d = 8 → d < n → StAt w e g 0 cs0 h cnt H half → OwnS 5 w s (ints .u8 (outW X (wordB h) i)) → B ≤ w.heap.size → Fresh B s →
      ∃ s' w', digest_state_end_l2 K n ⟨g, 0, none⟩ s (ints .u64 X).toArray (i : Int) w = some ((s', ()), w') ∧ OwnS 5 w' s' (ints .u8 (outW X (wordB h) 8)) ∧ Below B w w' ∧ Fresh B s' := by
  have hw := wordB_blk h
  intro d
  induction d with
  | zero =>
    intro i n w s hi hn st ho hB hf
    obtain ⟨n, rfl⟩ : ∃ m, n = m + 1 := ⟨n - 1, by omega⟩
    have : i = 8 := by omega
    subst this
    refine ⟨s, w, ?_, ho, Below.refl B w, hf⟩
    show digest_state_end_l2_b K (digest_state_end_l2 K n) ⟨g, 0, none⟩ s (ints .u64 X).toArray ((8 : Nat) : Int) w = _
    simp [digest_state_end_l2_b]
  | succ d ih =>
    intro i n w s hi hn st ho hB hf
    obtain ⟨n, rfl⟩ : ∃ m, n = m + 1 := ⟨n - 1, by omega⟩
    have hd : decide ((i : Int) < 8) = true := by simp; omega
    have e1 : IntKind.i64.wrap ((i : Int) + 1) = ((i + 1 : Nat) : Int) := by rw [w64 (by omega) (by omega)]; rfl
    have c0 : (0 : Int) ≤ (i : Int) ∧ (i : Int) < ((8 : Nat) : Int) := by omega
    have hxi : i < X.length := by omega
    have hg : (ints .u64 X).toArray[i]? = some (.int .u64 (X.getD i 0)) := by
      rw [List.getElem?_toArray]; simp [ints, List.getD_eq_getElem?_getD, hxi]
    obtain ⟨l2, l0⟩ := st.ld2 hk
    simp only [Nat.zero_add] at l2
    have hsl : s.len = i * wordB h := by rw [ho.len, ints_length, outW_len]
    have him : i * wordB h ≤ 7 * 8 := Nat.mul_le_mul (by omega) (by omega)
    obtain ⟨s2, w2, h2, o2, bl2, f2⟩ := big_ok hK (X.getD i 0) (m := wordB h) (by omega) ho (by omega) hB hf
    obtain ⟨s3, w3, h3, o3, bl3, f3⟩ := ih (i + 1) n w2 s2 (by omega) (by omega) (st.upd (upd_of_below bl2) (by omega)) o2 (by have := bl2.size; omega) f2
    refine ⟨s3, w3, ?_, o3, bl2.trans bl3, f3⟩
    show digest_state_end_l2_b K (digest_state_end_l2 K n) ⟨g, 0, none⟩ s (ints .u64 X).toArray (i : Int) w = _
    unfold digest_state_end_l2_b
    rw [hd, if_pos rfl, if_pos c0]
    simp only [Int.toNat_natCast, Nat.mul_one]
    rw [hg, Option.bind_some]
    simp only [asI, if_true, Option.bind_some, add_lit, Nat.zero_add, Nat.add_zero]
    rw [l2, Option.bind_some, h2, bnd_ok, e1, h3]

/-- what is put behind what is digested -/
def pads (h : Int) (len : Nat) : List Int := [128] ++ List.replicate (padZ (blk h) (2 * wordB h) len + (2 * wordB h - 8)) 0 ++ bigB (IntKind.u64.wrap ((len : Int) * 8)) 8

theorem pads_len (h : Int) (len : Nat) : (pads h len).length = 1 + padZ (blk h) (2 * wordB h) len + 2 * wordB h := by
  have := wordB_blk h
  simp [pads, bigB_len]; omega

theorem pads_whole (h : Int) (hk : known h = true) (xs : List Int) : (xs ++ pads h xs.length).length % blk h = 0 := by
  rw [List.length_append, pads_len]
  have := padZ_whole (m := 2 * wordB h) (len := xs.length) (known_blk hk)
  rw [← this]; congr 1; omega

theorem bigB_in (x : Int) : ∀ n, ∀ y ∈ bigB x n, InK .u8 y
  | 0, y, hy => by simp [bigB] at hy
  | n + 1, y, hy => by
    simp only [bigB, List.mem_cons] at hy
    rcases hy with rfl | hy
    · rw [IntKind.wrap_u8]; exact ⟨by omega, by simp only [IntKind.bits]; omega⟩
    · exact bigB_in x n y hy

theorem pads_in (h : Int) (len : Nat) : ∀ y ∈ pads h len, InK .u8 y := by
  intro y hy
  unfold pads at hy
  simp only [List.mem_append, List.mem_cons, List.not_mem_nil, or_false, List.mem_replicate] at hy
  rcases hy with (rfl | ⟨_, rfl⟩) | hy
  · exact ⟨by decide, by decide⟩
  · exact ⟨by decide, by decide⟩
  · exact bigB_in _ 8 y hy

/-- the digest of bytes -/
def digestOf (h : Int) (C H0 xs : List Int) : List Int := (outW (compsH h C ((xs ++ pads h xs.length).length / blk h) H0 (xs ++ pads h xs.length)) (wordB h) 8).take (h / 8).toNat

/-- a slice as it is answered: of new memory, no room behind it -/
structure Ans (B : Nat) (w : World) (s : Sl) (zs : List Int) : Prop where
  ex : ∃ g cs, s.a = some ⟨g, 0, none⟩ ∧ B ≤ g ∧ Bk 5 w g cs ∧ cs.take zs.length = ints .u8 zs ∧ zs.length ≤ cs.length
  len : s.len = zs.length
  cap : s.cap = zs.length

end Go.Sh

/- A digest is told: end of package digest, whole. -/
set_option linter.unusedVariables false
namespace Go.Sh
open Go.Fw Go.Sha Go.RowKit Go.Proofs.Tryd

theorem mkS_ok (w : World) {c : Nat} (hc : c ≤ 281474976710656) :
    ∃ w', mkS prog 23 (.int .i64 0) (.int .i64 (c : Int)) w = some (⟨some ⟨w.heap.size, 0, none⟩, 0, c⟩, w') ∧ OwnS 5 w' ⟨some ⟨w.heap.size, 0, none⟩, 0, c⟩ [] ∧ Upd none_ w w' := by
  obtain ⟨i, hi, hsz, hz, hby⟩ := sliceB.info
  obtain ⟨w', hr, ho, hg⟩ := run_make_own (P := prog) w 0 23 5 i (.int .u8 0) 1 sliceB.ht hi hz hsz .i64 .i64 c (by rw [hby]; omega) (by simp only [maxLen]; omega) (Nat.zero_le _)
  obtain ⟨s, h1, h2, h3⟩ := OwnS.of_row ho
  have hs : s = ⟨some ⟨w.heap.size, 0, none⟩, 0, c⟩ := by
    cases s
    simp only [Value.slice.injEq] at h1
    simp [← h1.1, ← h1.2.1, ← h1.2.2]
  refine ⟨w', ?_, hs ▸ h3, (Upd.of_grown hg).mono fun k _ e => by cases e⟩
  unfold mkS
  rw [hr]

theorem seg_self {cs : List Value} : seg cs 0 cs = cs := by simp [seg]

theorem pads_cells (h : Int) (len : Nat) (hz : padZ (blk h) (2 * wordB h) len < 128) :
    (seg ((ints .u8 (List.replicate 256 0)).set 0 (.int .u8 128)) (1 + padZ (blk h) (2 * wordB h) len + 2 * wordB h - 8) (ints .u8 (bigB (IntKind.u64.wrap ((len : Int) * 8)) 8))).take (1 + padZ (blk h) (2 * wordB h) len + 2 * wordB h) = ints .u8 (pads h len) := by
  have hw := wordB_blk h
  obtain ⟨k, hk⟩ : ∃ k, padZ (blk h) (2 * wordB h) len + (2 * wordB h - 8) = k := ⟨_, rfl⟩
  have e0 : (ints .u8 (List.replicate 256 0)).set 0 (.int .u8 128) = ints .u8 (128 :: List.replicate 255 0) := by
    rw [ints_set, show (256 : Nat) = 255 + 1 from rfl, List.replicate_succ, List.set_cons_zero]
  have e1 : 1 + padZ (blk h) (2 * wordB h) len + 2 * wordB h - 8 = k + 1 := by omega
  have e2 : 1 + padZ (blk h) (2 * wordB h) len + 2 * wordB h = k + 1 + (ints .u8 (bigB (IntKind.u64.wrap ((len : Int) * 8)) 8)).length := by rw [ints_length, bigB_len]; omega
  rw [e0, e1, e2]
  unfold seg pads
  rw [hk, ints_take, List.take_succ_cons, List.take_replicate, Nat.min_eq_left (by omega), ← ints_append, List.take_append_of_le_length (by rw [ints_length, ints_length, List.length_append, List.length_cons, List.length_replicate]; omega), List.take_of_length_le (by rw [ints_length, ints_length, List.length_append, List.length_cons, List.length_replicate]; omega)]
  rfl

theorem end_ok {K : Nat} (hK : 18446744073709551616 ≤ K) {h : Int} (hk : known h = true) {H half C H0 xs : List Int} (f : Fed h C H0 xs H half) (hH : H.length = 8) (hhi : ∀ x ∈ half, InK .u8 x) (hC : C.length = 80) {w : World} (hT : Rd w ⟨3, 0, none⟩ (ints .u64 C)) (hlim : xs.length ≤ 1099511627776) :
    ∃ s w', digest_state_end K (stCells h xs.length H half).toArray w = some ((s, ()), w') ∧ Ans w.heap.size w' s (digestOf h C H0 xs) ∧ Upd none_ w w' := by
  have hGC : 3 < w.heap.size := hT.lt (fun e => by have := congrArg List.length e; simp [hC] at this)
  have hwb := wordB_blk h
  have hbk := known_blk hk
  have hzl := padZ_lt (m := 2 * wordB h) (len := xs.length) hbk
  obtain ⟨w1, n1, b1, u1, z1⟩ := newB_ok (stCells h xs.length H half).toArray 180 w
  have b1 : Bk 180 w1 w.heap.size (stCells h xs.length H half) := b1
  have hsl := stCells_len h xs.length hH f.len
  have st1 : StAt w1 180 w.heap.size 0 (stCells h xs.length H half) h xs.length H half := ⟨by rw [seg_self]; exact b1, by rw [hsl]; decide, hH, f.len, hhi⟩
  obtain ⟨l1, l5, l3⟩ := st1.ld hk
  obtain ⟨w2, n2, b2, u2, z2⟩ := newB_ok z188 188 w1
  have b2 : Bk 188 w2 w1.heap.size (ints .u8 (List.replicate 256 0)) := by
    have e : z188.toList = ints .u8 (List.replicate 256 0) := by unfold z188 ints; rw [Array.toList_replicate, List.map_replicate]
    rw [← e]; exact b2
  obtain ⟨w3, s3, b3, u3⟩ := b2.stC (i := 0) (by rw [ints_length, List.length_replicate]; decide) (.int .u8 128)
  have st3 := (st1.upd u2 id).upd u3 (by omega)
  obtain ⟨w4, h4, u4⟩ := end_l0 K hk (by omega) (bits3 := IntKind.u64.wrap (((xs.length : Nat) : Int) * 8)) (pad4 := ⟨w1.heap.size, 0, none⟩) (padZ (blk h) (2 * wordB h) xs.length) 0 K w3 (by omega) (by omega) st3
  have h4 : digest_state_end_l0 K K ⟨w.heap.size, 0, none⟩ (IntKind.u64.wrap (((xs.length : Nat) : Int) * 8)) ⟨w1.heap.size, 0, none⟩ 1 w3 = _ := h4
  have st4 := st3.upd u4 id
  have b4 := b3.upd0 u4
  obtain ⟨m2, m0⟩ := st4.ld2 hk
  have ew : IntKind.i64.wrap (2 * ((wordB h : Nat) : Int)) = ((2 * wordB h : Nat) : Int) := by rw [w64 (by omega) (by omega)]; omega
  have en : IntKind.i64.wrap (((1 + padZ (blk h) (2 * wordB h) xs.length : Nat) : Int) + ((2 * wordB h : Nat) : Int)) = ((1 + padZ (blk h) (2 * wordB h) xs.length + 2 * wordB h : Nat) : Int) := by rw [w64 (by omega) (by omega)]; omega
  have hps : ((ints .u8 (List.replicate 256 0)).set 0 (.int .u8 128)).length = 256 := by rw [List.length_set, ints_length, List.length_replicate]
  obtain ⟨w5, h5, b5, u5⟩ := end_l1 K (s1 := ⟨w.heap.size, 0, none⟩) (bits := IntKind.u64.wrap (((xs.length : Nat) : Int) * 8)) (gp := w1.heap.size) (n0 := 1 + padZ (blk h) (2 * wordB h) xs.length + 2 * wordB h) hps (by omega) (by omega) 8 0 K w4 rfl (by omega) (by
    show Bk 188 w4 w1.heap.size (seg _ _ [])
    rw [seg_nil]; exact b4)
  have h5 : digest_state_end_l1 K K ⟨w.heap.size, 0, none⟩ (IntKind.u64.wrap (((xs.length : Nat) : Int) * 8)) ⟨w1.heap.size, 0, none⟩ ((1 + padZ (blk h) (2 * wordB h) xs.length + 2 * wordB h : Nat) : Int) 0 w4 = _ := h5
  have st5 := st4.upd u5 (by omega)
  have hpc := pads_cells h xs.length (by omega)
  have hplen := pads_len h xs.length
  have q5 : Upd none_ w w5 := (((u1.and0 u2).trans' u3 fun k hk e => by omega).and0 u4).trans' u5 fun k hk e => by omega
  have hsrc : Src w5 ⟨some ⟨w1.heap.size, 0, none⟩, 1 + padZ (blk h) (2 * wordB h) xs.length + 2 * wordB h, 256⟩ (ints .u8 (pads h xs.length)) := by
    refine ⟨by rw [ints_length, hplen], (show 1 + padZ (blk h) (2 * wordB h) xs.length + 2 * wordB h ≤ 256 by omega), .inr ⟨_, rfl, b5.rd 0 _ fun i v hv => ?_⟩, ints_one⟩
    rw [← hpc, List.getElem?_take] at hv
    split at hv
    · rw [Nat.zero_add]; exact hv
    · cases hv
  obtain ⟨w6, H6, half6, h6, st6, f6, u6⟩ := take_ok hK hk st5 f hC (by omega) (hT.upd q5 fun _ => id) (pads_in h xs.length) (by rw [hplen]; omega) hsrc
    (fun p hp _ e=>by have e1 : p = ⟨w1.heap.size, 0, none⟩ := by simpa using hp.symm
                      rw [e1] at e; simp at e; omega)
    (fun p hp _=>by have e1 : p = ⟨w1.heap.size, 0, none⟩ := by simpa using hp.symm
                    rw [e1]; exact b5.lt)
  have q6 : Upd none_ w w6 := q5.trans' u6 fun k hk e => by omega
  obtain ⟨w7, h7, o7, u7⟩ := mkS_ok w6 (c := 64) (by decide)
  have h7 : mkS prog 23 (.int .i64 0) (.int .i64 64) w6 = _ := h7
  have st7 := st6.upd u7 id
  have lW := st7.bk.ldA (i := 6) (n := 8) (by rw [seg_length (by rw [stCells_len h _ st7.words st7.len]; exact st7.room)]; have := st7.room; omega)
  have h8 := st7.at8
  rw [Nat.zero_add] at h8
  rw [h8] at lW
  have hs7 := q6.size
  have hs76 := u7.size
  obtain ⟨s8, w8, h8', o8, bl8, f8⟩ := end_l2 hK w6.heap.size hk st7.words (by have := st6.bk.lt; exact this) 8 0 K w7 ⟨some ⟨w6.heap.size, 0, none⟩, 0, 64⟩ rfl (by omega) st7 (by simpa [outW] using o7) (by omega) (fun k hk => by simp [Sl.blk] at hk; omega)
  have h8' : digest_state_end_l2 K K ⟨w.heap.size, 0, none⟩ ⟨some ⟨w6.heap.size, 0, none⟩, 0, 64⟩ (ints .u64 H6).toArray 0 w7 = _ := h8'
  have st8 := st7.upd (upd_of_below bl8) (by have := st6.bk.lt; omega)
  obtain ⟨k2, k0⟩ := st8.ld2 hk
  have hol : s8.len = 8 * wordB h := by rw [o8.len, ints_length, outW_len]
  have hcap := o8.cap
  have hq : ∃ q : Nat, h / 8 = (q : Int) ∧ q ≤ 8 * wordB h ∧ 0 < q := by
    rcases known_cases hk with e | e | e | e <;> subst e
    · exact ⟨28, rfl, by decide, by decide⟩
    · exact ⟨32, rfl, by decide, by decide⟩
    · exact ⟨48, rfl, by decide, by decide⟩
    · exact ⟨64, rfl, by decide, by decide⟩
  obtain ⟨q, hq1, hq2, hq3⟩ := hq
  have hH6 : H6 = compsH h C ((xs ++ pads h xs.length).length / blk h) H0 (xs ++ pads h xs.length) := f6.words
  have hdg : digestOf h C H0 xs = (outW H6 (wordB h) 8).take q := by unfold digestOf; rw [← hH6, hq1]; rfl
  have hdl : (digestOf h C H0 xs).length = q := by rw [hdg, List.length_take, outW_len]; omega
  obtain ⟨g8, cs8, a8, bk8, _, _, hcl, htk⟩ := o8.bk (fun e => by have := congrArg List.length e; rw [ints_length, outW_len] at this; simp at this; omega)
  refine ⟨⟨some ⟨g8, 0, none⟩, q, q⟩, w8, ?_, ⟨⟨g8, cs8, rfl, by have := f8 g8 (by simp [Sl.blk, a8]); omega, bk8, ?_, by rw [hdl]; omega⟩, hdl.symm, hdl.symm⟩, (q6.and0 u7).trans' (upd_of_below bl8) fun k hk e => by omega⟩
  · unfold digest_state_end
    simp only [Nat.zero_add] at l5 m2 m0 k2 k0
    rw [n1, bnd_ok]
    simp only [add_lit, Nat.zero_add, Nat.add_zero, Nat.zero_mul, Nat.sub_zero]
    rw [l5, Option.bind_some, n2, bnd_ok]
    simp only [add_lit, Nat.zero_add, Nat.add_zero, Nat.zero_mul, Nat.sub_zero]
    rw [s3, Option.bind_some, h4, bnd_ok, m2, Option.bind_some]
    simp only [ew, en]
    rw [h5, bnd_ok, if_pos (by omega), Int.toNat_natCast]
    have e0 : sla (some ⟨w1.heap.size, 0, none⟩) 0 256 1 = some ⟨w1.heap.size, 0, none⟩ := by unfold sla; rw [if_neg (by decide)]; rfl
    rw [e0, h6, bnd_ok, h7, bnd_ok]
    have lW : ldA 8 ⟨w.heap.size, 6, none⟩ w7 = some (ints .u64 H6).toArray := lW
    rw [lW, Option.bind_some, h8', bnd_ok, k0, Option.bind_some]
    have e1 : sla s8.a 0 q 1 = s8.a := by
      rw [a8]; unfold sla; rw [if_neg (by omega)]; rfl
    rw [Option.bind_some, hq1, if_pos (by dsimp only; omega), Int.toNat_natCast, if_pos (by omega)]
    dsimp only
    rw [e1, a8]
  · rw [hdl, hdg, ← ints_take, ← htk, List.take_take, Nat.min_eq_left (by omega)]

end Go.Sh

/- A digest begins: begin and New of package digest. -/
set_option linter.unusedVariables false
namespace Go.Sh
open Go.Fw Go.Sha Go.RowKit Go.Proofs.Tryd

theorem first_none (K : Nat) {h : Int} (hk : known h = false) {a2 : Addr} :
    ∀ (d i n : Nat) (w : World), i + d = 8 → d < n → digest_first_l0 K n h a2 (i : Int) w = some ((), w) := by
  intro d
  have q : (h == 224) = false ∧ (h == 256) = false ∧ (h == 384) = false ∧ (h == 512) = false := by
    simp [known] at hk ⊢; omega
  induction d with
  | zero =>
    intro i n w hi hn
    obtain ⟨n, rfl⟩ : ∃ m, n = m + 1 := ⟨n - 1, by omega⟩
    have : i = 8 := by omega
    subst this
    show digest_first_l0_b K (digest_first_l0 K n) h a2 ((8 : Nat) : Int) w = _
    unfold digest_first_l0_b
    rw [if_neg (by decide)]
  | succ d ih =>
    intro i n w hi hn
    obtain ⟨n, rfl⟩ : ∃ m, n = m + 1 := ⟨n - 1, by omega⟩
    have hd : decide ((i : Int) < 8) = true := by simp; omega
    have e1 : IntKind.i64.wrap ((i : Int) + 1) = ((i + 1 : Nat) : Int) := by rw [w64 (by omega) (by omega)]; rfl
    show digest_first_l0_b K (digest_first_l0 K n) h a2 (i : Int) w = _
    unfold digest_first_l0_b
    rw [hd, if_pos rfl, q.1, if_neg (by decide), q.2.1, if_neg (by decide), q.2.2.1, if_neg (by decide), q.2.2.2, if_neg (by decide), e1]
    exact ih (i + 1) n w (by omega) (by omega)

theorem firstH_none {h : Int} (hk : known h = false) (S : List Int) : firstH S h = List.replicate 8 0 := by
  have q : h ≠ 224 ∧ h ≠ 256 ∧ h ≠ 384 ∧ h ≠ 512 := by simp [known] at hk; omega
  unfold firstH
  refine List.eq_replicate_iff.2 ⟨by simp, fun b hb => ?_⟩
  obtain ⟨i, _, rfl⟩ := List.mem_map.1 hb
  unfold fw1
  rw [if_neg q.1, if_neg q.2.1, if_neg q.2.2.1, if_neg q.2.2.2]

theorem first_any {K : Nat} (hK : 18446744073709551616 ≤ K) (h : Int) {S : List Int} (hS : S.length = 16) (hin : ∀ i, InK .u64 (S.getD i 0)) {w : World} (hT : Rd w ⟨4, 0, none⟩ (ints .u64 S)) :
    ∃ w', digest_first K h w = some (((ints .u64 (firstH S h)).toArray, ()), w') ∧ Upd none_ w w' := by
  cases hk : known h with
  | true => exact first_ok hK hk hS hin hT
  | false =>
    obtain ⟨w1, n1, b1, u1, z1⟩ := newB_ok z150 150 w
    have b1 : Bk 150 w1 w.heap.size z150.toList := b1
    have h3 := first_none K hk (a2 := ⟨w.heap.size, 0, none⟩) 8 0 K w1 rfl (by omega)
    have h3 : digest_first_l0 K K h ⟨w.heap.size, 0, none⟩ 0 w1 = _ := h3
    have hl8 : (ints .u64 (firstH S h)).length = 8 := by rw [ints_length, firstH_len]
    have ez : z150.toList = ints .u64 (firstH S h) := by rw [firstH_none hk]; rfl
    rw [ez] at b1
    have l3 := b1.ldA (i := 0) (n := 8) (by rw [hl8]; decide)
    rw [List.drop_zero, List.take_of_length_le (by rw [hl8]; decide)] at l3
    obtain ⟨w4, a1, a2, a3, a4⟩ := lay' b1 (vs := ints .u64 (firstH S h)) rfl ints_one
    rw [hl8] at a4
    refine ⟨w4, ?_, u1.trans' a3 fun k hk e => by omega⟩
    unfold digest_first
    rw [n1, bnd_ok, h3, bnd_ok, l3, Option.bind_some, if_pos (by rw [List.size_toArray, hl8]), a1, Option.bind_some, a4, Option.bind_some]

theorem built87 (a b c d : Value) (h : Int) (x0 x1 x2 x3 x4 x5 x6 x7 : Int) :
    prog.built 180 [(0, .agg #[a, b, c, d]), (1, .int .i64 h), (3, .agg #[.int .u64 x0, .int .u64 x1, .int .u64 x2, .int .u64 x3, .int .u64 x4, .int .u64 x5, .int .u64 x6, .int .u64 x7])] =
      some (([a, b, c, d] ++ ([.int .i64 h, .int .u64 0] ++ ([.int .u64 x0, .int .u64 x1, .int .u64 x2, .int .u64 x3, .int .u64 x4, .int .u64 x5, .int .u64 x6, .int .u64 x7] ++ List.replicate 128 (.int .u8 0))) : List Value).toArray) := by kernel_rfl

theorem sameK_self {β : Type} (v : Value) (k : Option β) : sameK v v k = k := by unfold sameK; rw [if_pos rfl]

theorem list8 {α : Type} {l : List α} (h : l.length = 8) : ∃ a b c d e f g i, l = [a, b, c, d, e, f, g, i] := by
  match l, h with
  | [a, b, c, d, e, f, g, i], _ => exact ⟨a, b, c, d, e, f, g, i, rfl⟩

theorem list4 {α : Type} {l : List α} (h : l.length = 4) : ∃ a b c d, l = [a, b, c, d] := by
  match l, h with
  | [a, b, c, d], _ => exact ⟨a, b, c, d, rfl⟩

theorem begin_built (h : Int) {H : List Int} (hH : H.length = 8) :
    prog.built 180 [(0, (.agg (kc h).toArray)), (1, (.int .i64 h)), (3, (.agg (ints .u64 H).toArray))] = some (stCells h 0 H (List.replicate 128 0)).toArray := by
  obtain ⟨a, b, c, d, e4⟩ := list4 (kc_len h)
  obtain ⟨x0, x1, x2, x3, x4, x5, x6, x7, rfl⟩ := list8 hH
  unfold stCells
  rw [e4]
  refine (built87 a b c d h x0 x1 x2 x3 x4 x5 x6 x7).trans ?_
  rw [show ints .u8 (List.replicate 128 0) = List.replicate 128 (.int .u8 0) from List.map_replicate]
  rfl

theorem stCells_one (h : Int) (cnt : Nat) (H half : List Int) : ∀ v ∈ stCells h cnt H half, v.oneCell' = true := by
  intro v hv
  unfold stCells at hv
  simp only [List.mem_append, List.mem_cons, List.not_mem_nil, or_false] at hv
  rcases hv with hv | (rfl | rfl) | hv | hv
  · exact kc_one h v hv
  · rfl
  · rfl
  · exact ints_one v hv
  · exact ints_one v hv

abbrev half0 : List Int := List.replicate 128 0

theorem begin_ok {K : Nat} (hK : 18446744073709551616 ≤ K) (h : Int) {S : List Int} (hS : S.length = 16) (hin : ∀ i, InK .u64 (S.getD i 0)) {w : World} (hT : Rd w ⟨4, 0, none⟩ (ints .u64 S)) :
    ∃ w', digest_begin K h w = some (((stCells h 0 (firstH S h) half0).toArray, known h, ()), w') ∧ Upd none_ w w' := by
  obtain ⟨w1, n1, b1, u1, z1⟩ := newB_ok z180 180 w
  have b1 : Bk 180 w1 w.heap.size z180.toList := b1
  obtain ⟨w2, h2, u2⟩ := kindOf_ok h w1
  obtain ⟨w3, n3, b3, u3, z3⟩ := newB_ok z138 138 w2
  have b3 : Bk 138 w3 w2.heap.size z138.toList := b3
  obtain ⟨w4, a1, a2, a3, a4⟩ := lay b3 (vs := kc h) (by rw [kc_len]; rfl) (kc_one h)
  rw [kc_len] at a4
  have q4 : Upd none_ w w4 := ((u1.and0 u2).and0 u3).trans' a3 fun k hk e => by have := (u1.and0 u2).size; omega
  have q4d : Upd none_ w w4.drew := q4.drew
  obtain ⟨w5, h5, u5⟩ := first_any hK h hS hin (hT.upd q4d fun _ => id)
  have l5 := (a2.drew.upd0 u5).ldA (i := 0) (n := 4) (by rw [kc_len]; decide)
  rw [List.drop_zero, List.take_of_length_le (by rw [kc_len]; decide)] at l5
  have b5 : Bk 180 w5 w.heap.size z180.toList := ((((b1.upd0 u2).upd0 u3).upd a3 (by have := u2.size; omega)).drew).upd0 u5
  obtain ⟨w6, c1, c2, c3, c4⟩ := lay b5 (vs := stCells h 0 (firstH S h) half0) (by rw [stCells_len h 0 (firstH_len S h) (List.length_replicate ..)]; rfl) (stCells_one _ _ _ _)
  rw [stCells_len h 0 (firstH_len S h) (List.length_replicate ..)] at c4
  refine ⟨w6, ?_, (q4d.and0 u5).trans' c3 fun k hk e => by omega⟩
  unfold digest_begin
  rw [n1, bnd_ok, h2, bnd_ok, n3, bnd_ok]
  dsimp only
  have a4d : ldA 4 ⟨w2.heap.size, 0, none⟩ w4.drew = some (kc h).toArray := a4
  rw [if_pos (by rw [List.size_toArray, kc_len]), a1, Option.bind_some, a4d, Option.bind_some, h5, bnd_ok, l5, Option.bind_some, sameK_self, begin_built h (firstH_len S h), Option.bind_some,
    if_pos (by rw [List.size_toArray, stCells_len h 0 (firstH_len S h) (List.length_replicate ..)]), c1, Option.bind_some, c4, Option.bind_some]

theorem built99 (cs : List Value) (hc : cs.length = 142) : prog.built 184 [(0, (.agg cs.toArray))] = some cs.toArray :=
  built_one (P := prog) (t := 184) (it := t184) (f := { name := "state", type := 180, offset := 0, embedded := true, tag := "", pkgPath := "coffer/digest", byteOffset := 0 }) (z := .agg z180) (by kernel_rfl) (by kernel_rfl) (by kernel_rfl) (i := t180) (by kernel_rfl) rfl (by rw [hc]; kernel_rfl) (by kernel_rfl)

/-- A stream that was begun here: its parts, all of them. -/
theorem New_ok {K : Nat} (hK : 18446744073709551616 ≤ K) (h : Int) {S : List Int} (hS : S.length = 16) (hin : ∀ i, InK .u64 (S.getD i 0)) {w : World} (hT : Rd w ⟨4, 0, none⟩ (ints .u64 S)) :
    ∃ w' g, digest_New K h w = some (((if known h = true then some ⟨g, 0, none⟩ else none), (if known h = true then 0 else 10), ()), w') ∧ Upd none_ w w' ∧ w.heap.size ≤ g ∧
      (known h = true → Bk 184 w' g (stCells h 0 (firstH S h) half0)) := by
  obtain ⟨w1, h1, u1⟩ := begin_ok hK h hS hin hT
  obtain ⟨w2, n2, b2, u2, z2⟩ := newB_ok z180 180 w1
  have hcl := stCells_len h 0 (firstH_len S h) (List.length_replicate (n := 128) (a := (0 : Int)))
  obtain ⟨w3, c1, c2, c3, c4⟩ := lay b2 (vs := stCells h 0 (firstH S h) half0) (by rw [hcl]; rfl) (stCells_one _ _ _ _)
  have q3 : Upd none_ w w3 := (u1.and0 u2).trans' c3 fun k hk e => by have h1 := u1.size; have e : k = w1.heap.size := e; omega
  rw [hcl] at c4
  have hs1 := u1.size
  have hs3 := q3.size
  unfold digest_New
  rw [h1, bnd_ok, n2, bnd_ok]
  dsimp only
  rw [if_pos (by rw [List.size_toArray, hcl]), c1, Option.bind_some]
  cases hk : known h with
  | true =>
    obtain ⟨w4, n4, b4, u4, z4⟩ := newB_ok (stCells h 0 (firstH S h) half0).toArray 184 w3
    refine ⟨w4, w3.heap.size, ?_, q3.and0 u4, by omega, fun _ => b4⟩
    rw [if_neg (by decide), c4, Option.bind_some, built99 _ hcl, Option.bind_some, n4, bnd_ok]
    rfl
  | false =>
    refine ⟨w3, w.heap.size, ?_, q3, Nat.le_refl _, fun e => by cases e⟩
    rw [if_pos (by decide)]
    rfl

end Go.Sh

/- Parts: a slice of slices of bytes: how many bytes they are, joined, lent. -/
set_option linter.unusedVariables false
namespace Go.Sh
open Go.Fw Go.Sha Go.RowKit Go.Proofs.Tryd

abbrev slV (s : Sl) : Value := .slice s.a s.len s.cap
abbrev nilS : Sl := ⟨none, 0, 0⟩

theorem ldS_rd {w : World} {p : Addr} {ss : List Sl} (h : Rd w p (ss.map slV)) {i : Nat} (hi : i < ss.length) : ldS (p.add i) w = some (ss.getD i nilS) := by
  have := h i (slV (ss.getD i nilS)) (by simp [List.getD_eq_getElem?_getD, hi])
  simp [ldS, this, asS, slV]

/-- A slice of slices of bytes; all that it leads to lies in blocks of Q. -/
structure Parts (w : World) (s : Sl) (xss : List (List Int)) (Q : Nat → Prop) : Prop where
  len : s.len = xss.length
  cap : s.len ≤ s.cap
  inn : ∀ xs ∈ xss, ∀ x ∈ xs, InK .u8 x
  lens : ∀ xs ∈ xss, xs.length ≤ 140737488351232
  many : xss.length * 24 ≤ 140737488351232
  rd : xss = [] ∨ ∃ (p : Addr) (ss : List Sl), s.a = some p ∧ ss.length = xss.length ∧ Q p.block ∧ Rd w p (ss.map slV) ∧
    ∀ i, i < xss.length → Src w (ss.getD i nilS) (ints .u8 (xss.getD i [])) ∧ ∀ q, (ss.getD i nilS).a = some q → xss.getD i [] ≠ [] → Q q.block ∧ q.block < w.heap.size

theorem Parts.upd {w w' : World} {s : Sl} {xss : List (List Int)} {Q S : Nat → Prop} (h : Parts w s xss Q) (u : Upd S w w') (hn : ∀ k, Q k → ¬ S k) : Parts w' s xss Q :=
  ⟨h.len, h.cap, h.inn, h.lens, h.many, h.rd.imp id fun ⟨p, ss, h1, h2, h3, h4, h5⟩ => ⟨p, ss, h1, h2, h3, h4.upd u fun _ => hn _ h3,
    fun i hi => ⟨src_updW (h5 i hi).1 u fun q hq hne => hn _ ((h5 i hi).2 q hq hne).1, fun q hq hne => ⟨((h5 i hi).2 q hq hne).1, Nat.lt_of_lt_of_le ((h5 i hi).2 q hq hne).2 u.size⟩⟩⟩⟩
theorem Parts.upd0 {w w' : World} {s : Sl} {xss : List (List Int)} {Q : Nat → Prop} (h : Parts w s xss Q) (u : Upd none_ w w') : Parts w' s xss Q := h.upd u fun _ _ => id
theorem Parts.mono {w : World} {s : Sl} {xss : List (List Int)} {Q R : Nat → Prop} (h : Parts w s xss Q) (hn : ∀ k, Q k → R k) : Parts w s xss R :=
  ⟨h.len, h.cap, h.inn, h.lens, h.many, h.rd.imp id fun ⟨p, ss, h1, h2, h3, h4, h5⟩ => ⟨p, ss, h1, h2, hn _ h3, h4, fun i hi => ⟨(h5 i hi).1, fun q hq hne => ⟨hn _ ((h5 i hi).2 q hq hne).1, ((h5 i hi).2 q hq hne).2⟩⟩⟩⟩

/-- A slice of slices of bytes that came in: of its empty parts nothing is known but that. -/
structure PartsW (w : World) (s : Sl) (xss : List (List Int)) (Q : Nat → Prop) : Prop where
  len : s.len = xss.length
  cap : s.len ≤ s.cap
  inn : ∀ xs ∈ xss, ∀ x ∈ xs, InK .u8 x
  lens : ∀ xs ∈ xss, xs.length ≤ 140737488351232
  many : xss.length * 24 ≤ 140737488351232
  rd : xss = [] ∨ ∃ (p : Addr) (ss : List Sl), s.a = some p ∧ ss.length = xss.length ∧ Q p.block ∧ Rd w p (ss.map slV) ∧
    ∀ i, i < xss.length → Src w (ss.getD i nilS) (ints .u8 (xss.getD i [])) ∧ ∀ q, (ss.getD i nilS).a = some q → xss.getD i [] ≠ [] → Q q.block

theorem src_upd {S : Nat → Prop} {w w' : World} {s : Sl} {vs : List Value} (h : Src w s vs) (u : Upd S w w') (hn : ∀ p, s.a = some p → vs ≠ [] → ¬ S p.block) : Src w' s vs :=
  ⟨h.len, h.cap, h.rd.imp id fun ⟨p, hp, hr⟩ => ⟨p, hp, hr.upd u fun hne => hn p hp hne⟩, h.one⟩

theorem ints_ne {κ : IntKind} {xs : List Int} (h : ints κ xs ≠ []) : xs ≠ [] := fun e => h (by rw [e]; rfl)

theorem PartsW.upd {w w' : World} {s : Sl} {xss : List (List Int)} {Q S : Nat → Prop} (h : PartsW w s xss Q) (u : Upd S w w') (hn : ∀ k, Q k → ¬ S k) : PartsW w' s xss Q :=
  ⟨h.len, h.cap, h.inn, h.lens, h.many, h.rd.imp id fun ⟨p, ss, h1, h2, h3, h4, h5⟩ => ⟨p, ss, h1, h2, h3, h4.upd u fun _ => hn _ h3,
    fun i hi => ⟨src_upd (h5 i hi).1 u fun q hq hne => hn _ ((h5 i hi).2 q hq (ints_ne hne)), (h5 i hi).2⟩⟩⟩
theorem PartsW.upd0 {w w' : World} {s : Sl} {xss : List (List Int)} {Q : Nat → Prop} (h : PartsW w s xss Q) (u : Upd none_ w w') : PartsW w' s xss Q := h.upd u fun _ _ => id
theorem PartsW.at {w : World} {s : Sl} {xss : List (List Int)} {Q : Nat → Prop} (h : PartsW w s xss Q) {i : Nat} (hi : i < xss.length) :
    ∃ p t, s.a = some p ∧ ldS (p.add i) w = some t ∧ Src w t (ints .u8 (xss.getD i [])) ∧ t.len = (xss.getD i []).length ∧ (xss.getD i []).length ≤ 140737488351232 ∧ ∀ x ∈ xss.getD i [], InK .u8 x := by
  rcases h.rd with e | ⟨p, ss, h1, h2, h3, h4, h5⟩
  · rw [e] at hi; simp at hi
  · have hm : xss.getD i [] ∈ xss := by rw [List.getD_eq_getElem?_getD, List.getElem?_eq_getElem hi]; exact List.getElem_mem hi
    have hs := (h5 i hi).1
    exact ⟨p, _, h1, ldS_rd h4 (by omega), hs, by rw [hs.len, ints_length], h.lens _ hm, h.inn _ hm⟩

/-- the part at i -/
theorem Parts.at {w : World} {s : Sl} {xss : List (List Int)} {Q : Nat → Prop} (h : Parts w s xss Q) {i : Nat} (hi : i < xss.length) :
    ∃ p t, s.a = some p ∧ ldS (p.add i) w = some t ∧ Src w t (ints .u8 (xss.getD i [])) ∧ (∀ q, t.a = some q → xss.getD i [] ≠ [] → Q q.block ∧ q.block < w.heap.size) ∧ t.len = (xss.getD i []).length ∧ (xss.getD i []).length ≤ 140737488351232 ∧ ∀ x ∈ xss.getD i [], InK .u8 x := by
  rcases h.rd with e | ⟨p, ss, h1, h2, h3, h4, h5⟩
  · rw [e] at hi; simp at hi
  · have hm : xss.getD i [] ∈ xss := by rw [List.getD_eq_getElem?_getD, List.getElem?_eq_getElem hi]; exact List.getElem_mem hi
    have hs := (h5 i hi).1
    exact ⟨p, _, h1, ldS_rd h4 (by omega), hs, (h5 i hi).2, by rw [hs.len, ints_length], h.lens _ hm, h.inn _ hm⟩

theorem drop_getD {α : Type} {l : List α} {i : Nat} (hi : i < l.length) (d : α) : l.drop i = l.getD i d :: l.drop (i + 1) := by
  rw [List.drop_eq_getElem_cons hi, List.getD_eq_getElem?_getD, List.getElem?_eq_getElem hi]; rfl

/-- how many bytes they are, or more than MaxFed -/
def totB (acc : Nat) : List (List Int) → Nat
  | [] => acc
  | xs :: r => if acc + xs.length > 33554432 then acc + xs.length else totB (acc + xs.length) r

theorem totB_le : ∀ (xss : List (List Int)) (acc : Nat), acc ≤ 33554432 → (totB acc xss ≤ 33554432 ↔ acc + xss.flatten.length ≤ 33554432) ∧ (totB acc xss ≤ 33554432 → totB acc xss = acc + xss.flatten.length)
  | [], acc, h => by simp [totB, h]
  | xs :: r, acc, h => by
    unfold totB
    rw [List.flatten_cons, List.length_append]
    split
    · constructor
      · constructor <;> intro _ <;> omega
      · intro _; omega
    · have := totB_le r (acc + xs.length) (by omega)
      rw [← Nat.add_assoc]; exact this

theorem totB_lt : ∀ (xss : List (List Int)) (acc : Nat), acc ≤ 33554432 → (∀ xs ∈ xss, xs.length ≤ 140737488351232) → totB acc xss ≤ 140737521905664
  | [], acc, h, _ => by simp only [totB]; omega
  | xs :: r, acc, h, hl => by
    have h0 := hl xs (List.mem_cons_self ..)
    unfold totB
    split
    · omega
    · exact totB_lt r _ (by omega) fun x hx => hl x (List.mem_cons_of_mem _ hx)

theorem total_loop (K : Nat) {s : Sl} {xss : List (List Int)} {Q : Nat → Prop} {w : World} (h : Parts w s xss Q) :
    ∀ (d i n acc : Nat), i + d = xss.length → d < n → acc ≤ 33554432 → digest_total_l0 K n (acc : Int) s ((s.len : Nat) : Int) (i : Int) w = some (.norm (((totB acc (xss.drop i) : Nat) : Int), ())) := by
  intro d
  have hm := h.many
  induction d with
  | zero =>
    intro i n acc hi hn ha
    obtain ⟨n, rfl⟩ : ∃ m, n = m + 1 := ⟨n - 1, by omega⟩
    have hd : decide ((i : Int) < ((s.len : Nat) : Int)) = false := by rw [h.len]; simp; omega
    show digest_total_l0_b K w (fun a b c d => digest_total_l0 K n a b c d w) (acc : Int) s ((s.len : Nat) : Int) (i : Int) = _
    unfold digest_total_l0_b
    rw [hd, if_neg (by decide), List.drop_eq_nil_of_le (by omega)]
    rfl
  | succ d ih =>
    intro i n acc hi hn ha
    obtain ⟨n, rfl⟩ : ∃ m, n = m + 1 := ⟨n - 1, by omega⟩
    have hd : decide ((i : Int) < ((s.len : Nat) : Int)) = true := by rw [h.len]; simp; omega
    obtain ⟨p, t, h1, h2, h3, h4, h5, h6, h7⟩ := h.at (i := i) (by omega)
    have c : (0 : Int) ≤ (i : Int) ∧ (i : Int) < ((s.len : Nat) : Int) := by rw [h.len]; omega
    have e1 : IntKind.i64.wrap ((i : Int) + 1) = ((i + 1 : Nat) : Int) := by rw [w64 (by omega) (by omega)]; rfl
    have e2 : IntKind.i64.wrap ((acc : Int) + (((xss.getD i []).length : Nat) : Int)) = ((acc + (xss.getD i []).length : Nat) : Int) := by rw [w64 (by omega) (by omega)]; rfl
    show digest_total_l0_b K w (fun a b c d => digest_total_l0 K n a b c d w) (acc : Int) s ((s.len : Nat) : Int) (i : Int) = _
    unfold digest_total_l0_b
    rw [hd, if_pos rfl, h1, Option.bind_some, if_pos c, Int.toNat_natCast, Nat.mul_one, h2, Option.bind_some, h5, e2, e1, drop_getD (by omega) []]
    unfold totB
    by_cases hb : acc + (xss.getD i []).length > 33554432
    · have hd2 : decide (((acc + (xss.getD i []).length : Nat) : Int) > 33554432) = true := by simp only [decide_eq_true_eq]; omega
      rw [hd2, if_pos rfl, if_pos hb]
    · have hd2 : decide (((acc + (xss.getD i []).length : Nat) : Int) > 33554432) = false := by simp only [decide_eq_false_iff_not]; omega
      rw [hd2, if_neg (by decide), if_neg hb]
      exact ih (i + 1) n _ (by omega) (by omega) (by omega)

theorem total_ok {K : Nat} (hK : 18446744073709551616 ≤ K) {s : Sl} {xss : List (List Int)} {Q : Nat → Prop} {w : World} (h : Parts w s xss Q) :
    digest_total K s w = some (((totB 0 xss : Nat) : Int), ()) := by
  have hm := h.many
  have hl := total_loop K h xss.length 0 K 0 (by omega) (by omega) (by omega)
  rw [List.drop_zero] at hl
  have hl : digest_total_l0 K K 0 s ((s.len : Nat) : Int) 0 w = _ := hl
  unfold digest_total
  rw [hl, Option.bind_some]

end Go.Sh

/- Sum of package digest: Write and Sum of a stream, whole. -/
set_option linter.unusedVariables false
namespace Go.Sh
open Go.Fw Go.Sha Go.RowKit Go.Proofs.Tryd

/-- The tables of the program. -/
structure Tabs (w : World) (C S : List Int) : Prop where
  cl : C.length = 80
  sl : S.length = 16
  sin : ∀ i, InK .u64 (S.getD i 0)
  gc : Rd w ⟨3, 0, none⟩ (ints .u64 C)
  gs : Rd w ⟨4, 0, none⟩ (ints .u64 S)

theorem Tabs.upd {w w' : World} {C S : List Int} {X : Nat → Prop} (t : Tabs w C S) (u : Upd X w w') (hn : ∀ k, k < 5 → ¬ X k) : Tabs w' C S :=
  ⟨t.cl, t.sl, t.sin, t.gc.upd u fun _ => hn _ (by decide), t.gs.upd u fun _ => hn _ (by decide)⟩
theorem Tabs.upd0 {w w' : World} {C S : List Int} (t : Tabs w C S) (u : Upd none_ w w') : Tabs w' C S := t.upd u fun _ _ => id
theorem Tabs.drew {w : World} {C S : List Int} (t : Tabs w C S) : Tabs w.drew C S := t.upd0 (Upd.refl _ _).drew
theorem Tabs.lt {w : World} {C S : List Int} (t : Tabs w C S) : 5 ≤ w.heap.size := by
  have := t.gs.lt (fun e => by have := congrArg List.length e; simp [t.sl] at this)
  have : 4 < w.heap.size := this
  omega

/-- The tables of the program and of the document's answer. -/
structure TabsR (w : World) (C S : List Int) : Prop where
  to : Tabs w C S
  rc : Rd w ⟨2, 0, none⟩ (ints .u64 C)
  rs : Rd w ⟨1, 0, none⟩ (ints .u64 S)

theorem TabsR.upd {w w' : World} {C S : List Int} {X : Nat → Prop} (t : TabsR w C S) (u : Upd X w w') (hn : ∀ k, k < 5 → ¬ X k) : TabsR w' C S :=
  ⟨t.to.upd u hn, t.rc.upd u fun _ => hn _ (by decide), t.rs.upd u fun _ => hn _ (by decide)⟩
theorem TabsR.upd0 {w w' : World} {C S : List Int} (t : TabsR w C S) (u : Upd none_ w w') : TabsR w' C S := t.upd u fun _ _ => id
theorem TabsR.lt {w : World} {C S : List Int} (t : TabsR w C S) : 5 ≤ w.heap.size := t.to.lt

/-- the digest of bytes; nothing of no such digest -/
def sumOf (C S : List Int) (h : Int) (xs : List Int) : List Int := if known h = true then digestOf h C (firstH S h) xs else []

theorem Write_loop {K : Nat} (hK : 18446744073709551616 ≤ K) {e : TypeId} {g : Nat} {cs0 : List Value} {h : Int} (hk : known h = true) {C H0 : List Int} (hC : C.length = 80) (hgC : g ≠ 3) {s : Sl} {xss : List (List Int)} {Q : Nat → Prop} (hQ : ¬ Q g) :
    ∀ (d i n : Nat) (w : World) (xs H half : List Int), i + d = xss.length → d < n → StAt w e g 0 cs0 h xs.length H half → Fed h C H0 xs H half → Rd w ⟨3, 0, none⟩ (ints .u64 C) → Parts w s xss Q → xs.length + (xss.drop i).flatten.length ≤ 140737488355328 →
      ∃ w' H' half', digest_Stream_Write_l0 K n (some ⟨g, 0, none⟩) s ((s.len : Nat) : Int) (i : Int) w = some ((), w') ∧ StAt w' e g 0 cs0 h (xs ++ (xss.drop i).flatten).length H' half' ∧ Fed h C H0 (xs ++ (xss.drop i).flatten) H' half' ∧ Upd (· = g) w w' := by
  intro d
  induction d with
  | zero =>
    intro i n w xs H half hi hn st f hT hp hl
    obtain ⟨n, rfl⟩ : ∃ m, n = m + 1 := ⟨n - 1, by omega⟩
    have hd : decide ((i : Int) < ((s.len : Nat) : Int)) = false := by rw [hp.len]; simp; omega
    have e0 : xs ++ (xss.drop i).flatten = xs := by rw [List.drop_eq_nil_of_le (by omega)]; simp
    refine ⟨w, H, half, ?_, by rw [e0]; exact st, by rw [e0]; exact f, Upd.refl _ _⟩
    show digest_Stream_Write_l0_b K (digest_Stream_Write_l0 K n) (some ⟨g, 0, none⟩) s ((s.len : Nat) : Int) (i : Int) w = _
    unfold digest_Stream_Write_l0_b
    rw [hd, if_neg (by decide)]
  | succ d ih =>
    intro i n w xs H half hi hn st f hT hp hl
    obtain ⟨n, rfl⟩ : ∃ m, n = m + 1 := ⟨n - 1, by omega⟩
    have hm := hp.many
    have hd : decide ((i : Int) < ((s.len : Nat) : Int)) = true := by rw [hp.len]; simp; omega
    obtain ⟨p, t, h1, h2, h3, h4, h5, h6, h7⟩ := hp.at (i := i) (by omega)
    have c : (0 : Int) ≤ (i : Int) ∧ (i : Int) < ((s.len : Nat) : Int) := by rw [hp.len]; omega
    have e1 : IntKind.i64.wrap ((i : Int) + 1) = ((i + 1 : Nat) : Int) := by rw [w64 (by omega) (by omega)]; rfl
    have hdr : (xss.drop i).flatten = xss.getD i [] ++ (xss.drop (i + 1)).flatten := by rw [drop_getD (by omega) [], List.flatten_cons]
    rw [hdr, List.length_append] at hl
    obtain ⟨w1, H1, half1, a1, a2, a3, a4⟩ := take_ok hK hk st f hC hgC hT h7 (by omega) h3 (fun q hq hne e => hQ (e ▸ (h4 q hq hne).1)) (fun q hq hne => (h4 q hq hne).2)
    obtain ⟨w2, H2, half2, b1, b2, b3, b4⟩ := ih (i + 1) n w1 (xs ++ xss.getD i []) H1 half1 (by omega) (by omega) a2 a3 (hT.upd a4 fun _ e => hgC e.symm) (hp.upd a4 fun k hk e => hQ (e ▸ hk)) (by rw [List.length_append]; omega)
    rw [List.append_assoc, ← hdr] at b2 b3
    refine ⟨w2, H2, half2, ?_, b2, b3, a4.trans' b4 fun _ _ e => e⟩
    show digest_Stream_Write_l0_b K (digest_Stream_Write_l0 K n) (some ⟨g, 0, none⟩) s ((s.len : Nat) : Int) (i : Int) w = _
    unfold digest_Stream_Write_l0_b
    rw [hd, if_pos rfl, h1, Option.bind_some, if_pos c, Int.toNat_natCast, Nat.mul_one, h2, Option.bind_some, Option.bind_some, add_lit, Nat.add_zero, a1, bnd_ok, e1, b1]

theorem tot_wrap {xss : List (List Int)} (hl : ∀ xs ∈ xss, xs.length ≤ 140737488351232) {n : Nat} (hn : n ≤ 33554432) : IntKind.u64.wrap ((n : Int) + IntKind.u64.wrap ((totB 0 xss : Nat) : Int)) = ((n + totB 0 xss : Nat) : Int) := by
  have := totB_lt xss 0 (by omega) hl
  rw [IntKind.wrap_u64, IntKind.wrap_u64]; omega

theorem Write_ok {K : Nat} (hK : 18446744073709551616 ≤ K) {w : World} {e : TypeId} {g : Nat} {cs0 : List Value} {h : Int} (hk : known h = true) {C H0 xs H half : List Int} (hC : C.length = 80) (hgC : g ≠ 3) (st : StAt w e g 0 cs0 h xs.length H half) (f : Fed h C H0 xs H half)
    (hT : Rd w ⟨3, 0, none⟩ (ints .u64 C)) {s : Sl} {xss : List (List Int)} {Q : Nat → Prop} (hQ : ¬ Q g) (hp : Parts w s xss Q) (hl : xs.length + xss.flatten.length ≤ 33554432) :
    ∃ w' H' half', digest_Stream_Write K (some ⟨g, 0, none⟩) s w = some ((0, ()), w') ∧ StAt w' e g 0 cs0 h (xs ++ xss.flatten).length H' half' ∧ Fed h C H0 (xs ++ xss.flatten) H' half' ∧ Upd (· = g) w w' := by
  obtain ⟨l1, l5, l3⟩ := st.drew.ld hk
  have hpd := hp.upd0 (Upd.refl none_ w).drew
  have ht := total_ok hK hpd
  obtain ⟨w2, H2, half2, b1, b2, b3, b4⟩ := Write_loop hK hk hC hgC hQ xss.length 0 K w.drew xs H half (by omega) (by have := hp.many; omega) st.drew f (hT.upd (S := none_) (Upd.refl _ _).drew fun _ => id) hpd (by rw [List.drop_zero]; omega)
  rw [List.drop_zero] at b2 b3
  have b1 : digest_Stream_Write_l0 K K (some ⟨g, 0, none⟩) s ((s.len : Nat) : Int) 0 w.drew = _ := b1
  have htl := totB_le xss 0 (by omega)
  have h1 : totB 0 xss ≤ 33554432 := htl.1.2 (by omega)
  have h2 := htl.2 h1
  have hd : decide (((xs.length + totB 0 xss : Nat) : Int) > 33554432) = false := by simp only [decide_eq_false_iff_not]; omega
  refine ⟨w2, H2, half2, ?_, b2, b3, b4.predrew⟩
  unfold digest_Stream_Write
  rw [if_neg (by simp), Option.bind_some, add_lit, add_lit, l5, Option.bind_some, ht, Option.bind_some]
  dsimp only
  rw [tot_wrap hp.lens (by omega), hd, if_neg (by decide), b1, bnd_ok]

theorem Ans.mono {B B' : Nat} {w : World} {s : Sl} {zs : List Int} (h : Ans B w s zs) (hb : B' ≤ B) : Ans B' w s zs := by
  obtain ⟨⟨g, cs, h1, h2, h3⟩, h4, h5⟩ := h
  exact ⟨⟨g, cs, h1, by omega, h3⟩, h4, h5⟩
theorem Ans.upd {B : Nat} {w w' : World} {s : Sl} {zs : List Int} {X : Nat → Prop} (h : Ans B w s zs) (u : Upd X w w') (hn : ∀ k, s.blk = some k → ¬ X k) : Ans B w' s zs := by
  obtain ⟨⟨g, cs, h1, h2, h3, h6⟩, h4, h5⟩ := h
  exact ⟨⟨g, cs, h1, h2, h3.upd u (hn g (by simp [Sl.blk, h1])), h6⟩, h4, h5⟩
theorem Ans.upd0 {B : Nat} {w w' : World} {s : Sl} {zs : List Int} (h : Ans B w s zs) (u : Upd none_ w w') : Ans B w' s zs := h.upd u fun _ _ => id
theorem Ans.src {B : Nat} {w : World} {s : Sl} {zs : List Int} (h : Ans B w s zs) : Src w s (ints .u8 zs) := by
  obtain ⟨⟨g, cs, h1, h2, h3, h4, h5⟩, h6, h7⟩ := h
  refine ⟨by rw [ints_length]; exact h6, by omega, .inr ⟨_, h1, h3.rd 0 _ fun i v hv => ?_⟩, ints_one⟩
  rw [← h4, List.getElem?_take] at hv
  split at hv
  · rw [Nat.zero_add]; exact hv
  · cases hv
theorem Ans.rd {B : Nat} {w : World} {s : Sl} {zs : List Int} (h : Ans B w s zs) : RdS .u8 w s zs := h.src.rds
theorem Ans.vw {B : Nat} {w : World} {s : Sl} {zs : List Int} (h : Ans B w s zs) (hm : zs.length ≤ 65536) : Vw 5 w s (ints .u8 zs) := by
  obtain ⟨⟨g, cs, h1, h2, h3, h4, h5⟩, h6, h7⟩ := h
  refine ⟨by rw [ints_length]; exact h6.symm, .inr ⟨g, 0, cs, h1, h3, by omega, by simp only [maxLen]; omega, by omega, ?_⟩⟩
  rw [List.drop_zero, h6]; exact h4
theorem Ans.lt {B : Nat} {w : World} {s : Sl} {zs : List Int} (h : Ans B w s zs) {k : Nat} (hk : s.blk = some k) : k < w.heap.size := by
  obtain ⟨⟨g, cs, h1, h2, h3, _⟩, _⟩ := h
  simp [Sl.blk, h1] at hk; have := h3.lt; omega

theorem StreamSum_ok {K : Nat} (hK : 18446744073709551616 ≤ K) {w : World} {e : TypeId} {g : Nat} {cs0 : List Value} {h : Int} (hk : known h = true) {C H0 xs H half : List Int} (hC : C.length = 80) (st : StAt w e g 0 cs0 h xs.length H half) (f : Fed h C H0 xs H half)
    (hT : Rd w ⟨3, 0, none⟩ (ints .u64 C)) (hl : xs.length ≤ 1099511627776) :
    ∃ s' w', digest_Stream_Sum K (some ⟨g, 0, none⟩) w = some ((s', ()), w') ∧ Ans w.heap.size w' s' (digestOf h C H0 xs) ∧ Upd none_ w w' := by
  have hsl := stCells_len h xs.length st.words st.len
  have hrm := st.room
  have lA := st.bk.ldA (i := 0) (n := 142) (by rw [seg_length (by omega)]; omega)
  have e0 : ((seg cs0 0 (stCells h xs.length H half)).drop 0).take 142 = stCells h xs.length H half := by
    unfold seg
    rw [List.drop_zero, List.take_zero, List.nil_append, List.take_append_of_le_length (by omega), List.take_of_length_le (by omega)]
  rw [e0] at lA
  obtain ⟨s', w', h1, h2, h3⟩ := end_ok hK hk f st.words st.inn hC hT hl
  refine ⟨s', w', ?_, h2, h3⟩
  unfold digest_Stream_Sum
  rw [if_neg (by simp), Option.bind_some, add_lit, lA, Option.bind_some, h1, bnd_ok]

theorem half0_in : ∀ x ∈ half0, InK .u8 x := by
  intro x hx
  rw [(List.mem_replicate.1 hx).2]; exact ⟨by decide, by decide⟩

/-- a stream that was begun here -/
theorem New_st {K : Nat} (hK : 18446744073709551616 ≤ K) {h : Int} (hk : known h = true) {C S : List Int} {w : World} (T : Tabs w C S) :
    ∃ w' g, digest_New K h w = some ((some ⟨g, 0, none⟩, 0, ()), w') ∧ Upd none_ w w' ∧ w.heap.size ≤ g ∧ StAt w' 184 g 0 (stCells h 0 (firstH S h) half0) h ([] : List Int).length (firstH S h) half0 ∧ Fed h C (firstH S h) [] (firstH S h) half0 := by
  obtain ⟨w1, g, h1, h2, h3, h4⟩ := New_ok hK h T.sl T.sin T.gs
  rw [if_pos hk, if_pos hk] at h1
  refine ⟨w1, g, h1, h2, h3, ⟨?_, by rw [stCells_len h 0 (firstH_len S h) (List.length_replicate ..)]; decide, firstH_len S h, List.length_replicate .., half0_in⟩, Fed.start ..⟩
  have : seg (stCells h 0 (firstH S h) half0) 0 (stCells h ([] : List Int).length (firstH S h) half0) = stCells h 0 (firstH S h) half0 := seg_self
  rw [this]; exact h4 hk

theorem Sum_ok {K : Nat} (hK : 18446744073709551616 ≤ K) {h : Int} (hk : known h = true) {C S : List Int} {w : World} (T : Tabs w C S) {s : Sl} {xss : List (List Int)} {Q : Nat → Prop} (hp : Parts w s xss Q) (hQ : ∀ k, Q k → k < w.heap.size) (hl : xss.flatten.length ≤ 33554432) :
    ∃ s' w', digest_Sum K h s w = some ((s', 0, ()), w') ∧ Ans w.heap.size w' s' (digestOf h C (firstH S h) xss.flatten) ∧ Upd none_ w w' := by
  have h4 := T.lt
  obtain ⟨w1, g, h1, u1, hg, st, f⟩ := New_st hK hk T
  have T1 := T.upd0 u1
  obtain ⟨w2, H2, half2, h2, st2, f2, u2⟩ := Write_ok hK hk T.cl (by omega) st f T1.gc (fun e => by have := hQ g e; omega) (hp.upd0 u1) (by simpa using hl)
  have T2 := T1.upd u2 (fun k hk e => by omega)
  rw [List.nil_append] at st2 f2
  obtain ⟨s3, w3, h3, a3, u3⟩ := StreamSum_ok hK hk T.cl st2 f2 T2.gc (by omega)
  have hs1 := u1.size
  have hs2 := u2.size
  refine ⟨s3, w3, ?_, a3.mono (by omega), (u1.trans' u2 fun k hk e => by omega).and0 u3⟩
  unfold digest_Sum digest_Sum_s0
  rw [h1, bnd_ok]
  dsimp only
  rw [if_pos (by decide), h2, bnd_ok, bnd_ok]
  dsimp only
  rw [if_neg (by decide), h3, bnd_ok]

end Go.Sh

/- The document's answer's Sum, whole: it is the digest that the program tells. -/
set_option linter.unusedVariables false
namespace Go.Sh
open Go.Fw Go.Sha Go.RowKit Go.Proofs.Tryd

theorem padZ_iff {b len j : Nat} (hb : b = 64 ∨ b = 128) (hj : j ≤ padZ b (b / 8) len) : (len + 1 + j + b / 8) % b = 0 ↔ j = padZ b (b / 8) len := by
  unfold padZ at *
  rcases hb with rfl | rfl <;> omega

theorem laid_l0 (K B : Nat) {b0 : Sl} {bk : Nat} (hb : bk = 64 ∨ bk = 128) {len0 : Nat} (hl0 : len0 ≤ 1099511627776) {zs : List Int} (hz : zs.length = len0 + 1) :
    ∀ (d j n : Nat) (w : World) (p : Sl), j + d = padZ bk (bk / 8) len0 → d < n → OwnS 5 w p (ints .u8 (zs ++ List.replicate j 0)) → B ≤ w.heap.size → Fresh B p →
      ∃ p' w', ref01_laid_l0 K n b0 (bk : Int) p w = some ((p', ()), w') ∧ OwnS 5 w' p' (ints .u8 (zs ++ List.replicate (padZ bk (bk / 8) len0) 0)) ∧ Below B w w' ∧ Fresh B p' := by
  have hzl := padZ_lt (m := bk / 8) (len := len0) hb
  have hbk : bk ≤ 128 := by omega
  have e0 : IntKind.i64.wrap (Int.tdiv (bk : Int) 8) = ((bk / 8 : Nat) : Int) := by rw [show (8 : Int) = ((8 : Nat) : Int) from rfl, tdiv_nat, wn64 (by omega)]
  intro d
  induction d with
  | zero =>
    intro j n w p hj hn ho hB hf
    obtain ⟨n, rfl⟩ : ∃ m, n = m + 1 := ⟨n - 1, by omega⟩
    have hpl : p.len = len0 + 1 + j := by rw [ho.len, ints_length, List.length_append, List.length_replicate]; omega
    have e1 : IntKind.i64.wrap (((p.len : Nat) : Int) + ((bk / 8 : Nat) : Int)) = ((len0 + 1 + j + bk / 8 : Nat) : Int) := by rw [hpl, w64 (by omega) (by omega)]; omega
    have hd : (Int.tmod ((len0 + 1 + j + bk / 8 : Nat) : Int) (bk : Int) != 0) = false := by
      rw [tmod_nat]
      have := (padZ_iff hb (by omega)).2 (show j = padZ bk (bk / 8) len0 by omega)
      rw [this]; rfl
    refine ⟨p, w, ?_, by rw [show padZ bk (bk / 8) len0 = j by omega]; exact ho, Below.refl B w, hf⟩
    show ref01_laid_l0_b K (ref01_laid_l0 K n) b0 (bk : Int) p w = _
    unfold ref01_laid_l0_b
    rw [if_pos (by omega), e0, e1, hd, if_neg (by decide)]
  | succ d ih =>
    intro j n w p hj hn ho hB hf
    obtain ⟨n, rfl⟩ : ∃ m, n = m + 1 := ⟨n - 1, by omega⟩
    have hpl : p.len = len0 + 1 + j := by rw [ho.len, ints_length, List.length_append, List.length_replicate]; omega
    have e1 : IntKind.i64.wrap (((p.len : Nat) : Int) + ((bk / 8 : Nat) : Int)) = ((len0 + 1 + j + bk / 8 : Nat) : Int) := by rw [hpl, w64 (by omega) (by omega)]; omega
    have hd : (Int.tmod ((len0 + 1 + j + bk / 8 : Nat) : Int) (bk : Int) != 0) = true := by
      rw [tmod_nat]
      have := (padZ_iff hb (show j ≤ padZ bk (bk / 8) len0 by omega)).1
      simp only [bne_iff_ne, ne_eq]
      intro e
      have := this (by omega)
      omega
    obtain ⟨w1, s2, w2, h1, h2, o2, l2, bl2, hf2⟩ := push1 0 ho (by omega) hB hf
    have er : zs ++ List.replicate j 0 ++ [(0 : Int)] = zs ++ List.replicate (j + 1) 0 := by rw [List.append_assoc, List.replicate_succ']
    rw [er] at o2
    obtain ⟨s3, w3, h3, o3, bl3, hf3⟩ := ih (j + 1) n w2 s2 (by omega) (by omega) o2 (by have := bl2.size; omega) hf2
    refine ⟨s3, w3, ?_, o3, bl2.trans bl3, hf3⟩
    show ref01_laid_l0_b K (ref01_laid_l0 K n) b0 (bk : Int) p w = _
    unfold ref01_laid_l0_b
    rw [if_pos (by omega), e0, e1, hd, if_pos rfl, h1, bnd_ok]
    show bnd (apd prog 23 23 (.slice p.a p.len p.cap) (.slice (some ⟨w.heap.size, 0, none⟩) 1 1) w1) _ = _
    rw [h2, bnd_ok, h3]

/-- the number of bits, in so many bytes -/
def tailB (x : Int) : Nat → List Int
  | 0 => []
  | n + 1 => (if n ≥ 8 then 0 else IntKind.u8.wrap (Int.fdiv x (2 ^ (8 * n)))) :: tailB x n

theorem tailB_8 (x : Int) : tailB x 8 = bigB x 8 := rfl
theorem tailB_16 (x : Int) : tailB x 16 = List.replicate 8 0 ++ bigB x 8 := rfl

theorem laid_l1 (K B : Nat) {bits : Int} : ∀ (m n : Nat) (w : World) (p : Sl) (xs : List Int), m ≤ 16 → m < n → OwnS 5 w p (ints .u8 xs) → p.len + m ≤ 140737488355328 → B ≤ w.heap.size → Fresh B p →
    ∃ p' w', ref01_laid_l1 K n p bits ((m : Int) - 1) w = some ((p', ()), w') ∧ OwnS 5 w' p' (ints .u8 (xs ++ tailB bits m)) ∧ Below B w w' ∧ Fresh B p' := by
  intro m
  induction m with
  | zero =>
    intro n w s xs hm hn ho hs hB hf
    obtain ⟨n, rfl⟩ : ∃ k, n = k + 1 := ⟨n - 1, by omega⟩
    refine ⟨s, w, ?_, by simpa [tailB] using ho, Below.refl B w, hf⟩
    show ref01_laid_l1_b K (ref01_laid_l1 K n) s bits (((0 : Nat) : Int) - 1) w = _
    simp [ref01_laid_l1_b]
  | succ m ih =>
    intro n w s xs hm hn ho hs hB hf
    obtain ⟨n, rfl⟩ : ∃ k, n = k + 1 := ⟨n - 1, by omega⟩
    have e0 : (((m + 1 : Nat) : Int) - 1) = (m : Int) := by omega
    have hd : decide ((m : Int) ≥ 0) = true := by simp
    have e8 : IntKind.u64.wrap (IntKind.i64.wrap (8 * (m : Int))) = ((8 * m : Nat) : Int) := by rw [w64 (by omega) (by omega), IntKind.wrap_u64]; omega
    have e1 : IntKind.i64.wrap ((m : Int) - 1) = (m : Int) - 1 := w64 (by omega) (by omega)
    obtain ⟨w1, s2, w2, h1, h2, o2, l2, bl2, hf2⟩ := push1 (if m ≥ 8 then 0 else IntKind.u8.wrap (Int.fdiv bits (2 ^ (8 * m)))) ho (by omega) hB hf
    obtain ⟨s3, w3, h3, o3, bl3, hf3⟩ := ih n w2 s2 _ (by omega) (by omega) o2 (by omega) (by have := bl2.size; omega) hf2
    refine ⟨s3, w3, ?_, by simpa [tailB] using o3, bl2.trans bl3, hf3⟩
    show ref01_laid_l1_b K (ref01_laid_l1 K n) s bits (((m + 1 : Nat) : Int) - 1) w = _
    unfold ref01_laid_l1_b
    rw [e0, hd, if_pos rfl]
    by_cases h8 : m ≥ 8
    · have hd8 : decide ((m : Int) ≥ 8) = true := by simp; omega
      rw [if_pos h8] at h1
      rw [hd8, if_pos rfl, h1, bnd_ok]
      show bnd (apd prog 23 23 (.slice s.a s.len s.cap) (.slice (some ⟨w.heap.size, 0, none⟩) 1 1) w1) _ = _
      rw [h2, bnd_ok, e1, h3]
    · have hd8 : decide ((m : Int) ≥ 8) = false := by simp; omega
      have hmin : min (8 * m) IntKind.u64.bits = 8 * m := Nat.min_eq_left (by simp only [IntKind.bits]; omega)
      rw [if_neg h8] at h1
      rw [hd8, if_neg (by decide), e8, if_pos (Int.natCast_nonneg _), Int.toNat_natCast, hmin, h1, bnd_ok]
      show bnd (apd prog 23 23 (.slice s.a s.len s.cap) (.slice (some ⟨w.heap.size, 0, none⟩) 1 1) w1) _ = _
      rw [h2, bnd_ok, e1, h3]

theorem laid_ok {K : Nat} (hK : 18446744073709551616 ≤ K) {h : Int} (hk : known h = true) {w : World} {b : Sl} {xs : List Int} (hx : Src w b (ints .u8 xs)) (hl : xs.length ≤ 1099511627776) :
    ∃ p w', ref01_laid K b ((blk h : Nat) : Int) w = some ((p, ()), w') ∧ OwnS 5 w' p (ints .u8 (xs ++ pads h xs.length)) ∧ Upd none_ w w' ∧ Fresh w.heap.size p := by
  have hbl : b.len = xs.length := by rw [hx.len, ints_length]
  have hbk := known_blk hk
  have hwb := wordB_blk h
  have hzl := padZ_lt (m := blk h / 8) (len := xs.length) hbk
  obtain ⟨s1, w1, h1, l1, o1, u1, f1⟩ := apd_ok sliceB (OwnS.nil 5 w) hx (by show (0 + b.len) * 1 ≤ _; omega)
  rw [List.nil_append] at o1
  have h1 : apd prog 23 23 (.slice none 0 0) (.slice b.a b.len b.cap) w = some (s1, w1) := h1
  have u1' : Upd none_ w w1 := u1.mono fun k _ e => by cases e
  have hf1 : Fresh w.heap.size s1 := by
    intro k hk
    rcases f1 with e | e
    · rw [e] at hk; cases hk
    · rw [e] at hk; have := Option.some.inj hk; omega
  have l1 : s1.len = xs.length := by rw [o1.len, ints_length]
  obtain ⟨w2, s3, w3, h2, h3, o3, l3, bl3, hf3⟩ := push1 128 o1 (by omega) u1'.size hf1
  have hz : (xs ++ [(128 : Int)]).length = xs.length + 1 := by simp
  obtain ⟨s4, w4, h4, o4, bl4, hf4⟩ := laid_l0 K w.heap.size (b0 := b) hbk hl hz (padZ (blk h) (blk h / 8) xs.length) 0 K w3 s3 (by omega) (by omega) (by simpa using o3) (by have := bl3.size; have := u1'.size; omega) hf3
  have l4 : s4.len = xs.length + 1 + padZ (blk h) (blk h / 8) xs.length := by rw [o4.len, ints_length, List.length_append, List.length_replicate, hz]
  obtain ⟨s5, w5, h5, o5, bl5, hf5⟩ := laid_l1 K w.heap.size (bits := IntKind.u64.wrap (((xs.length : Nat) : Int) * 8)) (blk h / 8) K w4 s4 _ (by omega) (by omega) o4 (by omega) (by have := bl3.size; have := u1'.size; have := bl4.size; omega) hf4
  have b1 : Below w.heap.size w w1 := u1'.below (Nat.le_refl _) fun _ _ => id
  refine ⟨s5, w5, ?_, ?_, Upd.of_below (((b1.trans bl3).trans bl4).trans bl5), hf5⟩
  · have ed : IntKind.i64.wrap (Int.tdiv ((blk h : Nat) : Int) 8) = ((blk h / 8 : Nat) : Int) := by rw [show (8 : Int) = ((8 : Nat) : Int) from rfl, tdiv_nat, wn64 (by omega)]
    have em : IntKind.i64.wrap (((blk h / 8 : Nat) : Int) - 1) = ((blk h / 8 : Nat) : Int) - 1 := w64 (by omega) (by omega)
    have el : IntKind.u64.wrap ((b.len : Nat) : Int) = ((xs.length : Nat) : Int) := by rw [hbl, IntKind.wrap_u64]; omega
    unfold ref01_laid
    rw [h1, bnd_ok, h2, bnd_ok]
    dsimp only
    rw [h3, bnd_ok, h4, bnd_ok, ed, em, el, h5, bnd_ok]
  · have e8 : 2 * wordB h = blk h / 8 := by omega
    have : xs ++ pads h xs.length = xs ++ [128] ++ List.replicate (padZ (blk h) (blk h / 8) xs.length) 0 ++ tailB (IntKind.u64.wrap (((xs.length : Nat) : Int) * 8)) (blk h / 8) := by
      unfold pads
      rw [e8]
      rcases hbk with e | e <;> rw [e]
      · rw [show 64 / 8 = 8 from rfl, tailB_8]; simp [List.append_assoc]
      · rw [show 128 / 8 = 16 from rfl, tailB_16, show 16 - 8 = 8 from rfl, ← List.replicate_append_replicate]
        simp [List.append_assoc]
    rw [this]; exact o5

theorem refWide_l1 {K : Nat} (hK : 18446744073709551616 ≤ K) {p : Sl} {bs C : List Int} (hin : ∀ x ∈ bs, InK .u8 x) (hC : C.length = 80) {gh : Nat} (hgR : gh ≠ 2) (hlim : bs.length ≤ 140737488355328) {m0 : Nat} (hbs : bs.length = 128 * m0)
    (hpb : ∀ q, p.a = some q → q.block ≠ gh) {e : TypeId} :
    ∀ (m j n : Nat) (w : World) (V : List Int), m + j = m0 → m < n → V.length = 8 → (∀ q, p.a = some q → q.block < w.heap.size) → RdS .u8 w p bs → Bk e w gh (ints .u64 V) → Rd w ⟨2, 0, none⟩ (ints .u64 C) →
      ∃ w', ref01_Sum_l1 K n ⟨gh, 0, none⟩ p ((128 * j : Nat) : Int) w = some ((), w') ∧ Bk e w' gh (ints .u64 (comps64 C m V (bs.drop (128 * j)))) ∧ Upd (· = gh) w w' := by
  intro m
  induction m with
  | zero =>
    intro j n w V hj hn hV hpl hr hb hT
    obtain ⟨n, rfl⟩ : ∃ m, n = m + 1 := ⟨n - 1, by omega⟩
    refine ⟨w, ?_, hb, Upd.refl _ _⟩
    have hd : decide ((((128 * j : Nat)) : Int) < ((p.len : Nat) : Int)) = false := by rw [hr.len, hbs]; simp; omega
    show ref01_Sum_l1_b K (ref01_Sum_l1 K n) ⟨gh, 0, none⟩ p ((128 * j : Nat) : Int) w = _
    unfold ref01_Sum_l1_b
    rw [hd, if_neg (by decide)]
  | succ m ih =>
    intro j n w V hj hn hV hpl hr hb hT
    obtain ⟨n, rfl⟩ : ∃ m, n = m + 1 := ⟨n - 1, by omega⟩
    have hd : decide ((((128 * j : Nat)) : Int) < ((p.len : Nat) : Int)) = true := by rw [hr.len, hbs]; simp; omega
    have hpl2 := hr.len
    have hpc := hr.cap
    have e1 : IntKind.i64.wrap (((128 * j : Nat) : Int) + 128) = ((128 * (j + 1) : Nat) : Int) := by rw [w64 (by omega) (by omega)]; omega
    have c1 : (0 : Int) ≤ ((128 * (j + 1) : Nat) : Int) ∧ ((128 * (j + 1) : Nat) : Int) ≤ ((p.cap : Nat) : Int) := by omega
    have c2 : (0 : Int) ≤ ((128 * j : Nat) : Int) ∧ ((128 * j : Nat) : Int) ≤ ((128 * (j + 1) : Nat) : Int) := by omega
    have hsub := hr.drew.sub (lo := 128 * j) (hi := 128 * (j + 1)) (by omega) (by omega)
    have hl1 : ((bs.take (128 * (j + 1))).drop (128 * j)).length = 128 := by simp; omega
    have lA := hb.drew.ldA (i := 0) (n := 8) (by rw [ints_length, hV]; decide)
    rw [List.drop_zero, List.take_of_length_le (by rw [ints_length, hV]; decide)] at lA
    obtain ⟨w1, t1, u1⟩ := taken64_ok hK (V := V) (inD fun x hx => hin x (List.mem_of_mem_take (List.mem_of_mem_drop hx))) hl1 hV hC (fun q hq => by obtain ⟨r, hr1, hr2⟩ := sla_blk hq; have := hpl r hr1; rw [hr2]; exact this) hsub (hT.upd (S := none_) (Upd.refl _ _).drew fun _ => id)
    have hcl := comp64_len C V ((bs.take (128 * (j + 1))).drop (128 * j))
    obtain ⟨w2, s2, b2, u2⟩ := (hb.drew.upd0 u1).stA (o := 0) (vs := (ints .u64 (comp64 C V ((bs.take (128 * (j + 1))).drop (128 * j)))).toArray) (by rw [List.size_toArray, ints_length, ints_length, hcl, hV]; decide) (by simpa using ints_one)
    have b2 : Bk e w2 gh (ints .u64 (comp64 C V ((bs.take (128 * (j + 1))).drop (128 * j)))) := by
      have hs : seg (ints .u64 V) 0 (ints .u64 (comp64 C V ((bs.take (128 * (j + 1))).drop (128 * j)))) = ints .u64 (comp64 C V ((bs.take (128 * (j + 1))).drop (128 * j))) := seg_all (by rw [ints_length, ints_length, hcl, hV])
      rw [← hs]; exact b2
    have u12 : Upd (· = gh) w w2 := ((Upd.refl (· = gh) w).drew.and0 u1).trans' u2 fun _ _ e => e
    obtain ⟨w3, h3, b3, u3⟩ := ih (j + 1) n w2 _ (by omega) (by omega) hcl (fun q hq => by have := hpl q hq; have := u12.size; omega) (hr.upd u12 fun q hq => hpb q hq) b2 (hT.upd u12 fun _ e => hgR e.symm)
    have ec : comps64 C m (comp64 C V ((bs.take (128 * (j + 1))).drop (128 * j))) (bs.drop (128 * (j + 1))) = comps64 C (m + 1) V (bs.drop (128 * j)) := by
      have hf := compH_front 512 C V (bs.drop (128 * j)) 128 (by decide)
      have e5 : compH 512 C = comp64 C := by funext a b; rfl
      rw [e5] at hf
      show _ = comps64 C m (comp64 C V (bs.drop (128 * j))) ((bs.drop (128 * j)).drop 128)
      rw [List.drop_take, show 128 * (j + 1) - 128 * j = 128 by omega, hf, List.drop_drop, show 128 * j + 128 = 128 * (j + 1) by omega]
    rw [ec] at b3
    refine ⟨w3, ?_, b3, u12.trans' u3 fun _ _ e => e⟩
    show ref01_Sum_l1_b K (ref01_Sum_l1 K n) ⟨gh, 0, none⟩ p ((128 * j : Nat) : Int) w = _
    unfold ref01_Sum_l1_b
    rw [hd, if_pos rfl, e1, if_pos c1]
    simp only [Int.toNat_natCast]
    rw [if_pos c2, lA, Option.bind_some, t1, bnd_ok, if_pos (by rw [List.size_toArray, ints_length, hcl]), s2, Option.bind_some, h3]

theorem outW_take (H : List Int) (m : Nat) : ∀ k i, i ≤ k → (outW H m k).take (i * m) = outW H m i
  | 0, i, h => by have : i = 0 := by omega
                  subst this; simp [outW]
  | k + 1, i, h => by
    by_cases hk : i = k + 1
    · subst hk; rw [List.take_of_length_le (by rw [outW_len]; exact Nat.le_refl _)]
    · show ((outW H m k ++ bigB (H.getD k 0) m).take (i * m)) = _
      rw [List.take_append_of_le_length (by rw [outW_len]; exact Nat.mul_le_mul_right _ (by omega)), outW_take H m k i (by omega)]

theorem refOut_l3 (K B : Nat) {h : Int} {H : List Int} {gh : Nat} {e : TypeId} (hH : H.length = 8) (hgB : gh < B) {m0 i q : Nat} (hi : i < 8) (hq : sizeOfH h = (q : Int)) (hq2 : q ≤ 64) {n8 : Int} :
    ∀ (m n : Nat) (w : World) (s : Sl) (xs : List Int), m ≤ 8 → m < n → Bk e w gh (ints .u64 H) → OwnS 5 w s (ints .u8 xs) → xs.length + m ≤ q → B ≤ w.heap.size → Fresh B s →
      ∃ s' w', ref01_Sum_l3 K n h ⟨gh, 0, none⟩ n8 s (i : Int) ((m : Int) - 1) w = some ((s', ()), w') ∧ OwnS 5 w' s' (ints .u8 (xs ++ bigB (H.getD i 0) m)) ∧ Below B w w' ∧ Fresh B s' := by
  intro m
  induction m with
  | zero =>
    intro n w s xs hm hn hb ho hl hB hf
    obtain ⟨n, rfl⟩ : ∃ k, n = k + 1 := ⟨n - 1, by omega⟩
    refine ⟨s, w, ?_, by simpa [bigB] using ho, Below.refl B w, hf⟩
    show ref01_Sum_l3_b K (ref01_Sum_l3 K n) h ⟨gh, 0, none⟩ n8 s (i : Int) (((0 : Nat) : Int) - 1) w = _
    simp [ref01_Sum_l3_b, ref01_Sum_s4]
  | succ m ih =>
    intro n w s xs hm hn hb ho hl hB hf
    obtain ⟨n, rfl⟩ : ∃ k, n = k + 1 := ⟨n - 1, by omega⟩
    have hsl : s.len = xs.length := by rw [ho.len, ints_length]
    have e0 : (((m + 1 : Nat) : Int) - 1) = (m : Int) := by omega
    have hd : decide ((m : Int) ≥ 0) = true := by simp
    have hd2 : decide (((s.len : Nat) : Int) < (q : Int)) = true := by rw [hsl]; simp; omega
    have e8 : IntKind.u64.wrap (IntKind.i64.wrap (8 * (m : Int))) = ((8 * m : Nat) : Int) := by rw [w64 (by omega) (by omega), IntKind.wrap_u64]; omega
    have e1 : IntKind.i64.wrap ((m : Int) - 1) = (m : Int) - 1 := w64 (by omega) (by omega)
    have hmin : min (8 * m) IntKind.u64.bits = 8 * m := Nat.min_eq_left (by simp only [IntKind.bits]; omega)
    have c : (0 : Int) ≤ (i : Int) ∧ (i : Int) < ((8 : Nat) : Int) := by omega
    have lI : ldI .u64 ⟨gh, i, none⟩ w = some (H.getD i 0) := hb.ldI (by rw [ints_get (by omega)]; simp [List.getD_eq_getElem?_getD, show i < H.length by omega])
    obtain ⟨w1, s2, w2, h1, h2, o2, l2, bl2, hf2⟩ := push1 (IntKind.u8.wrap (Int.fdiv (H.getD i 0) (2 ^ (8 * m)))) ho (by omega) hB hf
    obtain ⟨s3, w3, h3, o3, bl3, hf3⟩ := ih n w2 s2 _ (by omega) (by omega) (hb.upd (upd_of_below bl2) (by omega)) o2 (by rw [List.length_append, List.length_singleton]; omega) (by have := bl2.size; omega) hf2
    refine ⟨s3, w3, ?_, by simpa [bigB] using o3, bl2.trans bl3, hf3⟩
    show ref01_Sum_l3_b K (ref01_Sum_l3 K n) h ⟨gh, 0, none⟩ n8 s (i : Int) (((m + 1 : Nat) : Int) - 1) w = _
    unfold ref01_Sum_l3_b ref01_Sum_s4
    rw [e0, hd, if_pos rfl, refSize_ok, Option.bind_some, hq, hd2, bnd_ok]
    dsimp only
    rw [if_pos rfl, if_pos c]
    simp only [Int.toNat_natCast, add_lit, Nat.mul_one, Nat.zero_add]
    rw [lI, Option.bind_some, e8, if_pos (Int.natCast_nonneg _), Int.toNat_natCast, hmin, h1, bnd_ok]
    dsimp only
    rw [h2, bnd_ok, e1, h3]

theorem refOut_l2 {K : Nat} (hK : 18446744073709551616 ≤ K) (B : Nat) {h : Int} {H : List Int} {gh : Nat} {e : TypeId} (hH : H.length = 8) (hgB : gh < B) {m0 i0 : Nat} (hm : 0 < m0) (hm8 : m0 ≤ 8) (hq : sizeOfH h = ((i0 * m0 : Nat) : Int)) (hi0 : i0 ≤ 8) (hq2 : i0 * m0 ≤ 64) :
    ∀ (d i n : Nat) (w : World) (s : Sl), i + d = i0 → d < n → Bk e w gh (ints .u64 H) → OwnS 5 w s (ints .u8 (outW H m0 i)) → B ≤ w.heap.size → Fresh B s →
      ∃ s' w', ref01_Sum_l2 K n h ⟨gh, 0, none⟩ (m0 : Int) s (i : Int) w = some ((s', ()), w') ∧ OwnS 5 w' s' (ints .u8 (outW H m0 i0)) ∧ Below B w w' ∧ Fresh B s' := by
  intro d
  induction d with
  | zero =>
    intro i n w s hi hn hb ho hB hf
    obtain ⟨n, rfl⟩ : ∃ k, n = k + 1 := ⟨n - 1, by omega⟩
    have hsl : s.len = i * m0 := by rw [ho.len, ints_length, outW_len]
    have hii : i = i0 := by omega
    subst hii
    have hd : decide (((s.len : Nat) : Int) < ((i * m0 : Nat) : Int)) = false := by rw [hsl]; simp
    refine ⟨s, w, ?_, ho, Below.refl B w, hf⟩
    show ref01_Sum_l2_b K (ref01_Sum_l2 K n) h ⟨gh, 0, none⟩ (m0 : Int) s (i : Int) w = _
    unfold ref01_Sum_l2_b
    rw [refSize_ok, Option.bind_some, hq, hd, if_neg (by decide)]
  | succ d ih =>
    intro i n w s hi hn hb ho hB hf
    obtain ⟨n, rfl⟩ : ∃ k, n = k + 1 := ⟨n - 1, by omega⟩
    have hsl : s.len = i * m0 := by rw [ho.len, ints_length, outW_len]
    have hlt : i * m0 + m0 ≤ i0 * m0 := by rw [← Nat.succ_mul]; exact Nat.mul_le_mul_right _ (by omega)
    have hd : decide (((s.len : Nat) : Int) < ((i0 * m0 : Nat) : Int)) = true := by rw [hsl]; simp only [decide_eq_true_eq]; omega
    have em : IntKind.i64.wrap ((m0 : Int) - 1) = (m0 : Int) - 1 := w64 (by omega) (by omega)
    have e1 : IntKind.i64.wrap ((i : Int) + 1) = ((i + 1 : Nat) : Int) := by rw [w64 (by omega) (by omega)]; rfl
    obtain ⟨s2, w2, h2, o2, bl2, hf2⟩ := refOut_l3 K B (h := h) hH hgB (m0 := m0) (i := i) (by omega) hq hq2 (n8 := (m0 : Int)) m0 K w s _ hm8 (by omega) hb ho (by rw [outW_len]; omega) hB hf
    obtain ⟨s3, w3, h3, o3, bl3, hf3⟩ := ih (i + 1) n w2 s2 (by omega) (by omega) (hb.upd (upd_of_below bl2) (by omega)) o2 (by have := bl2.size; omega) hf2
    refine ⟨s3, w3, ?_, o3, bl2.trans bl3, hf3⟩
    show ref01_Sum_l2_b K (ref01_Sum_l2 K n) h ⟨gh, 0, none⟩ (m0 : Int) s (i : Int) w = _
    unfold ref01_Sum_l2_b
    rw [refSize_ok, Option.bind_some, hq, hd, if_pos rfl, em, h2, bnd_ok, e1, h3]

theorem refSum_ok {K : Nat} (hK : 18446744073709551616 ≤ K) {h : Int} {C S : List Int} {w : World} (T : TabsR w C S) {b : Sl} {xs : List Int} (hx : Src w b (ints .u8 xs)) (hin : ∀ x ∈ xs, InK .u8 x) (hl : xs.length ≤ 1099511627776) :
    ∃ s' w', ref01_Sum K h b w = some ((s', ()), w') ∧ OwnS 5 w' s' (ints .u8 (sumOf C S h xs)) ∧ Upd none_ w w' ∧ Fresh w.heap.size s' := by
  unfold sumOf
  cases hk : known h with
  | false =>
    have hb0 : blockOfH h = 0 := by
      have q : h ≠ 224 ∧ h ≠ 256 ∧ h ≠ 384 ∧ h ≠ 512 := by simp [known] at hk; omega
      unfold blockOfH
      rw [if_neg (by omega), if_neg (by omega)]
    refine ⟨⟨none, 0, 0⟩, w, ?_, by simpa using OwnS.nil 5 w, Upd.refl _ _, fun k hk => by cases hk⟩
    unfold ref01_Sum
    rw [refBlock_ok, Option.bind_some, hb0]
    rfl
  | true =>
    have hb0 : blockOfH h = ((blk h : Nat) : Int) := by rcases known_cases hk with e | e | e | e <;> subst e <;> rfl
    have hbk := known_blk hk
    have hwb := wordB_blk h
    have hbp := blk_pos h
    obtain ⟨i0, hi0, hi8⟩ : ∃ i0 : Nat, sizeOfH h = ((i0 * wordB h : Nat) : Int) ∧ i0 ≤ 8 := by
      rcases known_cases hk with e | e | e | e <;> subst e
      · exact ⟨7, rfl, by decide⟩
      · exact ⟨8, rfl, by decide⟩
      · exact ⟨6, rfl, by decide⟩
      · exact ⟨8, rfl, by decide⟩
    have hsz : h / 8 = ((i0 * wordB h : Nat) : Int) := by rw [← hi0]; unfold sizeOfH; rw [if_pos hk]
    have hq2 : i0 * wordB h ≤ 64 := by
      have : i0 * wordB h ≤ 8 * 8 := Nat.mul_le_mul hi8 (by omega)
      omega
    obtain ⟨w1, h1, u1⟩ := refFirst_ok hK hk T.to.sl T.rs
    obtain ⟨w2, n2, b2, u2, z2⟩ := newB_ok z150 150 w1
    have b2 : Bk 150 w2 w1.heap.size z150.toList := b2
    have hfl : (ints .u64 (firstH S h)).length = 8 := by rw [ints_length, firstH_len]
    obtain ⟨w3, s3, b3, u3, _⟩ := lay' b2 (vs := ints .u64 (firstH S h)) (by rw [hfl]; rfl) ints_one
    have hz1 := u1.size
    have q3 : Upd none_ w w3 := (u1.and0 u2).trans' u3 fun k hk e => by omega
    have hz3 : w.heap.size ≤ w3.heap.size := q3.size
    have hxs3 := hx.upd0 q3
    obtain ⟨p, w4, h4, o4, u4, f4⟩ := laid_ok hK hk hxs3 hl
    have hlen := pads_len h xs.length
    have hzl := padZ_lt (m := 2 * wordB h) (len := xs.length) hbk
    have hin2 : ∀ x ∈ xs ++ pads h xs.length, InK .u8 x := fun x hx => (List.mem_append.1 hx).elim (hin x) (pads_in h _ x)
    have hpb : ∀ q, p.a = some q → q.block ≠ w1.heap.size := fun q hq e => by have := f4 q.block (by simp [Sl.blk, hq]); have := b3.lt; omega
    have hpl : ∀ q, p.a = some q → q.block < w4.heap.size := fun q hq => o4.lt (by simp [Sl.blk, hq])
    have b4 := b3.upd0 u4
    have T4 := T.upd0 (q3.and0 u4)
    have h4T := T.lt
    -- the words behind all blocks
    have key : ∃ w5, ref01_Sum_s0 K ⟨w1.heap.size, 0, none⟩ p ((IntKind.i64.wrap (Int.tdiv ((blk h : Nat) : Int) 16)) == 4) w4 = some ((), w5) ∧
        Bk 150 w5 w1.heap.size (ints .u64 (compsH h C ((xs ++ pads h xs.length).length / blk h) (firstH S h) (xs ++ pads h xs.length))) ∧ Upd (· = w1.heap.size) w4 w5 := by
      have hwhole := pads_whole h hk xs
      have hdm := Nat.div_add_mod (xs ++ pads h xs.length).length (blk h)
      obtain ⟨M, hM⟩ : ∃ M, (xs ++ pads h xs.length).length / blk h = M := ⟨_, rfl⟩
      rw [hwhole, hM, Nat.add_zero] at hdm
      rw [hM]
      have hlt : (xs ++ pads h xs.length).length ≤ 140737488355328 := by rw [List.length_append, hlen]; omega
      rcases hbk with e | e
      · have hn : narrowB h = true := by unfold blk at e; split at e <;> simp_all
        have hd : ((IntKind.i64.wrap (Int.tdiv ((blk h : Nat) : Int) 16)) == 4) = true := by rw [e]; rfl
        rw [e] at hdm
        obtain ⟨m, rfl⟩ : ∃ m, M = m + 1 := ⟨M - 1, by
          have : 0 < (xs ++ pads h xs.length).length := by rw [List.length_append, hlen]; omega
          omega⟩
        have lA := b4.ldA (i := 0) (n := 8) (by rw [hfl]; decide)
        rw [List.drop_zero, List.take_of_length_le (by rw [hfl]; decide)] at lA
        obtain ⟨w5, h5, u5⟩ := refNarrow_ok hK T.to.cl (firstH_len S h) hlt hdm.symm hpl o4.rd T4.rc
        have hcl := comps32_len C (m + 1) (firstH S h) (xs ++ pads h xs.length) (firstH_len S h)
        obtain ⟨w6, s6, b6, u6, _⟩ := lay' (b4.upd0 u5) (vs := ints .u64 (comps32 C (m + 1) (firstH S h) (xs ++ pads h xs.length))) (by rw [hfl, ints_length, hcl]) ints_one
        refine ⟨w6, ?_, ?_, (u5.mono fun _ _ e => e.elim).trans' u6 fun _ _ e => e⟩
        · unfold ref01_Sum_s0
          rw [hd, if_pos rfl, lA, Option.bind_some, h5, bnd_ok, if_pos (by rw [List.size_toArray, ints_length, hcl]), s6, Option.bind_some]
        · have : compsH h C (m + 1) (firstH S h) (xs ++ pads h xs.length) = comps32 C (m + 1) (firstH S h) (xs ++ pads h xs.length) := by unfold compsH; rw [if_pos hn]
          rw [this]; exact b6
      · have hn : ¬ narrowB h = true := by unfold blk at e; split at e <;> simp_all
        have hd : ((IntKind.i64.wrap (Int.tdiv ((blk h : Nat) : Int) 16)) == 4) = false := by rw [e]; rfl
        rw [e] at hdm
        obtain ⟨w5, h5, b5, u5⟩ := refWide_l1 hK hin2 T.to.cl (gh := w1.heap.size) (by omega) hlt hdm.symm hpb M 0 K w4 (firstH S h) (by omega) (by omega) (firstH_len S h) hpl o4.rd b4 T4.rc
        have h5 : ref01_Sum_l1 K K ⟨w1.heap.size, 0, none⟩ p 0 w4 = _ := h5
        rw [Nat.mul_zero, List.drop_zero] at b5
        refine ⟨w5, ?_, ?_, u5⟩
        · unfold ref01_Sum_s0
          rw [hd, if_neg (by decide), h5, bnd_ok]
        · have : compsH h C M (firstH S h) (xs ++ pads h xs.length) = comps64 C M (firstH S h) (xs ++ pads h xs.length) := by unfold compsH; rw [if_neg hn]
          rw [this]; exact b5
    obtain ⟨w5, h5, b5, u5⟩ := key
    have hcl := compsH_len h C ((xs ++ pads h xs.length).length / blk h) (firstH S h) (xs ++ pads h xs.length) (firstH_len S h)
    have hg5 : w1.heap.size < w5.heap.size := b5.lt
    obtain ⟨s6, w6, h6, o6, bl6, f6⟩ := refOut_l2 hK w5.heap.size hcl hg5 (by omega) (by omega) hi0 hi8 hq2 i0 0 K w5 ⟨none, 0, 0⟩ (by omega) (by omega) b5 (by simpa [outW] using OwnS.nil 5 w5) (Nat.le_refl _) (fun k hk => by cases hk)
    have h6 : ref01_Sum_l2 K K h ⟨w1.heap.size, 0, none⟩ ((wordB h : Nat) : Int) ⟨none, 0, 0⟩ 0 w5 = _ := h6
    have q5 : Upd none_ w w5 := (q3.and0 u4).trans' u5 fun k hk e => by omega
    have hz5 := q5.size
    refine ⟨s6, w6, ?_, ?_, q5.and0 (Upd.of_below bl6), fun k hk => by have := f6 k hk; omega⟩
    · have en : IntKind.i64.wrap (Int.tdiv ((blk h : Nat) : Int) 16) = ((wordB h : Nat) : Int) := by
        rw [show (16 : Int) = ((16 : Nat) : Int) from rfl, tdiv_nat, wn64 (by omega)]; omega
      have hne : (((blk h : Nat) : Int) == 0) = false := by simp; omega
      unfold ref01_Sum
      rw [refBlock_ok, Option.bind_some, hb0]
      dsimp only
      rw [hne, if_neg (by decide), h1, bnd_ok, n2, bnd_ok]
      dsimp only
      rw [if_pos (by rw [List.size_toArray, hfl]), s3, Option.bind_some, h4, bnd_ok, h5, bnd_ok, en, h6, bnd_ok]
    · rw [if_pos rfl]
      unfold digestOf
      rw [hsz, Int.toNat_natCast, outW_take _ _ 8 i0 hi8]; exact o6

end Go.Sh

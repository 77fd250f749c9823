/- Texts of this claim, put together: AesL, AesM, AesN, AesU, AesP, BookB, AesQ, AesR, AesX, AesY, AesT, AesO, VecR -/
import Derived.Test.YtfilmbfijaeclaaDoorAllLawbamcfk
/- Package rijndael: a block as words, and back. -/
set_option linter.unusedVariables false
set_option maxRecDepth 100000
namespace Go.Sh
open Go.Fw Go.Gf Go.RowKit Go.Proofs.Tryd

/-- words as cells -/
def wv (L : List W4) : List Value := L.map fun x => Value.int .u32 ((x.n : Nat) : Int)
theorem wv_len (L : List W4) : (wv L).length = L.length := by simp [wv]
theorem wv_get {L : List W4} {i : Nat} (h : i < L.length) : (wv L)[i]? = some (.int .u32 (((L.getD i z4).n : Nat) : Int)) := by
  unfold wv; rw [List.getElem?_map, List.getD_eq_getElem?_getD, List.getElem?_eq_getElem h]; rfl
theorem wv_one (L : List W4) : ∀ v ∈ wv L, v.oneCell' = true := fun v hv => by
  obtain ⟨x, _, rfl⟩ := List.mem_map.1 hv; rfl
/-- four words, the first i of them by f, the others by g -/
def upL (f g : Nat → W4) (i : Nat) : List W4 := (List.range 4).map fun c => if c < i then f c else g c
theorem upL_len (f g : Nat → W4) (i : Nat) : (upL f g i).length = 4 := by simp [upL]
theorem upL_get (f g : Nat → W4) (i : Nat) {c : Nat} (hc : c < 4) : (upL f g i).getD c z4 = if c < i then f c else g c := by
  unfold upL; rw [List.getD_eq_getElem?_getD, List.getElem?_map, List.getElem?_range hc]; rfl
theorem upL_set {f g : Nat → W4} {i : Nat} (hi : i < 4) : (wv (upL f g i)).set i (.int .u32 (((f i).n : Nat) : Int)) = wv (upL f g (i + 1)) := by
  unfold wv upL
  rw [List.map_map, List.map_map, range_set]
  refine map_range_ext fun j hj => ?_
  show (if j = i then _ else Value.int .u32 (((if j < i then f j else g j).n : Nat) : Int)) = Value.int .u32 (((if j < i + 1 then f j else g j).n : Nat) : Int)
  by_cases e : j = i
  · rw [if_pos e, if_pos (show j < i + 1 by omega), e]
  · rw [if_neg e]
    by_cases c : j < i
    · rw [if_pos c, if_pos (show j < i + 1 by omega)]
    · rw [if_neg c, if_neg (show ¬ j < i + 1 by omega)]
def fourL (f : Nat → W4) : List W4 := (List.range 4).map f
theorem fourL_len (f : Nat → W4) : (fourL f).length = 4 := by simp [fourL]
theorem fourL_get (f : Nat → W4) {c : Nat} (hc : c < 4) : (fourL f).getD c z4 = f c := by
  unfold fourL; rw [List.getD_eq_getElem?_getD, List.getElem?_map, List.getElem?_range hc]; rfl
theorem upL_four (f g : Nat → W4) : upL f g 4 = fourL f := by
  unfold upL fourL
  refine List.map_congr_left fun j hj => ?_
  rw [if_pos (List.mem_range.1 hj)]
theorem upL_zero (f g : Nat → W4) : upL f g 0 = fourL g := by
  unfold upL fourL
  refine List.map_congr_left fun j hj => ?_
  rw [if_neg (by omega)]
theorem fourL_self {L : List W4} (h : L.length = 4) : fourL (fun c => L.getD c z4) = L := by
  apply List.ext_getElem?
  intro j
  unfold fourL
  rw [List.getElem?_map]
  by_cases hj : j < 4
  · rw [List.getElem?_range hj, List.getElem?_eq_getElem (by omega)]
    show some (L.getD j z4) = _
    rw [List.getD_eq_getElem?_getD, List.getElem?_eq_getElem (by omega)]; rfl
  · rw [List.getElem?_eq_none (by simp; omega), List.getElem?_eq_none (by omega)]; rfl
theorem fourL_ok {f : Nat → W4} (h : ∀ c, c < 4 → (f c).ok) : ∀ x ∈ fourL f, x.ok := fun x hx => by
  obtain ⟨c, hc, rfl⟩ := List.mem_map.1 hx
  exact h c (List.mem_range.1 hc)
theorem z135_four : z135.toList = wv (fourL fun _ => z4) := rfl

/-! ### bytes -/
def bl (st : List W4) : List Value := ints .u8 (roundB st)
theorem bl_len {st : List W4} (h : st.length = 4) : (bl st).length = 16 := by unfold bl; rw [ints_length, roundB_len, h]
theorem roundB_in {st : List W4} (h : ∀ x ∈ st, x.ok) : ∀ z ∈ roundB st, InK .u8 z := fun z hz => by
  obtain ⟨x, hx, hz⟩ := List.mem_flatMap.1 hz
  exact w4I_ok (h x hx) z hz
theorem kw_round {st : List W4} {i : Nat} (hi : i < st.length) : kw (roundB st) i = st.getD i z4 := by
  have g : ∀ j, j < 4 → kb (roundB st) (4 * i + j) = byteW (st.getD i z4) j := fun j hj => by
    unfold kb
    rw [List.getD_eq_getElem?_getD, roundB_get st i j hi hj]; rfl
  have g0 : kb (roundB st) (4 * i) = (st.getD i z4).a := g 0 (by decide)
  have g1 : kb (roundB st) (4 * i + 1) = (st.getD i z4).b := g 1 (by decide)
  have g2 : kb (roundB st) (4 * i + 2) = (st.getD i z4).c := g 2 (by decide)
  have g3 : kb (roundB st) (4 * i + 3) = (st.getD i z4).d := g 3 (by decide)
  unfold kw
  rw [g0, g1, g2, g3]

theorem sla_some {p : Addr} {l m : Nat} (h : m ≠ l) : sla (some p) l m 1 = some (p.add (l * 1)) := by unfold sla; rw [if_neg h]; rfl

theorem load_loop {K : Nat} (hK : 300 ≤ K) {st : List W4} (hs : ∀ x ∈ st, x.ok) (hl : st.length = 4) {gb gs : Nat} (hne : gb ≠ gs) {a2 : Addr} :
    ∀ (d i f : Nat) (w : World), d + i = 4 → d < f → Bk 42 w gb (bl st) → Bk 135 w gs (wv (upL (fun c => st.getD c z4) (fun _ => z4) i)) →
      ∃ w', rijndael_load_l0 K f ⟨gb, 0, none⟩ a2 ⟨gs, 0, none⟩ (i : Int) w = some ((), w') ∧ Bk 135 w' gs (wv st) ∧ Upd (· = gs) w w' := by
  intro d
  induction d with
  | zero =>
    intro i f w hd hf b s
    obtain ⟨f, rfl⟩ : ∃ m, f = m + 1 := ⟨f - 1, by omega⟩
    obtain rfl : i = 4 := by omega
    rw [upL_four, fourL_self hl] at s
    refine ⟨w, ?_, s, Upd.refl _ w⟩
    have eu : rijndael_load_l0 K (f + 1) = rijndael_load_l0_b K (rijndael_load_l0 K f) := rfl
    rw [eu]
    unfold rijndael_load_l0_b
    rw [if_neg (by decide)]
  | succ d ih =>
    intro i f w hd hf b s
    obtain ⟨f, rfl⟩ : ∃ m, f = m + 1 := ⟨f - 1, by omega⟩
    have hi : i < 4 := by omega
    have hrl : (roundB st).length = 16 := by rw [roundB_len, hl]
    have r : RdS .u8 w ⟨some ⟨gb, 0, none⟩, 16, 16⟩ (roundB st) := ⟨hrl.symm, Nat.le_refl _, .inr ⟨_, rfl, b.rd 0 _ fun i v hv => by rw [Nat.zero_add]; exact hv⟩⟩
    have r2 := RdS.sub r (lo := 4 * i) (hi := 16) (by omega) (by omega)
    rw [List.take_of_length_le (by omega)] at r2
    have hnum := number_ok hK r2 (fun z hz => roundB_in hs z (List.mem_of_mem_drop hz)) (n := 4) (by rw [List.length_drop]; omega) (by decide)
    rw [num4 (roundB_in hs) (by omega), kw_round (by omega)] at hnum
    have hko := getD_ok hs i
    obtain ⟨w1, c1, c2, c3⟩ := s.stC (i := i) (by rw [wv_len, upL_len]; exact hi) (.int .u32 (((st.getD i z4).n : Nat) : Int))
    rw [upL_set (f := fun c => st.getD c z4) hi] at c2
    obtain ⟨w2, g1, g2, g3⟩ := ih (i + 1) f w1 (by omega) (by omega) (b.upd c3 hne) c2
    refine ⟨w2, ?_, g2, c3.trans' g3 fun _ _ e => e⟩
    have e4 : IntKind.i64.wrap (4 * (i : Int)) = ((4 * i : Nat) : Int) := by rw [w64 (by omega) (by omega)]; omega
    have e1 : IntKind.i64.wrap ((i : Int) + 1) = ((i + 1 : Nat) : Int) := by rw [w64 (by omega) (by omega)]; rfl
    have c1' : stC ((⟨gs, 0, none⟩ : Addr).add (i * 1)) (.int .u32 (((st.getD i z4).n : Nat) : Int)) w = some w1 := by
      rw [add_lit, Nat.mul_one, Nat.zero_add]; exact c1
    have hnum : rijndael_number K ⟨sla (some ⟨gb, 0, none⟩) (4 * i) 16 1, 16 - 4 * i, 16 - 4 * i⟩ 4 w = _ := hnum
    have eu : rijndael_load_l0 K (f + 1) = rijndael_load_l0_b K (rijndael_load_l0 K f) := rfl
    rw [eu]
    unfold rijndael_load_l0_b
    rw [if_pos (decide_eq_true (by omega)), e4, if_pos ⟨by omega, by omega⟩, Int.toNat_natCast, hnum, Option.bind_some, if_pos (nat_in hi), Int.toNat_natCast]
    show (stC _ (.int .u32 (IntKind.u32.wrap (((st.getD i z4).n : Nat) : Int))) w).bind _ = _
    rw [wr32' (W4.lt hko), c1', Option.bind_some, e1, g1]

theorem load_ok {K : Nat} (hK : 300 ≤ K) {st : List W4} (hs : ∀ x ∈ st, x.ok) (hl : st.length = 4) (w : World) :
    ∃ w', rijndael_load K (bl st).toArray w = some (((wv st).toArray, ()), w') ∧ Upd none_ w w' := by
  obtain ⟨w1, n1, b1, u1, z1⟩ := newB_ok (bl st).toArray 42 w
  obtain ⟨w2, n2, b2, u2, z2⟩ := newB_ok z135 135 w1
  obtain ⟨w3, n3, b3, u3, z3⟩ := newB_ok z135 135 w2
  rw [z135_four] at b2 b3
  have b1 : Bk 42 w1 w.heap.size (bl st) := b1
  rw [← upL_zero (fun c => st.getD c z4)] at b3
  obtain ⟨w4, a4, b4, u4⟩ := load_loop hK hs hl (gb := w.heap.size) (gs := w2.heap.size) (a2 := ⟨w1.heap.size, 0, none⟩) (by omega) 4 0 K w3 rfl (by omega) ((b1.upd0 u2).upd0 u3) b3
  have a4 : rijndael_load_l0 K K ⟨w.heap.size, 0, none⟩ ⟨w1.heap.size, 0, none⟩ ⟨w2.heap.size, 0, none⟩ 0 w3 = _ := a4
  have hl4 := b4.ldA (i := 0) (n := 4) (by rw [wv_len, hl]; decide)
  rw [List.drop_zero, List.take_of_length_le (by rw [wv_len, hl]; decide)] at hl4
  obtain ⟨w5, a5, b5, u5⟩ := ((b2.upd0 u3).upd u4 (by omega)).stA (o := 0) (vs := (wv st).toArray) (by rw [List.size_toArray, wv_len, hl, wv_len, fourL_len]; decide) (fun v hv => wv_one st v hv)
  have b5 : Bk 135 w5 w1.heap.size (seg (wv (fourL fun _ => z4)) 0 (wv st)) := b5
  rw [seg_all (by rw [wv_len, wv_len, hl, fourL_len])] at b5
  have hl5 := b5.ldA (i := 0) (n := 4) (by rw [wv_len, hl]; decide)
  rw [List.drop_zero, List.take_of_length_le (by rw [wv_len, hl]; decide)] at hl5
  refine ⟨w5, ?_, ((((u1.and0 u2).and0 u3).trans' u4 fun k hk e => by omega).trans' u5 fun k hk e => by omega)⟩
  unfold rijndael_load
  rw [n1, bnd_ok, n2, bnd_ok, n3, bnd_ok, a4, bnd_ok, hl4, Option.bind_some, if_pos (by rw [List.size_toArray, wv_len, hl]), a5, Option.bind_some, hl5, Option.bind_some]

/-! ### a number laid into bytes -/
def layB (size n : Nat) : List Int := (List.range size).map fun i => ((n / 2 ^ (8 * (size - 1 - i)) % 256 : Nat) : Int)
theorem layB_len (size n : Nat) : (layB size n).length = size := by simp [layB]

theorem seg_snoc {cs vs : List Value} {o : Nat} {v : Value} (h : o + vs.length + 1 ≤ cs.length) : (seg cs o vs).set (o + vs.length) v = seg cs o (vs ++ [v]) := by
  apply List.ext_getElem?
  intro i
  rw [List.getElem?_set, seg_get (by omega), seg_get (by rw [List.length_append, List.length_singleton]; omega), seg_length (by omega), List.length_append, List.length_singleton]
  by_cases h1 : i < o
  · rw [if_neg (show ¬ o + vs.length = i by omega), if_pos h1, if_pos h1]
  · by_cases h2 : i = o + vs.length
    · subst h2
      rw [if_pos rfl, if_pos (by omega), if_neg h1, if_pos (by omega), List.getElem?_append_right (by omega), show o + vs.length - o - vs.length = 0 by omega]
      rfl
    · rw [if_neg (fun e => h2 e.symm), if_neg h1, if_neg h1]
      by_cases h3 : i < o + vs.length
      · rw [if_pos h3, if_pos (by omega), List.getElem?_append_left (by omega)]
      · rw [if_neg h3, if_neg (by omega)]

theorem lay_loop (K : Nat) {e : TypeId} {g o size n len cap : Nat} {cs : List Value} (hsz : size ≤ 8) (hlen : size ≤ len) (ho : o + size ≤ cs.length) (hn : n < 18446744073709551616) :
    ∀ (d i f : Nat) (w : World), d + i = size → d < f → Bk e w g (seg cs o (ints .u8 ((layB size n).take i))) →
      ∃ w', rijndael_lay_l0 K f ⟨some ⟨g, o, none⟩, len, cap⟩ (size : Int) (n : Int) (size : Int) (i : Int) w = some ((), w') ∧ Bk e w' g (seg cs o (ints .u8 (layB size n))) ∧ Upd (· = g) w w' := by
  intro d
  induction d with
  | zero =>
    intro i f w hd hf b
    obtain ⟨f, rfl⟩ : ∃ m, f = m + 1 := ⟨f - 1, by omega⟩
    rw [List.take_of_length_le (by rw [layB_len]; omega)] at b
    refine ⟨w, ?_, b, Upd.refl _ w⟩
    have eu : rijndael_lay_l0 K (f + 1) = rijndael_lay_l0_b K (rijndael_lay_l0 K f) := rfl
    rw [eu]
    unfold rijndael_lay_l0_b
    rw [if_neg (fun e => by have := of_decide_eq_true e; omega)]
  | succ d ih =>
    intro i f w hd hf b
    obtain ⟨f, rfl⟩ : ∃ m, f = m + 1 := ⟨f - 1, by omega⟩
    have hi : i < size := by omega
    have hlt : (ints .u8 ((layB size n).take i)).length = i := by rw [ints_length, List.length_take, layB_len]; omega
    have hv : (layB size n)[i]? = some ((n / 2 ^ (8 * (size - 1 - i)) % 256 : Nat) : Int) := by unfold layB; rw [List.getElem?_map, List.getElem?_range hi]; rfl
    obtain ⟨w1, c1, c2, c3⟩ := b.stC (i := o + i) (by rw [seg_length (by rw [hlt]; omega)]; omega) (.int .u8 ((n / 2 ^ (8 * (size - 1 - i)) % 256 : Nat) : Int))
    have e5 := seg_snoc (cs := cs) (o := o) (vs := ints .u8 ((layB size n).take i)) (v := .int .u8 ((n / 2 ^ (8 * (size - 1 - i)) % 256 : Nat) : Int)) (by rw [hlt]; omega)
    rw [hlt] at e5
    have e6 : ints .u8 ((layB size n).take i) ++ [Value.int .u8 ((n / 2 ^ (8 * (size - 1 - i)) % 256 : Nat) : Int)] = ints .u8 ((layB size n).take (i + 1)) := by
      rw [List.take_add_one, hv, ints_append]; rfl
    rw [e5, e6] at c2
    obtain ⟨w2, g1, g2, g3⟩ := ih (i + 1) f w1 (by omega) (by omega) c2
    refine ⟨w2, ?_, g2, c3.trans' g3 fun _ _ e => e⟩
    have e7 : IntKind.i64.wrap (8 * (IntKind.i64.wrap ((IntKind.i64.wrap ((size : Int) - 1)) - (i : Int)))) = ((8 * (size - 1 - i) : Nat) : Int) := by
      have a1 : IntKind.i64.wrap ((size : Int) - 1) = ((size - 1 : Nat) : Int) := by rw [w64 (by omega) (by omega)]; omega
      have a2 : IntKind.i64.wrap (((size - 1 : Nat) : Int) - (i : Int)) = ((size - 1 - i : Nat) : Int) := by rw [w64 (by omega) (by omega)]; omega
      rw [a1, a2, w64 (by omega) (by omega)]; omega
    have e8 : min (Int.toNat ((8 * (size - 1 - i) : Nat) : Int)) IntKind.u64.bits = 8 * (size - 1 - i) := by
      rw [Int.toNat_natCast]; exact Nat.min_eq_left (show 8 * (size - 1 - i) ≤ 64 by omega)
    have e9 : IntKind.u8.wrap (((n / 2 ^ (8 * (size - 1 - i)) : Nat)) : Int) = ((n / 2 ^ (8 * (size - 1 - i)) % 256 : Nat) : Int) := by rw [IntKind.wrap_u8]; rfl
    have e1 : IntKind.i64.wrap ((i : Int) + 1) = ((i + 1 : Nat) : Int) := by rw [w64 (by omega) (by omega)]; rfl
    have c1' : stC ((⟨g, o, none⟩ : Addr).add (i * 1)) (.int .u8 ((n / 2 ^ (8 * (size - 1 - i)) % 256 : Nat) : Int)) w = some w1 := by rw [add_lit, Nat.mul_one]; exact c1
    have eu : rijndael_lay_l0 K (f + 1) = rijndael_lay_l0_b K (rijndael_lay_l0 K f) := rfl
    rw [eu]
    unfold rijndael_lay_l0_b
    rw [if_pos (decide_eq_true (by omega)), e7, if_pos (by omega), Option.bind_some, if_pos (nat_in (show i < len by omega)), e8, fdiv_pow, e9, Int.toNat_natCast, c1', Option.bind_some, e1, g1]

theorem lay_ok {K : Nat} (hK : 300 ≤ K) {e : TypeId} {g o size n len cap : Nat} {cs : List Value} (hsz : size ≤ 8) (hlen : size ≤ len) (ho : o + size ≤ cs.length) (hn : n < 18446744073709551616) {w : World} (b : Bk e w g cs) :
    ∃ w', rijndael_lay K ⟨some ⟨g, o, none⟩, len, cap⟩ (size : Int) (n : Int) w = some ((), w') ∧ Bk e w' g (seg cs o (ints .u8 (layB size n))) ∧ Upd (· = g) w w' := by
  have b0 : Bk e w g (seg cs o (ints .u8 ((layB size n).take 0))) := by
    have : seg cs o (ints .u8 ((layB size n).take 0)) = cs := by
      rw [List.take_zero]; show cs.take o ++ [] ++ cs.drop (o + 0) = cs
      rw [List.append_nil, Nat.add_zero, List.take_append_drop]
    rw [this]; exact b
  obtain ⟨w', a1, a2, a3⟩ := lay_loop K hsz hlen ho hn size 0 K w rfl (by omega) b0
  refine ⟨w', ?_, a2, a3⟩
  have a1 : rijndael_lay_l0 K K ⟨some ⟨g, o, none⟩, len, cap⟩ (size : Int) (n : Int) (size : Int) 0 w = _ := a1
  unfold rijndael_lay
  rw [a1, bnd_ok]

theorem lay4 {x : W4} (h : x.ok) : layB 4 x.n = w4I x := by
  obtain ⟨ha, hb, hc, hd⟩ := h
  show [((pk x.a x.b x.c x.d / 16777216 % 256 : Nat) : Int), ((pk x.a x.b x.c x.d / 65536 % 256 : Nat) : Int), ((pk x.a x.b x.c x.d / 256 % 256 : Nat) : Int), ((pk x.a x.b x.c x.d / 1 % 256 : Nat) : Int)] = [(x.a : Int), x.b, x.c, x.d]
  have e0 : pk x.a x.b x.c x.d / 16777216 % 256 = x.a := by unfold pk; omega
  have e1 : pk x.a x.b x.c x.d / 65536 % 256 = x.b := by unfold pk; omega
  have e2 : pk x.a x.b x.c x.d / 256 % 256 = x.c := by unfold pk; omega
  have e3 : pk x.a x.b x.c x.d / 1 % 256 = x.d := by unfold pk; omega
  rw [e0, e1, e2, e3]

theorem bl_upd {f g : Nat → W4} {i : Nat} (hi : i < 4) : seg (bl (upL f g i)) (4 * i) (ints .u8 (w4I (f i))) = bl (upL f g (i + 1)) := by
  have : i = 0 ∨ i = 1 ∨ i = 2 ∨ i = 3 := by omega
  rcases this with rfl | rfl | rfl | rfl <;> rfl

theorem block_loop {K : Nat} (hK : 300 ≤ K) {st : List W4} (hs : ∀ x ∈ st, x.ok) (hl : st.length = 4) {gb : Nat} {a2 : Addr} :
    ∀ (d i f : Nat) (w : World), d + i = 4 → d < f → Bk 42 w gb (bl (upL (fun c => st.getD c z4) (fun _ => z4) i)) →
      ∃ w', rijndael_state_block_l0 K f a2 ⟨gb, 0, none⟩ (wv st).toArray (i : Int) w = some ((), w') ∧ Bk 42 w' gb (bl st) ∧ Upd (· = gb) w w' := by
  intro d
  induction d with
  | zero =>
    intro i f w hd hf b
    obtain ⟨f, rfl⟩ : ∃ m, f = m + 1 := ⟨f - 1, by omega⟩
    obtain rfl : i = 4 := by omega
    rw [upL_four, fourL_self hl] at b
    refine ⟨w, ?_, b, Upd.refl _ w⟩
    have eu : rijndael_state_block_l0 K (f + 1) = rijndael_state_block_l0_b K (rijndael_state_block_l0 K f) := rfl
    rw [eu]
    unfold rijndael_state_block_l0_b
    rw [if_neg (by decide)]
  | succ d ih =>
    intro i f w hd hf b
    obtain ⟨f, rfl⟩ : ∃ m, f = m + 1 := ⟨f - 1, by omega⟩
    have hi : i < 4 := by omega
    have hko := getD_ok hs i
    have hlt := W4.lt hko
    obtain ⟨w1, c1, c2, c3⟩ := lay_ok hK (e := 42) (g := gb) (o := 4 * i) (size := 4) (n := (st.getD i z4).n) (len := 16 - 4 * i) (cap := 16 - 4 * i) (by decide) (by omega) (by rw [bl_len (upL_len _ _ _)]; omega) (by omega) b
    rw [lay4 hko, bl_upd (f := fun c => st.getD c z4) hi] at c2
    obtain ⟨w2, g1, g2, g3⟩ := ih (i + 1) f w1 (by omega) (by omega) c2
    refine ⟨w2, ?_, g2, c3.trans' g3 fun _ _ e => e⟩
    have e4 : IntKind.i64.wrap (4 * (i : Int)) = ((4 * i : Nat) : Int) := by rw [w64 (by omega) (by omega)]; omega
    have e1 : IntKind.i64.wrap ((i : Int) + 1) = ((i + 1 : Nat) : Int) := by rw [w64 (by omega) (by omega)]; rfl
    have eg : (wv st).toArray[i]? = some (.int .u32 (((st.getD i z4).n : Nat) : Int)) := by rw [List.getElem?_toArray]; exact wv_get (by omega)
    have es : sla (some (⟨gb, 0, none⟩ : Addr)) (4 * i) 16 1 = some ⟨gb, 4 * i, none⟩ := by rw [sla_some (by omega), add_lit, Nat.mul_one, Nat.zero_add]
    have c1 : rijndael_lay K ⟨some ⟨gb, 4 * i, none⟩, 16 - 4 * i, 16 - 4 * i⟩ 4 (((st.getD i z4).n : Nat) : Int) w = some ((), w1) := c1
    have eu : rijndael_state_block_l0 K (f + 1) = rijndael_state_block_l0_b K (rijndael_state_block_l0 K f) := rfl
    rw [eu]
    unfold rijndael_state_block_l0_b
    rw [if_pos (decide_eq_true (by omega)), if_pos (nat_in hi), Int.toNat_natCast, Nat.mul_one, eg, Option.bind_some]
    show ((some (((st.getD i z4).n : Nat) : Int)).bind _) = _
    rw [Option.bind_some, e4, if_pos ⟨by omega, by omega⟩, Int.toNat_natCast, es, wru64 (by omega), c1, bnd_ok, e1, g1]

theorem z42_bl : z42.toList = bl (fourL fun _ => z4) := rfl
theorem bl_one (st : List W4) : ∀ v ∈ bl st, v.oneCell' = true := fun v hv => ints_one v hv

theorem block_ok {K : Nat} (hK : 300 ≤ K) {st : List W4} (hs : ∀ x ∈ st, x.ok) (hl : st.length = 4) (w : World) :
    ∃ w', rijndael_state_block K (wv st).toArray w = some (((bl st).toArray, ()), w') ∧ Upd none_ w w' := by
  obtain ⟨w1, n1, b1, u1, z1⟩ := newB_ok (wv st).toArray 135 w
  obtain ⟨w2, n2, b2, u2, z2⟩ := newB_ok z42 42 w1
  obtain ⟨w3, n3, b3, u3, z3⟩ := newB_ok z42 42 w2
  rw [z42_bl] at b2 b3
  have b1 : Bk 135 w1 w.heap.size (wv st) := b1
  rw [← upL_zero (fun c => st.getD c z4)] at b3
  have hl1 := ((b1.upd0 u2).upd0 u3).ldA (i := 0) (n := 4) (by rw [wv_len, hl]; decide)
  rw [List.drop_zero, List.take_of_length_le (by rw [wv_len, hl]; decide)] at hl1
  obtain ⟨w4, a4, b4, u4⟩ := block_loop hK hs hl (gb := w2.heap.size) (a2 := ⟨w1.heap.size, 0, none⟩) 4 0 K w3 rfl (by omega) b3
  have a4 : rijndael_state_block_l0 K K ⟨w1.heap.size, 0, none⟩ ⟨w2.heap.size, 0, none⟩ (wv st).toArray 0 w3 = _ := a4
  have hl4 := b4.ldA (i := 0) (n := 16) (by rw [bl_len hl]; decide)
  rw [List.drop_zero, List.take_of_length_le (by rw [bl_len hl]; decide)] at hl4
  obtain ⟨w5, a5, b5, u5⟩ := ((b2.upd0 u3).upd u4 (by omega)).stA (o := 0) (vs := (bl st).toArray) (by rw [List.size_toArray, bl_len hl, bl_len (fourL_len _)]; decide) (fun v hv => bl_one st v hv)
  have b5 : Bk 42 w5 w1.heap.size (seg (bl (fourL fun _ => z4)) 0 (bl st)) := b5
  rw [seg_all (by rw [bl_len hl, bl_len (fourL_len _)])] at b5
  have hl5 := b5.ldA (i := 0) (n := 16) (by rw [bl_len hl]; decide)
  rw [List.drop_zero, List.take_of_length_le (by rw [bl_len hl]; decide)] at hl5
  refine ⟨w5, ?_, ((((u1.and0 u2).and0 u3).trans' u4 fun k hk e => by omega).trans' u5 fun k hk e => by omega)⟩
  unfold rijndael_state_block
  rw [n1, bnd_ok, n2, bnd_ok, n3, bnd_ok, hl1, Option.bind_some, a4, bnd_ok, hl4, Option.bind_some, if_pos (by rw [List.size_toArray, bl_len hl]), a5, Option.bind_some, hl5, Option.bind_some]

end Go.Sh

/- Package rijndael: a block goes through the rounds. -/
set_option linter.unusedVariables false
set_option maxRecDepth 100000
namespace Go.Sh
open Go.Fw Go.Gf Go.RowKit Go.Proofs.Tryd

def subW4 (f : Nat → Nat) (step : Nat) (st : List W4) (c : Nat) : W4 := ⟨f (byteW (st.getD c z4) 0), f (byteW (st.getD ((c + step) % 4) z4) 1), f (byteW (st.getD ((c + 2) % 4) z4) 2), f (byteW (st.getD ((c + 3 * step) % 4) z4) 3)⟩
def mcW (Y : W4) (x : W4) : W4 := (((W4.rr 0 (mulW x.a Y)).xor (W4.rr 1 (mulW x.b Y))).xor (W4.rr 2 (mulW x.c Y))).xor (W4.rr 3 (mulW x.d Y))
theorem imc_mc (x : W4) : imc x = mcW decY x := rfl
theorem mcW_ok {x : W4} (h : x.ok) (Y : W4) : (mcW Y x).ok := W4.ok_xor (W4.ok_xor (W4.ok_xor (W4.ok_rr (mulW_ok h.1 _) 0) (W4.ok_rr (mulW_ok h.2.1 _) 1)) (W4.ok_rr (mulW_ok h.2.2.1 _) 2)) (W4.ok_rr (mulW_ok h.2.2.2 _) 3)
theorem subW4_ok {f : Nat → Nat} (hf : ∀ i, i < 256 → f i < 256) {step : Nat} {st : List W4} (hs : ∀ x ∈ st, x.ok) (c : Nat) : (subW4 f step st c).ok :=
  ⟨hf _ (byteW_lt (getD_ok hs _) 0), hf _ (byteW_lt (getD_ok hs _) 1), hf _ (byteW_lt (getD_ok hs _) 2), hf _ (byteW_lt (getD_ok hs _) 3)⟩

def addK (st : List W4) (k : Nat → W4) : List W4 := fourL fun c => (st.getD c z4).xor (k c)
def rnd (W : List W4) (f : Nat → Nat) (Y : W4) (step : Nat) (r : Nat) (st : List W4) : List W4 := fourL fun c => (mcW Y (subW4 f step st c)).xor (W.getD (r + c) z4)
def rounds (W : List W4) (f : Nat → Nat) (Y : W4) (step : Nat) : Nat → Nat → List W4 → List W4
  | 0, _, st => st
  | d + 1, r, st => rounds W f Y step d (r + 4) (rnd W f Y step r st)
def lastR (W : List W4) (f : Nat → Nat) (step : Nat) (n : Nat) (st : List W4) : List W4 := fourL fun c => (subW4 f step st c).xor (W.getD (n + c) z4)
def throughF (W : List W4) (f : Nat → Nat) (Y : W4) (step : Nat) (st : List W4) : List W4 :=
  lastR W f step (W.length - 4) (rounds W f Y step ((W.length - 8) / 4) 4 (addK st fun c => W.getD c z4))

theorem addK_ok {st : List W4} {k : Nat → W4} (hs : ∀ x ∈ st, x.ok) (hk : ∀ c, c < 4 → (k c).ok) : ∀ x ∈ addK st k, x.ok := fourL_ok fun c hc => W4.ok_xor (getD_ok hs c) (hk c hc)
theorem rnd_ok {W : List W4} (hW : ∀ x ∈ W, x.ok) {f : Nat → Nat} (hf : ∀ i, i < 256 → f i < 256) (Y : W4) (step r : Nat) {st : List W4} (hs : ∀ x ∈ st, x.ok) : ∀ x ∈ rnd W f Y step r st, x.ok := fourL_ok fun c hc => W4.ok_xor (mcW_ok (subW4_ok hf hs c) Y) (getD_ok hW _)
theorem rnd_len (W : List W4) (f : Nat → Nat) (Y : W4) (step r : Nat) (st : List W4) : (rnd W f Y step r st).length = 4 := fourL_len _
theorem rounds_ok {W : List W4} (hW : ∀ x ∈ W, x.ok) {f : Nat → Nat} (hf : ∀ i, i < 256 → f i < 256) (Y : W4) (step : Nat) : ∀ (d r : Nat) {st : List W4}, (∀ x ∈ st, x.ok) → ∀ x ∈ rounds W f Y step d r st, x.ok
  | 0, _, _, h => h
  | d + 1, r, _, h => rounds_ok hW hf Y step d (r + 4) (rnd_ok hW hf Y step r h)
theorem rounds_len (W : List W4) (f : Nat → Nat) (Y : W4) (step : Nat) : ∀ (d r : Nat) {st : List W4}, st.length = 4 → (rounds W f Y step d r st).length = 4
  | 0, _, _, h => h
  | d + 1, r, st, _ => rounds_len W f Y step d (r + 4) (rnd_len W f Y step r st)
theorem lastR_ok {W : List W4} (hW : ∀ x ∈ W, x.ok) {f : Nat → Nat} (hf : ∀ i, i < 256 → f i < 256) (step n : Nat) {st : List W4} (hs : ∀ x ∈ st, x.ok) : ∀ x ∈ lastR W f step n st, x.ok := fourL_ok fun c hc => W4.ok_xor (subW4_ok hf hs c) (getD_ok hW _)
theorem throughF_ok {W : List W4} (hW : ∀ x ∈ W, x.ok) {f : Nat → Nat} (hf : ∀ i, i < 256 → f i < 256) (Y : W4) (step : Nat) {st : List W4} (hs : ∀ x ∈ st, x.ok) : ∀ x ∈ throughF W f Y step st, x.ok := lastR_ok hW hf step _ (rounds_ok hW hf Y step _ _ (addK_ok hs fun c _ => getD_ok hW c))
theorem throughF_len (W : List W4) (f : Nat → Nat) (Y : W4) (step : Nat) (st : List W4) : (throughF W f Y step st).length = 4 := fourL_len _

theorem wc_ld {w : World} {gw n : Nat} {W : List W4} (b : Bk 50 w gw (wc W n)) {i : Nat} (hi : i < W.length) : ldI .u32 ((⟨gw, 0, none⟩ : Addr).add (i * 1)) w = some (((W.getD i z4).n : Nat) : Int) := by
  rw [add_lit, Nat.mul_one, Nat.zero_add]; exact b.ldI (wc_get hi z4)
theorem wv_ld {w : World} {g : Nat} {L : List W4} (b : Bk 135 w g (wv L)) {i : Nat} (hi : i < L.length) : ldI .u32 ((⟨g, 0, none⟩ : Addr).add (i * 1)) w = some (((L.getD i z4).n : Nat) : Int) := by
  rw [add_lit, Nat.mul_one, Nat.zero_add]; exact b.ldI (wv_get hi)

theorem thr_l0 {K : Nat} {W : List W4} (hW : ∀ x ∈ W, x.ok) {n : Nat} (hn : W.length = n) (hn8 : 8 ≤ n) {gw : Nat} {t2 last : Option Addr} {stp : Int} {gs : Nat} {a10 : Addr} {st : List W4} (hs : ∀ x ∈ st, x.ok) (hne : gw ≠ gs) :
    ∀ (d i f : Nat) (w : World), d + i = 4 → d < f → Bk 50 w gw (wc W n) → Bk 135 w gs (wv (upL (fun c => (st.getD c z4).xor (W.getD c z4)) (fun c => st.getD c z4) i)) →
      ∃ w', rijndael_through_l0 K f ⟨some ⟨gw, 0, none⟩, n, n⟩ t2 last stp ⟨gs, 0, none⟩ a10 (i : Int) w = some ((), w') ∧ Bk 135 w' gs (wv (addK st fun c => W.getD c z4)) ∧ Upd (· = gs) w w' := by
  intro d
  induction d with
  | zero =>
    intro i f w hd hf bw b
    obtain ⟨f, rfl⟩ : ∃ m, f = m + 1 := ⟨f - 1, by omega⟩
    obtain rfl : i = 4 := by omega
    rw [upL_four] at b
    refine ⟨w, ?_, b, Upd.refl _ w⟩
    have eu : rijndael_through_l0 K (f + 1) = rijndael_through_l0_b K (rijndael_through_l0 K f) := rfl
    rw [eu]
    unfold rijndael_through_l0_b
    rw [if_neg (by decide)]
  | succ d ih =>
    intro i f w hd hf bw b
    obtain ⟨f, rfl⟩ : ∃ m, f = m + 1 := ⟨f - 1, by omega⟩
    have hi : i < 4 := by omega
    have l1 := wv_ld b.drew (i := i) (by rw [upL_len]; exact hi)
    rw [upL_get _ _ _ hi, if_neg (Nat.lt_irrefl i)] at l1
    have l2 := wc_ld bw.drew (i := i) (by omega)
    have ex := W4.xor_n (getD_ok hs i) (getD_ok hW i)
    obtain ⟨w1, c1, c2, c3⟩ := b.drew.stC (i := i) (by rw [wv_len, upL_len]; exact hi) (.int .u32 ((((st.getD i z4).xor (W.getD i z4)).n : Nat) : Int))
    rw [upL_set (f := fun c => (st.getD c z4).xor (W.getD c z4)) hi] at c2
    have c3 : Upd (· = gs) w w1 := c3.predrew
    obtain ⟨w2, g1, g2, g3⟩ := ih (i + 1) f w1 (by omega) (by omega) (bw.upd c3 hne) c2
    refine ⟨w2, ?_, g2, c3.trans' g3 fun _ _ e => e⟩
    have e1 : IntKind.i64.wrap ((i : Int) + 1) = ((i + 1 : Nat) : Int) := by rw [w64 (by omega) (by omega)]; rfl
    have c1' : stC ((⟨gs, 0, none⟩ : Addr).add (i * 1)) (.int .u32 ((((st.getD i z4).xor (W.getD i z4)).n : Nat) : Int)) w.drew = some w1 := by
      rw [add_lit, Nat.mul_one, Nat.zero_add]; exact c1
    have eu : rijndael_through_l0 K (f + 1) = rijndael_through_l0_b K (rijndael_through_l0 K f) := rfl
    rw [eu]
    unfold rijndael_through_l0_b
    rw [if_pos (decide_eq_true (by omega)), if_pos (nat_in hi), Option.bind_some, if_pos (nat_in (show i < n by omega)), Int.toNat_natCast, l1, Option.bind_some, l2, Option.bind_some, if_pos (nat_in hi), ex, c1', Option.bind_some, e1, g1]

theorem mod4_ok {i k : Nat} (hi : i < 4) (hk : k < 100) : Int.tmod (IntKind.i64.wrap ((i : Int) + (k : Int))) 4 = (((i + k) % 4 : Nat) : Int) := by
  have e : IntKind.i64.wrap ((i : Int) + (k : Int)) = ((i + k : Nat) : Int) := by rw [w64 (by omega) (by omega)]; omega
  rw [e]; exact tmod_nat (i + k) 4

theorem thr_l2 {K : Nat} {W : List W4} (hW : ∀ x ∈ W, x.ok) {n : Nat} (hn : W.length = n) (hn8 : 8 ≤ n) (hn1 : n ≤ 1000) {t gw : Nat} {step : Nat} (hstep : step ≤ 3) {f : Nat → Nat} (hf : ∀ i, i < 256 → f i < 256) {Y : W4} {o : Nat} (hT : ∀ {w : World}, Bk 130 w t tabsL → ∀ {r i : Nat}, r < 4 → i < 256 → ldI .u32 ((((⟨t, 0, none⟩ : Addr).add o).add (r * 256)).add (i * 1)) w = some (((W4.rr r (mulW (f i) Y)).n : Nat) : Int)) {last : Option Addr} {gs gx : Nat} {a10 : Addr} {nn : Int} {r : Nat} (hr : r + 4 ≤ n) {st : List W4} (hs : ∀ x ∈ st, x.ok) (hl : st.length = 4) (h1 : gw ≠ gx) (h2 : gs ≠ gx) (h3 : t ≠ gx) :
    ∀ (d i fu : Nat) (w : World), d + i = 4 → d < fu → Bk 50 w gw (wc W n) → Bk 130 w t tabsL → Bk 135 w gs (wv st) → Bk 135 w gx (wv (upL (fun c => (mcW Y (subW4 f step st c)).xor (W.getD (r + c) z4)) (fun _ => z4) i)) →
      ∃ w', rijndael_through_l2 K fu ⟨some ⟨gw, 0, none⟩, n, n⟩ (some ((⟨t, 0, none⟩ : Addr).add o)) last (step : Int) ⟨gs, 0, none⟩ a10 nn (r : Int) ⟨gx, 0, none⟩ (i : Int) w = some ((), w') ∧ Bk 135 w' gx (wv (rnd W f Y step r st)) ∧ Upd (· = gx) w w' := by
  intro d
  induction d with
  | zero =>
    intro i fu w hd hfu bw bt bs b
    obtain ⟨fu, rfl⟩ : ∃ m, fu = m + 1 := ⟨fu - 1, by omega⟩
    obtain rfl : i = 4 := by omega
    rw [upL_four] at b
    refine ⟨w, ?_, b, Upd.refl _ w⟩
    have eu : rijndael_through_l2 K (fu + 1) = rijndael_through_l2_b K (rijndael_through_l2 K fu) := rfl
    rw [eu]
    unfold rijndael_through_l2_b
    rw [if_neg (by decide)]
  | succ d ih =>
    intro i fu w hd hfu bw bt bs b
    obtain ⟨fu, rfl⟩ : ∃ m, fu = m + 1 := ⟨fu - 1, by omega⟩
    have hi : i < 4 := by omega
    have bsd := bs.drew
    have btd := bt.drew
    have k0 := getD_ok hs i
    have k1 := getD_ok hs ((i + step) % 4)
    have k2 := getD_ok hs ((i + 2) % 4)
    have k3 := getD_ok hs ((i + 3 * step) % 4)
    have m1 := mod4_ok (i := i) (k := step) hi (by omega)
    have m2 : Int.tmod (IntKind.i64.wrap ((i : Int) + 2)) 4 = (((i + 2) % 4 : Nat) : Int) := mod4_ok (i := i) (k := 2) hi (by omega)
    have e3s : IntKind.i64.wrap (3 * (step : Int)) = ((3 * step : Nat) : Int) := by rw [w64 (by omega) (by omega)]; omega
    have m3 := mod4_ok (i := i) (k := 3 * step) hi (by omega)
    have j1 : (i + step) % 4 < 4 := Nat.mod_lt _ (by decide)
    have j2 : (i + 2) % 4 < 4 := Nat.mod_lt _ (by decide)
    have j3 : (i + 3 * step) % 4 < 4 := Nat.mod_lt _ (by decide)
    have l0 := wv_ld bsd (i := i) (by omega)
    have l1 := wv_ld bsd (i := (i + step) % 4) (by omega)
    have l2 := wv_ld bsd (i := (i + 2) % 4) (by omega)
    have l3 := wv_ld bsd (i := (i + 3 * step) % 4) (by omega)
    have lk := wc_ld bw.drew (i := r + i) (by omega)
    have erk : IntKind.i64.wrap ((r : Int) + (i : Int)) = ((r + i : Nat) : Int) := by rw [w64 (by omega) (by omega)]; omega
    have p0 : Int.fdiv (((st.getD i z4).n : Nat) : Int) (2 ^ 24) = ((byteW (st.getD i z4) 0 : Nat) : Int) := pk_0 k0.2.1 k0.2.2.1 k0.2.2.2
    have p1 : bits .and .u32 (Int.fdiv (((st.getD ((i + step) % 4) z4).n : Nat) : Int) (2 ^ 16)) 255 = ((byteW (st.getD ((i + step) % 4) z4) 1 : Nat) : Int) := pk_1 k1.1 k1.2.1 k1.2.2.1 k1.2.2.2
    have p2 : bits .and .u32 (Int.fdiv (((st.getD ((i + 2) % 4) z4).n : Nat) : Int) (2 ^ 8)) 255 = ((byteW (st.getD ((i + 2) % 4) z4) 2 : Nat) : Int) := pk_2 k2.1 k2.2.1 k2.2.2.1 k2.2.2.2
    have p3 : bits .and .u32 (((st.getD ((i + 3 * step) % 4) z4).n : Nat) : Int) 255 = ((byteW (st.getD ((i + 3 * step) % 4) z4) 3 : Nat) : Int) := pk_3 k3.1 k3.2.1 k3.2.2.1 k3.2.2.2
    have q0 := byteW_lt k0 0
    have q1 := byteW_lt k1 1
    have q2 := byteW_lt k2 2
    have q3 := byteW_lt k3 3
    have t0 := hT btd (r := 0) (by decide) q0
    have t1 := hT btd (r := 1) (by decide) q1
    have t2 := hT btd (r := 2) (by decide) q2
    have t3 := hT btd (r := 3) (by decide) q3
    have o0 := W4.ok_rr (mulW_ok (hf _ q0) Y) 0
    have o1 := W4.ok_rr (mulW_ok (hf _ q1) Y) 1
    have o2 := W4.ok_rr (mulW_ok (hf _ q2) Y) 2
    have o3 := W4.ok_rr (mulW_ok (hf _ q3) Y) 3
    have x1 := W4.xor_n o0 o1
    have x2 := W4.xor_n (W4.ok_xor o0 o1) o2
    have x3 := W4.xor_n (W4.ok_xor (W4.ok_xor o0 o1) o2) o3
    have x4 := W4.xor_n (W4.ok_xor (W4.ok_xor (W4.ok_xor o0 o1) o2) o3) (getD_ok hW (r + i))
    obtain ⟨w1, c1, c2, c3⟩ := b.drew.stC (i := i) (by rw [wv_len, upL_len]; exact hi) (.int .u32 ((((mcW Y (subW4 f step st i)).xor (W.getD (r + i) z4)).n : Nat) : Int))
    rw [upL_set (f := fun c => (mcW Y (subW4 f step st c)).xor (W.getD (r + c) z4)) hi] at c2
    have c3 : Upd (· = gx) w w1 := c3.predrew
    obtain ⟨w2, g1, g2, g3⟩ := ih (i + 1) fu w1 (by omega) (by omega) (bw.upd c3 h1) (bt.upd c3 h3) (bs.upd c3 h2) c2
    refine ⟨w2, ?_, g2, c3.trans' g3 fun _ _ e => e⟩
    have e1 : IntKind.i64.wrap ((i : Int) + 1) = ((i + 1 : Nat) : Int) := by rw [w64 (by omega) (by omega)]; rfl
    have c1' : stC ((⟨gx, 0, none⟩ : Addr).add (i * 1)) (.int .u32 ((((mcW Y (subW4 f step st i)).xor (W.getD (r + i) z4)).n : Nat) : Int)) w.drew = some w1 := by
      rw [add_lit, Nat.mul_one, Nat.zero_add]; exact c1
    have eu : rijndael_through_l2 K (fu + 1) = rijndael_through_l2_b K (rijndael_through_l2 K fu) := rfl
    rw [eu]
    unfold rijndael_through_l2_b
    rw [if_pos (decide_eq_true (by omega)), if_pos (nat_in hi), Option.bind_some, m1, if_pos (nat_in j1), Option.bind_some, m2, if_pos (nat_in j2), Option.bind_some, e3s, m3, if_pos (nat_in j3), Option.bind_some, Option.bind_some, erk, if_pos (nat_in (show r + i < n by omega)), Int.toNat_natCast, Int.toNat_natCast, Int.toNat_natCast, Int.toNat_natCast, Int.toNat_natCast,
      l0, Option.bind_some, p0, if_pos (nat_in q0), Int.toNat_natCast, t0, Option.bind_some, l1, Option.bind_some, p1, if_pos (nat_in q1), Int.toNat_natCast, t1, Option.bind_some, l2, Option.bind_some, p2, if_pos (nat_in q2), Int.toNat_natCast, t2, Option.bind_some, l3, Option.bind_some, p3, if_pos (nat_in q3), Int.toNat_natCast, t3, Option.bind_some, lk, Option.bind_some, if_pos (nat_in hi), x1, x2, x3, x4]
    show (stC _ (.int .u32 ((((mcW Y (subW4 f step st i)).xor (W.getD (r + i) z4)).n : Nat) : Int)) w.drew).bind _ = _
    rw [c1', Option.bind_some, e1, g1]

theorem thr_l1 {K : Nat} {W : List W4} (hW : ∀ x ∈ W, x.ok) {n : Nat} (hn : W.length = n) (hn4 : n % 4 = 0) (hn8 : 8 ≤ n) (hn1 : n ≤ 1000) {t gw : Nat} {step : Nat} (hstep : step ≤ 3) {f : Nat → Nat} (hf : ∀ i, i < 256 → f i < 256) {Y : W4} {o : Nat} (hT : ∀ {w : World}, Bk 130 w t tabsL → ∀ {r i : Nat}, r < 4 → i < 256 → ldI .u32 ((((⟨t, 0, none⟩ : Addr).add o).add (r * 256)).add (i * 1)) w = some (((W4.rr r (mulW (f i) Y)).n : Nat) : Int)) (hK : 300 ≤ K) {last : Option Addr} {gs : Nat} {a10 : Addr} (h1 : gw ≠ gs) (h3 : t ≠ gs) :
    ∀ (d r fu : Nat) (w : World) (st : List W4), 4 * d + r = n - 4 → r % 4 = 0 → 4 ≤ r → d < fu → (∀ x ∈ st, x.ok) → st.length = 4 → Bk 50 w gw (wc W n) → Bk 130 w t tabsL → Bk 135 w gs (wv st) →
      ∃ w', rijndael_through_l1 K fu ⟨some ⟨gw, 0, none⟩, n, n⟩ (some ((⟨t, 0, none⟩ : Addr).add o)) last (step : Int) ⟨gs, 0, none⟩ a10 ((n - 4 : Nat) : Int) (r : Int) w = some ((), w') ∧ Bk 135 w' gs (wv (rounds W f Y step d r st)) ∧ Upd (· = gs) w w' := by
  intro d
  induction d with
  | zero =>
    intro r fu w st hd hr4 hr hfu hs hl bw bt bs
    obtain ⟨fu, rfl⟩ : ∃ m, fu = m + 1 := ⟨fu - 1, by omega⟩
    refine ⟨w, ?_, bs, Upd.refl _ w⟩
    have eu : rijndael_through_l1 K (fu + 1) = rijndael_through_l1_b K (rijndael_through_l1 K fu) := rfl
    rw [eu]
    unfold rijndael_through_l1_b
    rw [if_neg (fun e => by have := of_decide_eq_true e; omega)]
  | succ d ih =>
    intro r fu w st hd hr4 hr hfu hs hl bw bt bs
    obtain ⟨fu, rfl⟩ : ∃ m, fu = m + 1 := ⟨fu - 1, by omega⟩
    obtain ⟨w1, n1, b1, u1, z1⟩ := newB_ok z135 135 w
    have b1 : Bk 135 w1 w.heap.size (wv (fourL fun _ => z4)) := b1
    rw [← upL_zero (fun c => (mcW Y (subW4 f step st c)).xor (W.getD (r + c) z4))] at b1
    have hgw := bw.lt
    have hgt := bt.lt
    have hgs := bs.lt
    obtain ⟨w2, a2, b2, u2⟩ := thr_l2 (K := K) hW hn hn8 hn1 hstep hf hT (last := last) (gs := gs) (gx := w.heap.size) (a10 := a10) (nn := ((n - 4 : Nat) : Int)) (r := r) (by omega) hs hl (by omega) (by omega) (by omega) 4 0 K w1 rfl (by omega) (bw.upd0 u1) (bt.upd0 u1) (bs.upd0 u1) b1
    have a2 : rijndael_through_l2 K K ⟨some ⟨gw, 0, none⟩, n, n⟩ (some ((⟨t, 0, none⟩ : Addr).add o)) last (step : Int) ⟨gs, 0, none⟩ a10 ((n - 4 : Nat) : Int) (r : Int) ⟨w.heap.size, 0, none⟩ 0 w1 = _ := a2
    have q2 : Upd none_ w w2 := u1.trans' u2 fun k hk e => by omega
    have hl2 := b2.ldA (i := 0) (n := 4) (by rw [wv_len, rnd_len]; decide)
    rw [List.drop_zero, List.take_of_length_le (by rw [wv_len, rnd_len]; decide)] at hl2
    obtain ⟨w3, a3, b3, u3⟩ := (bs.upd0 q2).stA (o := 0) (vs := (wv (rnd W f Y step r st)).toArray) (by rw [List.size_toArray, wv_len, rnd_len, wv_len, hl]; decide) (fun v hv => wv_one _ v hv)
    have b3 : Bk 135 w3 gs (seg (wv st) 0 (wv (rnd W f Y step r st))) := b3
    rw [seg_all (by rw [wv_len, rnd_len, wv_len, hl])] at b3
    have u03 : Upd (· = gs) w w3 := (q2.mono (T := (· = gs)) fun _ _ e => e.elim).trans' u3 fun _ _ e => e
    obtain ⟨w4, g1, g2, g3⟩ := ih (r + 4) fu w3 _ (by omega) (by omega) (by omega) (by omega) (rnd_ok hW hf Y step r hs) (rnd_len _ _ _ _ _ _) (bw.upd u03 h1) (bt.upd u03 h3) b3
    refine ⟨w4, ?_, g2, u03.trans' g3 fun _ _ e => e⟩
    have e4 : IntKind.i64.wrap ((r : Int) + 4) = ((r + 4 : Nat) : Int) := by rw [w64 (by omega) (by omega)]; rfl
    have eu : rijndael_through_l1 K (fu + 1) = rijndael_through_l1_b K (rijndael_through_l1 K fu) := rfl
    rw [eu]
    unfold rijndael_through_l1_b
    rw [if_pos (decide_eq_true (by omega)), n1, bnd_ok, a2, bnd_ok, hl2, Option.bind_some, if_pos (by rw [List.size_toArray, wv_len, rnd_len]), a3, Option.bind_some, e4, g1]

theorem thr_l3 {K : Nat} {W : List W4} (hW : ∀ x ∈ W, x.ok) {n : Nat} (hn : W.length = n) (hn8 : 8 ≤ n) (hn1 : n ≤ 1000) {t gw : Nat} {step : Nat} (hstep : step ≤ 3) {f : Nat → Nat} (hf : ∀ i, i < 256 → f i < 256) {lo : Nat} (hL : ∀ {w : World}, Bk 130 w t tabsL → ∀ {i : Nat}, i < 256 → ldI .u8 (((⟨t, 0, none⟩ : Addr).add lo).add (i * 1)) w = some ((f i : Nat) : Int)) {gs gx : Nat} {a10 : Addr} {st : List W4} (hs : ∀ x ∈ st, x.ok) (hl : st.length = 4) (h1 : gw ≠ gx) (h2 : gs ≠ gx) (h3 : t ≠ gx) :
    ∀ (d i fu : Nat) (w : World), d + i = 4 → d < fu → Bk 50 w gw (wc W n) → Bk 130 w t tabsL → Bk 135 w gs (wv st) → Bk 135 w gx (wv (upL (fun c => (subW4 f step st c).xor (W.getD (n - 4 + c) z4)) (fun _ => z4) i)) →
      ∃ w', rijndael_through_l3 K fu ⟨some ⟨gw, 0, none⟩, n, n⟩ (some ((⟨t, 0, none⟩ : Addr).add lo)) (step : Int) ⟨gs, 0, none⟩ a10 ((n - 4 : Nat) : Int) ⟨gx, 0, none⟩ (i : Int) w = some ((), w') ∧ Bk 135 w' gx (wv (lastR W f step (n - 4) st)) ∧ Upd (· = gx) w w' := by
  intro d
  induction d with
  | zero =>
    intro i fu w hd hfu bw bt bs b
    obtain ⟨fu, rfl⟩ : ∃ m, fu = m + 1 := ⟨fu - 1, by omega⟩
    obtain rfl : i = 4 := by omega
    rw [upL_four] at b
    refine ⟨w, ?_, b, Upd.refl _ w⟩
    have eu : rijndael_through_l3 K (fu + 1) = rijndael_through_l3_b K (rijndael_through_l3 K fu) := rfl
    rw [eu]
    unfold rijndael_through_l3_b
    rw [if_neg (by decide)]
  | succ d ih =>
    intro i fu w hd hfu bw bt bs b
    obtain ⟨fu, rfl⟩ : ∃ m, fu = m + 1 := ⟨fu - 1, by omega⟩
    have hi : i < 4 := by omega
    have bsd := bs.drew
    have btd := bt.drew
    have k0 := getD_ok hs i
    have k1 := getD_ok hs ((i + step) % 4)
    have k2 := getD_ok hs ((i + 2) % 4)
    have k3 := getD_ok hs ((i + 3 * step) % 4)
    have m1 := mod4_ok (i := i) (k := step) hi (by omega)
    have m2 : Int.tmod (IntKind.i64.wrap ((i : Int) + 2)) 4 = (((i + 2) % 4 : Nat) : Int) := mod4_ok (i := i) (k := 2) hi (by omega)
    have e3s : IntKind.i64.wrap (3 * (step : Int)) = ((3 * step : Nat) : Int) := by rw [w64 (by omega) (by omega)]; omega
    have m3 := mod4_ok (i := i) (k := 3 * step) hi (by omega)
    have j1 : (i + step) % 4 < 4 := Nat.mod_lt _ (by decide)
    have j2 : (i + 2) % 4 < 4 := Nat.mod_lt _ (by decide)
    have j3 : (i + 3 * step) % 4 < 4 := Nat.mod_lt _ (by decide)
    have l0 := wv_ld bsd (i := i) (by omega)
    have l1 := wv_ld bsd (i := (i + step) % 4) (by omega)
    have l2 := wv_ld bsd (i := (i + 2) % 4) (by omega)
    have l3 := wv_ld bsd (i := (i + 3 * step) % 4) (by omega)
    have lk := wc_ld bw.drew (i := n - 4 + i) (by omega)
    have erk : IntKind.i64.wrap (((n - 4 : Nat) : Int) + (i : Int)) = ((n - 4 + i : Nat) : Int) := by rw [w64 (by omega) (by omega)]; omega
    have p0 : Int.fdiv (((st.getD i z4).n : Nat) : Int) (2 ^ 24) = ((byteW (st.getD i z4) 0 : Nat) : Int) := pk_0 k0.2.1 k0.2.2.1 k0.2.2.2
    have p1 : bits .and .u32 (Int.fdiv (((st.getD ((i + step) % 4) z4).n : Nat) : Int) (2 ^ 16)) 255 = ((byteW (st.getD ((i + step) % 4) z4) 1 : Nat) : Int) := pk_1 k1.1 k1.2.1 k1.2.2.1 k1.2.2.2
    have p2 : bits .and .u32 (Int.fdiv (((st.getD ((i + 2) % 4) z4).n : Nat) : Int) (2 ^ 8)) 255 = ((byteW (st.getD ((i + 2) % 4) z4) 2 : Nat) : Int) := pk_2 k2.1 k2.2.1 k2.2.2.1 k2.2.2.2
    have p3 : bits .and .u32 (((st.getD ((i + 3 * step) % 4) z4).n : Nat) : Int) 255 = ((byteW (st.getD ((i + 3 * step) % 4) z4) 3 : Nat) : Int) := pk_3 k3.1 k3.2.1 k3.2.2.1 k3.2.2.2
    have q0 := byteW_lt k0 0
    have q1 := byteW_lt k1 1
    have q2 := byteW_lt k2 2
    have q3 := byteW_lt k3 3
    have t0 := hL btd q0
    have t1 := hL btd q1
    have t2 := hL btd q2
    have t3 := hL btd q3
    have em := mk32 (hf _ q0) (hf _ q1) (hf _ q2) (hf _ q3)
    have ho : (subW4 f step st i).ok := subW4_ok hf hs i
    have x4 := W4.xor_n ho (getD_ok hW (n - 4 + i))
    obtain ⟨w1, c1, c2, c3⟩ := b.drew.stC (i := i) (by rw [wv_len, upL_len]; exact hi) (.int .u32 ((((subW4 f step st i).xor (W.getD (n - 4 + i) z4)).n : Nat) : Int))
    rw [upL_set (f := fun c => (subW4 f step st c).xor (W.getD (n - 4 + c) z4)) hi] at c2
    have c3 : Upd (· = gx) w w1 := c3.predrew
    obtain ⟨w2, g1, g2, g3⟩ := ih (i + 1) fu w1 (by omega) (by omega) (bw.upd c3 h1) (bt.upd c3 h3) (bs.upd c3 h2) c2
    refine ⟨w2, ?_, g2, c3.trans' g3 fun _ _ e => e⟩
    have e1 : IntKind.i64.wrap ((i : Int) + 1) = ((i + 1 : Nat) : Int) := by rw [w64 (by omega) (by omega)]; rfl
    have c1' : stC ((⟨gx, 0, none⟩ : Addr).add (i * 1)) (.int .u32 ((((subW4 f step st i).xor (W.getD (n - 4 + i) z4)).n : Nat) : Int)) w.drew = some w1 := by
      rw [add_lit, Nat.mul_one, Nat.zero_add]; exact c1
    have eu : rijndael_through_l3 K (fu + 1) = rijndael_through_l3_b K (rijndael_through_l3 K fu) := rfl
    rw [eu]
    unfold rijndael_through_l3_b
    rw [if_pos (decide_eq_true (by omega)), if_pos (nat_in hi), Option.bind_some, m1, if_pos (nat_in j1), Option.bind_some, m2, if_pos (nat_in j2), Option.bind_some, e3s, m3, if_pos (nat_in j3), Option.bind_some, Option.bind_some, erk, if_pos (nat_in (show n - 4 + i < n by omega)), Int.toNat_natCast, Int.toNat_natCast, Int.toNat_natCast, Int.toNat_natCast, Int.toNat_natCast,
      l0, Option.bind_some, p0, if_pos (nat_in q0), Int.toNat_natCast, t0, Option.bind_some, l1, Option.bind_some, p1, if_pos (nat_in q1), Int.toNat_natCast, t1, Option.bind_some, l2, Option.bind_some, p2, if_pos (nat_in q2), Int.toNat_natCast, t2, Option.bind_some, l3, Option.bind_some, p3, if_pos (nat_in q3), Int.toNat_natCast, t3, Option.bind_some, lk, Option.bind_some, if_pos (nat_in hi), em]
    show (stC _ (.int .u32 (bits .xor .u32 (((subW4 f step st i).n : Nat) : Int) (((W.getD (n - 4 + i) z4).n : Nat) : Int))) w.drew).bind _ = _
    rw [x4, c1', Option.bind_some, e1, g1]

theorem through_ok {K : Nat} {W : List W4} (hW : ∀ x ∈ W, x.ok) {n : Nat} (hn : W.length = n) (hn4 : n % 4 = 0) (hn8 : 8 ≤ n) (hn1 : n ≤ 1000) {t gw : Nat} {step : Nat} (hstep : step ≤ 3) {f : Nat → Nat} (hf : ∀ i, i < 256 → f i < 256) {Y : W4} {o lo : Nat} (hT : ∀ {w : World}, Bk 130 w t tabsL → ∀ {r i : Nat}, r < 4 → i < 256 → ldI .u32 ((((⟨t, 0, none⟩ : Addr).add o).add (r * 256)).add (i * 1)) w = some (((W4.rr r (mulW (f i) Y)).n : Nat) : Int)) (hL : ∀ {w : World}, Bk 130 w t tabsL → ∀ {i : Nat}, i < 256 → ldI .u8 (((⟨t, 0, none⟩ : Addr).add lo).add (i * 1)) w = some ((f i : Nat) : Int)) (hK : 300 ≤ K) {st : List W4} (hs : ∀ x ∈ st, x.ok) (hl : st.length = 4) {w : World} (bw : Bk 50 w gw (wc W n)) (bt : Bk 130 w t tabsL) :
    ∃ w', rijndael_through K (wv st).toArray ⟨some ⟨gw, 0, none⟩, n, n⟩ (some ((⟨t, 0, none⟩ : Addr).add o)) (some ((⟨t, 0, none⟩ : Addr).add lo)) (step : Int) w = some (((wv (throughF W f Y step st)).toArray, ()), w') ∧ Upd none_ w w' := by
  obtain ⟨w1, n1, b1, u1, z1⟩ := newB_ok (wv st).toArray 135 w
  obtain ⟨w2, n2, b2, u2, z2⟩ := newB_ok z135 135 w1
  have b1 : Bk 135 w1 w.heap.size (wv st) := b1
  have b2 : Bk 135 w2 w1.heap.size (wv (fourL fun _ => z4)) := b2
  have hgw := bw.lt
  have hgt := bt.lt
  have b12 := b1.upd0 u2
  have e0 : wv (upL (fun c => (st.getD c z4).xor (W.getD c z4)) (fun c => st.getD c z4) 0) = wv st := by rw [upL_zero, fourL_self hl]
  rw [← e0] at b12
  obtain ⟨w3, a3, b3, u3⟩ := thr_l0 (K := K) hW hn hn8 (t2 := some ((⟨t, 0, none⟩ : Addr).add o)) (last := some ((⟨t, 0, none⟩ : Addr).add lo)) (stp := (step : Int)) (gs := w.heap.size) (a10 := ⟨w1.heap.size, 0, none⟩) hs (by omega) 4 0 K w2 rfl (by omega) ((bw.upd0 u1).upd0 u2) b12
  have a3 : rijndael_through_l0 K K ⟨some ⟨gw, 0, none⟩, n, n⟩ (some ((⟨t, 0, none⟩ : Addr).add o)) (some ((⟨t, 0, none⟩ : Addr).add lo)) (step : Int) ⟨w.heap.size, 0, none⟩ ⟨w1.heap.size, 0, none⟩ 0 w2 = _ := a3
  have q3 : Upd none_ w w3 := (u1.and0 u2).trans' u3 fun k hk e => by omega
  have hz3 := u3.size
  obtain ⟨w4, a4, b4, u4⟩ := thr_l1 (K := K) hW hn hn4 hn8 hn1 hstep hf hT hK (last := some ((⟨t, 0, none⟩ : Addr).add lo)) (gs := w.heap.size) (a10 := ⟨w1.heap.size, 0, none⟩) (by omega) (by omega) ((n - 8) / 4) 4 K w3 _ (by omega) rfl (Nat.le_refl _) (by omega) (addK_ok hs fun c _ => getD_ok hW c) (fourL_len _) (bw.upd0 q3) (bt.upd0 q3) b3
  have a4 : rijndael_through_l1 K K ⟨some ⟨gw, 0, none⟩, n, n⟩ (some ((⟨t, 0, none⟩ : Addr).add o)) (some ((⟨t, 0, none⟩ : Addr).add lo)) (step : Int) ⟨w.heap.size, 0, none⟩ ⟨w1.heap.size, 0, none⟩ ((n - 4 : Nat) : Int) 4 w3 = _ := a4
  have q4 : Upd none_ w w4 := q3.trans' u4 fun k hk e => by omega
  have hz4 := u4.size
  obtain ⟨w5, n5, b5, u5, z5⟩ := newB_ok z135 135 w4
  have b5 : Bk 135 w5 w4.heap.size (wv (fourL fun _ => z4)) := b5
  obtain ⟨s2, hs2⟩ : ∃ s2, s2 = rounds W f Y step ((n - 8) / 4) 4 (addK st fun c => W.getD c z4) := ⟨_, rfl⟩
  have hs2o : ∀ x ∈ s2, x.ok := by rw [hs2]; exact rounds_ok hW hf Y step _ _ (addK_ok hs fun c _ => getD_ok hW c)
  have hs2l : s2.length = 4 := by rw [hs2]; exact rounds_len W f Y step _ _ (fourL_len _)
  rw [← hs2] at b4
  rw [← upL_zero (fun c => (subW4 f step s2 c).xor (W.getD (n - 4 + c) z4))] at b5
  have q5 := q4.and0 u5
  obtain ⟨w6, a6, b6, u6⟩ := thr_l3 (K := K) hW hn hn8 hn1 hstep hf hL (gs := w.heap.size) (gx := w4.heap.size) (a10 := ⟨w1.heap.size, 0, none⟩) hs2o hs2l (by omega) (by omega) (by omega) 4 0 K w5 rfl (by omega) (bw.upd0 q5) (bt.upd0 q5) (b4.upd0 u5) b5
  have a6 : rijndael_through_l3 K K ⟨some ⟨gw, 0, none⟩, n, n⟩ (some ((⟨t, 0, none⟩ : Addr).add lo)) (step : Int) ⟨w.heap.size, 0, none⟩ ⟨w1.heap.size, 0, none⟩ ((n - 4 : Nat) : Int) ⟨w4.heap.size, 0, none⟩ 0 w5 = _ := a6
  have q6 : Upd none_ w w6 := q5.trans' u6 fun k hk e => by omega
  have hF : lastR W f step (n - 4) s2 = throughF W f Y step st := by rw [hs2]; unfold throughF; rw [hn]
  rw [hF] at b6
  have hl6 := b6.ldA (i := 0) (n := 4) (by rw [wv_len, throughF_len]; decide)
  rw [List.drop_zero, List.take_of_length_le (by rw [wv_len, throughF_len]; decide)] at hl6
  have hz5 := u5.size
  have b26 : Bk 135 w6 w1.heap.size (wv (fourL fun _ => z4)) := (((b2.upd u3 (by omega)).upd u4 (by omega)).upd0 u5).upd u6 (by omega)
  obtain ⟨w7, a7, b7, u7⟩ := b26.stA (o := 0) (vs := (wv (throughF W f Y step st)).toArray) (by rw [List.size_toArray, wv_len, throughF_len, wv_len, fourL_len]; decide) (fun v hv => wv_one _ v hv)
  have b7 : Bk 135 w7 w1.heap.size (seg (wv (fourL fun _ => z4)) 0 (wv (throughF W f Y step st))) := b7
  rw [seg_all (by rw [wv_len, throughF_len, wv_len, fourL_len])] at b7
  have hl7 := b7.ldA (i := 0) (n := 4) (by rw [wv_len, throughF_len]; decide)
  rw [List.drop_zero, List.take_of_length_le (by rw [wv_len, throughF_len]; decide)] at hl7
  refine ⟨w7, ?_, q6.trans' u7 fun k hk e => by omega⟩
  have en : IntKind.i64.wrap (((n : Nat) : Int) - 4) = ((n - 4 : Nat) : Int) := by rw [w64 (by omega) (by omega)]; omega
  unfold rijndael_through
  rw [n1, bnd_ok, n2, bnd_ok, a3, bnd_ok, en, a4, bnd_ok, n5, bnd_ok, a6, bnd_ok, hl6, Option.bind_some, if_pos (by rw [List.size_toArray, wv_len, throughF_len]), a7, Option.bind_some, hl7, Option.bind_some]

/-- the cipher, and back -/
def encF (S st : List W4) : List W4 := throughF S sx encY 1 st
def decF (S st : List W4) : List W4 := throughF (backS S) ux decY 3 st

theorem encrypt_ok {K : Nat} (hK : 300 ≤ K) {w : World} {g t gw gb kl : Nat} {S : List W4} (k : KeyAt w g t gw gb kl S) {st : List W4} (hs : ∀ x ∈ st, x.ok) (hl : st.length = 4) :
    ∃ w', rijndael_tables_encrypt K (some ⟨t, 0, none⟩) ⟨some ⟨gw, 0, none⟩, S.length, S.length⟩ (bl st).toArray w = some (((bl (encF S st)).toArray, ()), w') ∧ Upd none_ w w' := by
  have hkl := k.len
  have hk := k.kl
  obtain ⟨w1, n1, b1, u1, z1⟩ := newB_ok (bl st).toArray 42 w
  obtain ⟨w2, n2, b2, u2, z2⟩ := newB_ok z42 42 w1
  have b1 : Bk 42 w1 w.heap.size (bl st) := b1
  have b2 : Bk 42 w2 w1.heap.size (bl (fourL fun _ => z4)) := b2
  have q2 : Upd none_ w w2.drew := (u1.and0 u2).drew
  have hl1 := (b1.upd0 u2).drew.ldA (i := 0) (n := 16) (by rw [bl_len hl]; decide)
  rw [List.drop_zero, List.take_of_length_le (by rw [bl_len hl]; decide)] at hl1
  obtain ⟨w3, a3, u3⟩ := load_ok hK hs hl w2.drew
  have q3 := q2.and0 u3
  obtain ⟨w4, a4, u4⟩ := through_ok (K := K) k.ok rfl (by omega) (by omega) (by omega) (t := t) (gw := gw) (step := 1) (by decide) (f := sx) (fun i hi => sx_lt hi) (Y := encY) (o := 512) (lo := 0) (fun b _ _ => tb_c b) (fun b _ => tb_s b) hK hs hl (k.bw.upd0 q3) (k.bt.upd0 q3)
  have q4 := q3.and0 u4
  have ho : ∀ x ∈ encF S st, x.ok := throughF_ok k.ok (fun i hi => sx_lt hi) encY 1 hs
  have hel : (encF S st).length = 4 := throughF_len _ _ _ _ _
  obtain ⟨w5, a5, u5⟩ := block_ok hK ho hel w4
  have u25 : Upd none_ w2 w5 := ((u3.predrew).and0 u4).and0 u5
  obtain ⟨w6, a6, b6, u6⟩ := (b2.upd0 u25).stA (o := 0) (vs := (bl (encF S st)).toArray) (by rw [List.size_toArray, bl_len hel, bl_len (fourL_len _)]; decide) (fun v hv => bl_one _ v hv)
  have b6 : Bk 42 w6 w1.heap.size (seg (bl (fourL fun _ => z4)) 0 (bl (encF S st))) := b6
  rw [seg_all (by rw [bl_len hel, bl_len (fourL_len _)])] at b6
  have hl6 := b6.ldA (i := 0) (n := 16) (by rw [bl_len hel]; decide)
  rw [List.drop_zero, List.take_of_length_le (by rw [bl_len hel]; decide)] at hl6
  refine ⟨w6, ?_, (q4.and0 u5).trans' u6 fun k hk e => by have := u1.size; omega⟩
  unfold rijndael_tables_encrypt
  rw [n1, bnd_ok, n2, bnd_ok, Option.bind_some, Option.bind_some, hl1, Option.bind_some, a3, bnd_ok]
  have a4 : rijndael_through K (wv st).toArray ⟨some ⟨gw, 0, none⟩, S.length, S.length⟩ (some ((⟨t, 0, none⟩ : Addr).add 512)) (some ((⟨t, 0, none⟩ : Addr).add 0)) 1 w3 = some (((wv (encF S st)).toArray, ()), w4) := a4
  rw [a4, bnd_ok, a5, bnd_ok, if_pos (by rw [List.size_toArray, bl_len hel]), a6, Option.bind_some, hl6, Option.bind_some]

theorem decrypt_ok {K : Nat} (hK : 300 ≤ K) {w : World} {g t gw gb kl : Nat} {S : List W4} (k : KeyAt w g t gw gb kl S) {st : List W4} (hs : ∀ x ∈ st, x.ok) (hl : st.length = 4) :
    ∃ w', rijndael_tables_decrypt K (some ⟨t, 0, none⟩) ⟨some ⟨gb, 0, none⟩, S.length, S.length⟩ (bl st).toArray w = some (((bl (decF S st)).toArray, ()), w') ∧ Upd none_ w w' := by
  have hkl := k.len
  have hk := k.kl
  obtain ⟨w1, n1, b1, u1, z1⟩ := newB_ok (bl st).toArray 42 w
  obtain ⟨w2, n2, b2, u2, z2⟩ := newB_ok z42 42 w1
  have b1 : Bk 42 w1 w.heap.size (bl st) := b1
  have b2 : Bk 42 w2 w1.heap.size (bl (fourL fun _ => z4)) := b2
  have q2 : Upd none_ w w2.drew := (u1.and0 u2).drew
  have hl1 := (b1.upd0 u2).drew.ldA (i := 0) (n := 16) (by rw [bl_len hl]; decide)
  rw [List.drop_zero, List.take_of_length_le (by rw [bl_len hl]; decide)] at hl1
  obtain ⟨w3, a3, u3⟩ := load_ok hK hs hl w2.drew
  have q3 := q2.and0 u3
  have hbo : ∀ x ∈ backS S, x.ok := fun x hx => by
    obtain ⟨j, _, rfl⟩ := List.mem_map.1 hx
    exact backV_ok k.ok j
  obtain ⟨w4, a4, u4⟩ := through_ok (K := K) hbo (backS_len S) (by omega) (by omega) (by omega) (t := t) (gw := gb) (step := 3) (by decide) (f := ux) (fun i hi => ux_lt hi) (Y := decY) (o := 1536) (lo := 256) (fun b _ _ => tb_d b) (fun b _ => tb_u b) hK hs hl (k.bb.upd0 q3) (k.bt.upd0 q3)
  have q4 := q3.and0 u4
  have ho : ∀ x ∈ decF S st, x.ok := throughF_ok hbo (fun i hi => ux_lt hi) decY 3 hs
  have hel : (decF S st).length = 4 := throughF_len _ _ _ _ _
  obtain ⟨w5, a5, u5⟩ := block_ok hK ho hel w4
  have u25 : Upd none_ w2 w5 := ((u3.predrew).and0 u4).and0 u5
  obtain ⟨w6, a6, b6, u6⟩ := (b2.upd0 u25).stA (o := 0) (vs := (bl (decF S st)).toArray) (by rw [List.size_toArray, bl_len hel, bl_len (fourL_len _)]; decide) (fun v hv => bl_one _ v hv)
  have b6 : Bk 42 w6 w1.heap.size (seg (bl (fourL fun _ => z4)) 0 (bl (decF S st))) := b6
  rw [seg_all (by rw [bl_len hel, bl_len (fourL_len _)])] at b6
  have hl6 := b6.ldA (i := 0) (n := 16) (by rw [bl_len hel]; decide)
  rw [List.drop_zero, List.take_of_length_le (by rw [bl_len hel]; decide)] at hl6
  refine ⟨w6, ?_, (q4.and0 u5).trans' u6 fun k hk e => by have := u1.size; omega⟩
  unfold rijndael_tables_decrypt
  rw [n1, bnd_ok, n2, bnd_ok, Option.bind_some, Option.bind_some, hl1, Option.bind_some, a3, bnd_ok]
  have a4 : rijndael_through K (wv st).toArray ⟨some ⟨gb, 0, none⟩, S.length, S.length⟩ (some ((⟨t, 0, none⟩ : Addr).add 1536)) (some ((⟨t, 0, none⟩ : Addr).add 256)) 3 w3 = some (((wv (decF S st)).toArray, ()), w4) := a4
  rw [a4, bnd_ok, a5, bnd_ok, if_pos (by rw [List.size_toArray, bl_len hel]), a6, Option.bind_some, hl6, Option.bind_some]

end Go.Sh

/- Package rijndael: a block of bytes under a key; blocks compared. -/
set_option linter.unusedVariables false
set_option maxRecDepth 100000
namespace Go.Sh
open Go.Fw Go.Gf Go.RowKit Go.Proofs.Tryd

/-- sixteen bytes -/
def B16 (B : List Int) : Prop := B.length = 16 ∧ ∀ z ∈ B, InK .u8 z
/-- a block of bytes as words -/
def wsB (B : List Int) : List W4 := keyS B 4
theorem wsB_ok {B : List Int} (h : B16 B) : ∀ x ∈ wsB B, x.ok := keyS_ok h.2 4
theorem wsB_len (B : List Int) : (wsB B).length = 4 := keyS_len B 4
theorem roundB_ws {B : List Int} (h : B16 B) : roundB (wsB B) = B := key_round h.2 h.1
def encB (S : List W4) (B : List Int) : List Int := roundB (encF S (wsB B))
def decB (S : List W4) (B : List Int) : List Int := roundB (decF S (wsB B))
theorem backS_ok {S : List W4} (h : ∀ x ∈ S, x.ok) : ∀ x ∈ backS S, x.ok := fun x hx => by
  obtain ⟨j, _, rfl⟩ := List.mem_map.1 hx
  exact backV_ok h j
theorem encB_16 {S : List W4} (hS : ∀ x ∈ S, x.ok) {B : List Int} (h : B16 B) : B16 (encB S B) :=
  ⟨by unfold encB encF; rw [roundB_len, throughF_len], roundB_in (throughF_ok hS (fun i hi => sx_lt hi) encY 1 (wsB_ok h))⟩
theorem decB_16 {S : List W4} (hS : ∀ x ∈ S, x.ok) {B : List Int} (h : B16 B) : B16 (decB S B) :=
  ⟨by unfold decB decF; rw [roundB_len, throughF_len], roundB_in (throughF_ok (backS_ok hS) (fun i hi => ux_lt hi) decY 3 (wsB_ok h))⟩

theorem encT_ok {K : Nat} (hK : 300 ≤ K) {w : World} {g t gw gb kl : Nat} {S : List W4} (k : KeyAt w g t gw gb kl S) {B : List Int} (h : B16 B) :
    ∃ w', rijndael_tables_encrypt K (some ⟨t, 0, none⟩) ⟨some ⟨gw, 0, none⟩, S.length, S.length⟩ (ints .u8 B).toArray w = some (((ints .u8 (encB S B)).toArray, ()), w') ∧ Upd none_ w w' := by
  have := encrypt_ok hK k (wsB_ok h) (wsB_len B)
  unfold bl at this
  rw [roundB_ws h] at this
  exact this
theorem decT_ok {K : Nat} (hK : 300 ≤ K) {w : World} {g t gw gb kl : Nat} {S : List W4} (k : KeyAt w g t gw gb kl S) {B : List Int} (h : B16 B) :
    ∃ w', rijndael_tables_decrypt K (some ⟨t, 0, none⟩) ⟨some ⟨gb, 0, none⟩, S.length, S.length⟩ (ints .u8 B).toArray w = some (((ints .u8 (decB S B)).toArray, ()), w') ∧ Upd none_ w w' := by
  have := decrypt_ok hK k (wsB_ok h) (wsB_len B)
  unfold bl at this
  rw [roundB_ws h] at this
  exact this

theorem KeyAt.ldT {w : World} {g t gw gb kl : Nat} {S : List W4} (k : KeyAt w g t gw gb kl S) : ldP ((⟨g, 0, none⟩ : Addr).add 7) w = some (some ⟨t, 0, none⟩) := by
  rw [add_lit]; exact k.b.ldP (i := 0 + 7) rfl

theorem ints16 {B : List Int} (h : B16 B) : (ints .u8 B).length = 16 := by rw [ints_length, h.1]
theorem size16 {B : List Int} (h : B16 B) : ((ints .u8 B).toArray).size = 16 := by rw [List.size_toArray, ints16 h]
theorem ldA16 {e : TypeId} {w : World} {g : Nat} {B : List Int} (b : Bk e w g (ints .u8 B)) (h : B16 B) : ldA 16 ⟨g, 0, none⟩ w = some (ints .u8 B).toArray := by
  have hl := b.ldA (i := 0) (n := 16) (by rw [ints16 h]; decide)
  rw [List.drop_zero, List.take_of_length_le (by rw [ints16 h]; decide)] at hl
  exact hl
theorem stA16 {e : TypeId} {w : World} {g : Nat} {cs : List Value} (b : Bk e w g cs) (hc : cs.length = 16) {B : List Int} (h : B16 B) :
    ∃ w', stA ⟨g, 0, none⟩ (ints .u8 B).toArray w = some w' ∧ Bk e w' g (ints .u8 B) ∧ Upd (· = g) w w' := by
  obtain ⟨w7, a7, b7, u7⟩ := b.stA (o := 0) (vs := (ints .u8 B).toArray) (by rw [size16 h, hc]; decide) (fun v hv => ints_one v hv)
  have b7 : Bk e w7 g (seg cs 0 (ints .u8 B)) := b7
  rw [seg_all (by rw [ints16 h, hc])] at b7
  exact ⟨w7, a7, b7, u7⟩
def zero16 : List Int := List.replicate 16 0
theorem zero16_ok : B16 zero16 := ⟨rfl, fun z hz => by rw [List.eq_of_mem_replicate hz]; exact ⟨by decide, by decide⟩⟩
theorem z42_zero : z42.toList = ints .u8 zero16 := rfl
theorem z42_len : z42.toList.length = 16 := rfl
theorem built42n : prog.built 42 [] = some (ints .u8 zero16).toArray := by kernel_rfl

theorem Encrypt_err {K : Nat} {k0 : Option Addr} {s : Sl} {e : Int} (he : e ≠ 0) {w : World} (hs : ∀ w', Upd none_ w w' → rijndael_Key_schedule k0 false w' = some ((s, e, ()), w')) {B : List Int} :
    ∃ w', rijndael_Key_Encrypt K k0 (ints .u8 B).toArray w = some (((ints .u8 zero16).toArray, e, ()), w') ∧ Upd none_ w w' := by
  obtain ⟨w1, n1, b1, u1, z1⟩ := newB_ok (ints .u8 B).toArray 42 w
  obtain ⟨w2, n2, b2, u2, z2⟩ := newB_ok z42 42 w1
  have q2 := u1.and0 u2
  obtain ⟨w3, a3, b3, u3⟩ := stA16 b2 z42_len zero16_ok
  refine ⟨w3, ?_, q2.trans' u3 fun k hk e => by have := u1.size; omega⟩
  unfold rijndael_Key_Encrypt
  rw [n1, bnd_ok, n2, bnd_ok, hs w2 q2, bnd_ok, if_pos (bne_iff_ne.2 he), built42n, Option.bind_some, if_pos (size16 zero16_ok), a3, Option.bind_some, ldA16 b3 zero16_ok, Option.bind_some]
theorem Decrypt_err {K : Nat} {k0 : Option Addr} {s : Sl} {e : Int} (he : e ≠ 0) {w : World} (hs : ∀ w', Upd none_ w w' → rijndael_Key_schedule k0 true w' = some ((s, e, ()), w')) {B : List Int} :
    ∃ w', rijndael_Key_Decrypt K k0 (ints .u8 B).toArray w = some (((ints .u8 zero16).toArray, e, ()), w') ∧ Upd none_ w w' := by
  obtain ⟨w1, n1, b1, u1, z1⟩ := newB_ok (ints .u8 B).toArray 42 w
  obtain ⟨w2, n2, b2, u2, z2⟩ := newB_ok z42 42 w1
  have q2 := u1.and0 u2
  obtain ⟨w3, a3, b3, u3⟩ := stA16 b2 z42_len zero16_ok
  refine ⟨w3, ?_, q2.trans' u3 fun k hk e => by have := u1.size; omega⟩
  unfold rijndael_Key_Decrypt
  rw [n1, bnd_ok, n2, bnd_ok, hs w2 q2, bnd_ok, if_pos (bne_iff_ne.2 he), built42n, Option.bind_some, if_pos (size16 zero16_ok), a3, Option.bind_some, ldA16 b3 zero16_ok, Option.bind_some]

theorem Encrypt_ok {K : Nat} (hK : 300 ≤ K) {w : World} {g t gw gb kl : Nat} {S : List W4} (k : KeyAt w g t gw gb kl S) {B : List Int} (h : B16 B) :
    ∃ w', rijndael_Key_Encrypt K (some ⟨g, 0, none⟩) (ints .u8 B).toArray w = some (((ints .u8 (encB S B)).toArray, 0, ()), w') ∧ Upd none_ w w' := by
  obtain ⟨w1, n1, b1, u1, z1⟩ := newB_ok (ints .u8 B).toArray 42 w
  obtain ⟨w2, n2, b2, u2, z2⟩ := newB_ok z42 42 w1
  have b1 : Bk 42 w1 w.heap.size (ints .u8 B) := b1
  have q2 := u1.and0 u2
  have k2 := k.upd0 q2
  have l1 := ldA16 (b1.upd0 u2).drew h
  have lt := (k.upd0 q2.drew).ldT
  obtain ⟨w3, a3, u3⟩ := encT_ok hK (k.upd0 q2.drew) h
  have ho := encB_16 k.ok h
  obtain ⟨w4, a4, b4, u4⟩ := stA16 (b2.upd0 u3.predrew) z42_len ho
  refine ⟨w4, ?_, (q2.drew.and0 u3).trans' u4 fun k hk e => by have := u1.size; omega⟩
  unfold rijndael_Key_Encrypt
  rw [n1, bnd_ok, n2, bnd_ok, sched_ok k2, bnd_ok, if_neg (show ¬ ((0 : Int) != 0) = true by decide), Option.bind_some, lt, Option.bind_some, l1, Option.bind_some]
  rw [if_neg (show ¬ false = true by decide), a3, bnd_ok, if_pos (size16 ho), a4, Option.bind_some, ldA16 b4 ho, Option.bind_some]

theorem Decrypt_ok {K : Nat} (hK : 300 ≤ K) {w : World} {g t gw gb kl : Nat} {S : List W4} (k : KeyAt w g t gw gb kl S) {B : List Int} (h : B16 B) :
    ∃ w', rijndael_Key_Decrypt K (some ⟨g, 0, none⟩) (ints .u8 B).toArray w = some (((ints .u8 (decB S B)).toArray, 0, ()), w') ∧ Upd none_ w w' := by
  obtain ⟨w1, n1, b1, u1, z1⟩ := newB_ok (ints .u8 B).toArray 42 w
  obtain ⟨w2, n2, b2, u2, z2⟩ := newB_ok z42 42 w1
  have b1 : Bk 42 w1 w.heap.size (ints .u8 B) := b1
  have q2 := u1.and0 u2
  have k2 := k.upd0 q2
  have l1 := ldA16 (b1.upd0 u2).drew h
  have lt := (k.upd0 q2.drew).ldT
  obtain ⟨w3, a3, u3⟩ := decT_ok hK (k.upd0 q2.drew) h
  have ho := decB_16 k.ok h
  obtain ⟨w4, a4, b4, u4⟩ := stA16 (b2.upd0 u3.predrew) z42_len ho
  refine ⟨w4, ?_, (q2.drew.and0 u3).trans' u4 fun k hk e => by have := u1.size; omega⟩
  unfold rijndael_Key_Decrypt
  rw [n1, bnd_ok, n2, bnd_ok, sched_ok k2, bnd_ok, if_neg (show ¬ ((0 : Int) != 0) = true by decide), Option.bind_some, lt, Option.bind_some, l1, Option.bind_some]
  rw [if_pos (show true = true from rfl), a3, bnd_ok, if_pos (size16 ho), a4, Option.bind_some, ldA16 b4 ho, Option.bind_some]

/-! ### blocks compared -/
theorem und42 : prog.underlying 42 = some (.array 16 5) := by kernel_rfl
theorem und5 : prog.underlying 5 = some (.int .u8) := by kernel_rfl
theorem cells5 : prog.cellsOf 5 = 1 := by kernel_rfl
theorem plain5 : prog.plainKey 5 = true := by kernel_rfl
theorem allI_ints (A : List Int) : (ints .u8 A).toArray.toList.all (isI .u8) = true := by
  rw [List.all_eq_true]; intro v hv
  obtain ⟨x, _, rfl⟩ := List.mem_map.1 hv
  rfl
theorem numI_ints (A : List Int) : (ints .u8 A).toArray.toList.map numI = A := by
  show (A.map (Value.int .u8)).map numI = A
  rw [List.map_map]; exact List.map_id A
theorem eq42 {A B : List Int} (hA : A.length = 16) (hB : B.length = 16) : eqA prog 42 (ints .u8 A).toArray (ints .u8 B).toArray = some (decide (A = B)) := by
  unfold eqA
  rw [und42]
  dsimp only
  rw [und5]
  dsimp only
  rw [if_pos ⟨by rw [List.size_toArray, ints_length, hA], by rw [List.size_toArray, ints_length, hB], allI_ints A, allI_ints B⟩, numI_ints, numI_ints]

end Go.Sh

/- The document's cipher and the program's: columns by products, and that products go with sums. -/
set_option linter.unusedVariables false
set_option maxRecDepth 100000
namespace Go.Sh
open Go.Fw Go.Gf Go.RowKit Go.Proofs.Tryd

theorem xt_xor {a b : Nat} (ha : a < 256) (hb : b < 256) : xt (a ^^^ b) = xt a ^^^ xt b := by
  have hh : ∀ x, x < 256 → x &&& 128 = 0 ∨ x &&& 128 = 128 := by decide +kernel
  have em : (a ^^^ b) * 2 % 256 = (a * 2 % 256) ^^^ (b * 2 % 256) := by
    have e1 : ∀ x : Nat, x * 2 % 256 = (x <<< 1) % 2 ^ 8 := fun x => by rw [Nat.shiftLeft_eq]
    rw [e1, e1, e1, Nat.shiftLeft_xor_distrib, Nat.xor_mod_two_pow]
  have ea : (a ^^^ b) &&& 128 = (a &&& 128) ^^^ (b &&& 128) := Nat.and_xor_distrib_right ..
  unfold xt
  rw [ea, em]
  obtain ⟨x, hx⟩ : ∃ x, x = a * 2 % 256 := ⟨_, rfl⟩
  obtain ⟨y, hy⟩ : ∃ y, y = b * 2 % 256 := ⟨_, rfl⟩
  rw [← hx, ← hy]
  rcases hh a ha with h1 | h1 <;> rcases hh b hb with h2 | h2 <;> rw [h1, h2]
  · rfl
  · rw [if_neg (by decide), if_pos rfl, if_neg (by decide)]; ac_rfl
  · rw [if_neg (by decide), if_neg (by decide), if_pos rfl]; ac_rfl
  · rw [if_pos (by decide), if_neg (by decide), if_neg (by decide)]
    have : (x ^^^ 27) ^^^ (y ^^^ 27) = (x ^^^ y) ^^^ (27 ^^^ 27) := by ac_rfl
    rw [this, Nat.xor_self, Nat.xor_zero]

theorem mulG_xor : ∀ (n a a' m p p' : Nat), a < 256 → a' < 256 → mulG n (a ^^^ a') m (p ^^^ p') = mulG n a m p ^^^ mulG n a' m p'
  | 0, _, _, _, _, _, _, _ => rfl
  | n + 1, a, a', m, p, p', ha, ha' => by
    unfold mulG
    rw [xt_xor ha ha']
    by_cases c : m % 2 = 1
    · rw [if_pos c, if_pos c, if_pos c]
      have : (p ^^^ p') ^^^ (a ^^^ a') = (p ^^^ a) ^^^ (p' ^^^ a') := by ac_rfl
      rw [this]
      exact mulG_xor n _ _ _ _ _ xt_lt xt_lt
    · rw [if_neg c, if_neg c, if_neg c]
      exact mulG_xor n _ _ _ _ _ xt_lt xt_lt
theorem mul_xor {a b : Nat} (ha : a < 256) (hb : b < 256) (m : Nat) : mul (a ^^^ b) m = mul a m ^^^ mul b m := mulG_xor 8 a b m 0 0 ha hb

theorem byV_mul {v : Nat} (hv : v < 256) {m : Nat} (hm : bySet m) : byV m v = mul v m := by
  have h : ∀ v, v < 256 → byV 1 v = mul v 1 ∧ byV 2 v = mul v 2 ∧ byV 3 v = mul v 3 ∧ byV 9 v = mul v 9 ∧ byV 11 v = mul v 11 ∧ byV 13 v = mul v 13 ∧ byV 14 v = mul v 14 := by decide +kernel
  obtain ⟨h1, h2, h3, h4, h5, h6, h7⟩ := h v hv
  unfold bySet at hm
  rcases hm with rfl | rfl | rfl | rfl | rfl | rfl | rfl
  · exact h1
  · exact h2
  · exact h3
  · exact h4
  · exact h5
  · exact h6
  · exact h7

theorem mulW_xor {a b : Nat} (ha : a < 256) (hb : b < 256) (Y : W4) : mulW (a ^^^ b) Y = (mulW a Y).xor (mulW b Y) := by
  unfold mulW W4.xor
  rw [mul_xor ha hb, mul_xor ha hb, mul_xor ha hb, mul_xor ha hb]
theorem rr_xor (r : Nat) (x y : W4) : W4.rr r (x.xor y) = (W4.rr r x).xor (W4.rr r y) := by
  induction r with
  | zero => rfl
  | succ r ih => show (W4.rr r (x.xor y)).rr1 = _; rw [ih]; rfl
theorem W4.xor_four (a b c d e f g h : W4) : (((a.xor b).xor (c.xor d)).xor (e.xor f)).xor (g.xor h) = (((a.xor c).xor e).xor g).xor (((b.xor d).xor f).xor h) := by
  unfold W4.xor
  dsimp only
  congr 1 <;> ac_rfl
theorem mcW_xor {x y : W4} (hx : x.ok) (hy : y.ok) (Y : W4) : mcW Y (x.xor y) = (mcW Y x).xor (mcW Y y) := by
  have ea : (x.xor y).a = x.a ^^^ y.a := rfl
  have eb : (x.xor y).b = x.b ^^^ y.b := rfl
  have ec : (x.xor y).c = x.c ^^^ y.c := rfl
  have ed : (x.xor y).d = x.d ^^^ y.d := rfl
  unfold mcW
  rw [ea, eb, ec, ed, mulW_xor hx.1 hy.1, mulW_xor hx.2.1 hy.2.1, mulW_xor hx.2.2.1 hy.2.2.1, mulW_xor hx.2.2.2 hy.2.2.2, rr_xor, rr_xor, rr_xor, rr_xor, W4.xor_four]

/-- the row of the matrix that goes with a column of products -/
def rowOf (Y : W4) : List Nat := [Y.a, Y.d, Y.c, Y.b]
theorem mcW_byte (Y x : W4) {r : Nat} (hr : r < 4) :
    byteW (mcW Y x) r = ((mul (byteW x 0) ((rowOf Y).getD ((0 + 4 - r) % 4) 0) ^^^ mul (byteW x 1) ((rowOf Y).getD ((1 + 4 - r) % 4) 0)) ^^^ mul (byteW x 2) ((rowOf Y).getD ((2 + 4 - r) % 4) 0)) ^^^ mul (byteW x 3) ((rowOf Y).getD ((3 + 4 - r) % 4) 0) := by
  have : r = 0 ∨ r = 1 ∨ r = 2 ∨ r = 3 := by omega
  rcases this with rfl | rfl | rfl | rfl <;> rfl

/-- a byte of a state -/
def byteB (st : List W4) (p : Nat) : Nat := byteW (st.getD (p / 4) z4) (p % 4)
theorem rB_get {st : List W4} {p : Nat} (h : p < 4 * st.length) : (roundB st)[p]? = some ((byteB st p : Nat) : Int) := by
  have := roundB_get st (p / 4) (p % 4) (by omega) (Nat.mod_lt _ (by decide))
  rw [Nat.div_add_mod] at this
  exact this
theorem byteB_lt {st : List W4} (h : ∀ x ∈ st, x.ok) (p : Nat) : byteB st p < 256 := byteW_lt (getD_ok h _) _

/-! ### the ways of both -/
theorem fourL_ext {f g : Nat → W4} (h : ∀ c, c < 4 → f c = g c) : fourL f = fourL g := List.map_congr_left fun c hc => h c (List.mem_range.1 hc)
/-- the document's round, there and back -/
def subL (f : Nat → Nat) (step : Nat) (st : List W4) : List W4 := fourL (subW4 f step st)
def colsL (Y : W4) (st : List W4) : List W4 := fourL fun c => mcW Y (st.getD c z4)
def addR (S : List W4) (r : Nat) (st : List W4) : List W4 := addK st fun c => S.getD (4 * r + c) z4
theorem subL_len (f : Nat → Nat) (step : Nat) (st : List W4) : (subL f step st).length = 4 := fourL_len _
theorem colsL_len (Y : W4) (st : List W4) : (colsL Y st).length = 4 := fourL_len _
theorem addR_len (S : List W4) (r : Nat) (st : List W4) : (addR S r st).length = 4 := fourL_len _
theorem subL_ok {f : Nat → Nat} (hf : ∀ i, i < 256 → f i < 256) (step : Nat) {st : List W4} (h : ∀ x ∈ st, x.ok) : ∀ x ∈ subL f step st, x.ok := fourL_ok fun c _ => subW4_ok hf h c
theorem colsL_ok (Y : W4) {st : List W4} (h : ∀ x ∈ st, x.ok) : ∀ x ∈ colsL Y st, x.ok := fourL_ok fun c _ => mcW_ok (getD_ok h c) Y
theorem addR_ok {S : List W4} (hS : ∀ x ∈ S, x.ok) (r : Nat) {st : List W4} (h : ∀ x ∈ st, x.ok) : ∀ x ∈ addR S r st, x.ok := addK_ok h fun c _ => getD_ok hS _

theorem rnd_ref (S : List W4) (f : Nat → Nat) (Y : W4) (step r : Nat) (st : List W4) : rnd S f Y step (4 * r) st = addR S r (colsL Y (subL f step st)) := by
  unfold rnd addR addK colsL subL
  refine fourL_ext fun c hc => ?_
  rw [fourL_get _ hc, fourL_get _ hc]
theorem lastR_ref (S : List W4) (f : Nat → Nat) (step r : Nat) (st : List W4) : lastR S f step (4 * r) st = addR S r (subL f step st) := by
  unfold lastR addR addK subL
  refine fourL_ext fun c hc => ?_
  rw [fourL_get _ hc]

/-- the document's rounds from r on -/
def encR (S : List W4) : Nat → Nat → List W4 → List W4
  | 0, r, st => addR S r (subL sx 1 st)
  | d + 1, r, st => encR S d (r + 1) (addR S r (colsL encY (subL sx 1 st)))
theorem encR_eq (S : List W4) : ∀ (d r : Nat) (st : List W4), encR S d r st = lastR S sx 1 (4 * (r + d)) (rounds S sx encY 1 d (4 * r) st)
  | 0, r, st => by unfold encR rounds; rw [lastR_ref]; rfl
  | d + 1, r, st => by
    have := encR_eq S d (r + 1) (addR S r (colsL encY (subL sx 1 st)))
    unfold encR rounds
    rw [this, ← rnd_ref, show r + 1 + d = r + (d + 1) by omega, show 4 * (r + 1) = 4 * r + 4 by omega]
theorem encR_ok (S : List W4) {n : Nat} (hn : S.length = 4 * (n + 1)) (h1 : 1 ≤ n) (st : List W4) : encR S (n - 1) 1 (addR S 0 st) = encF S st := by
  rw [encR_eq]
  unfold encF throughF addR
  rw [hn, show 4 * (1 + (n - 1)) = 4 * (n + 1) - 4 by omega, show (4 * (n + 1) - 8) / 4 = n - 1 by omega, Nat.mul_one]
  simp only [Nat.mul_zero, Nat.zero_add]

/-- the document's way back: from round r down -/
def decR (S : List W4) : Nat → List W4 → List W4
  | 0, st => addR S 0 st
  | r + 1, st => decR S r (subL ux 3 (colsL decY (addR S (r + 1) st)))

theorem back_mid {S : List W4} {n : Nat} (hn : S.length = 4 * (n + 1)) {i c : Nat} (hi : 1 ≤ i) (hin : i < n) (hc : c < 4) : (backS S).getD (4 * i + c) z4 = mcW decY (S.getD (4 * (n - i) + c) z4) := by
  unfold backS
  rw [List.getD_eq_getElem?_getD, List.getElem?_map, List.getElem?_range (by omega)]
  show backV S (4 * i + c) = _
  unfold backV
  rw [hn, show (4 * i + c) / 4 = i by omega, show (4 * i + c) % 4 = c by omega, if_pos ⟨by omega, by omega⟩, imc_mc, show 4 * (n + 1) - 4 - i * 4 + c = 4 * (n - i) + c by omega]
theorem back_end {S : List W4} {n : Nat} (hn : S.length = 4 * (n + 1)) {i c : Nat} (hi : i = 0 ∨ i = n) (hc : c < 4) : (backS S).getD (4 * i + c) z4 = S.getD (4 * (n - i) + c) z4 := by
  unfold backS
  rw [List.getD_eq_getElem?_getD, List.getElem?_map, List.getElem?_range (by omega)]
  show backV S (4 * i + c) = _
  unfold backV
  rw [hn, show (4 * i + c) / 4 = i by omega, show (4 * i + c) % 4 = c by omega, if_neg (by omega), show 4 * (n + 1) - 4 - i * 4 + c = 4 * (n - i) + c by omega]

theorem dec_mid {S : List W4} (hS : ∀ x ∈ S, x.ok) {n : Nat} (hn : S.length = 4 * (n + 1)) {i : Nat} (hi : 1 ≤ i) (hin : i < n) {st : List W4} (h : ∀ x ∈ st, x.ok) :
    rnd (backS S) ux decY 3 (4 * i) st = colsL decY (addR S (n - i) (subL ux 3 st)) := by
  unfold rnd colsL addR addK subL
  refine fourL_ext fun c hc => ?_
  rw [fourL_get _ hc, fourL_get _ hc, back_mid hn hi hin hc, mcW_xor (subW4_ok (fun i hi => ux_lt hi) h c) (getD_ok hS _)]

theorem decR_eq {S : List W4} (hS : ∀ x ∈ S, x.ok) {n : Nat} (hn : S.length = 4 * (n + 1)) : ∀ (r : Nat) (st : List W4), r < n → (∀ x ∈ st, x.ok) → decR S r (subL ux 3 st) = lastR (backS S) ux 3 (4 * n) (rounds (backS S) ux decY 3 r (4 * (n - r)) st)
  | 0, st, h, _ => by
    unfold decR rounds lastR addR addK subL
    refine fourL_ext fun c hc => ?_
    rw [fourL_get _ hc, back_end hn (.inr rfl) hc, Nat.sub_self]
  | r + 1, st, h, hs => by
    have hm := dec_mid hS hn (i := n - (r + 1)) (by omega) (by omega) hs
    have hn1 : n - (n - (r + 1)) = r + 1 := by omega
    rw [hn1] at hm
    have ih := decR_eq hS hn r (rnd (backS S) ux decY 3 (4 * (n - (r + 1))) st) (by omega) (rnd_ok (backS_ok hS) (fun i hi => ux_lt hi) decY 3 _ hs)
    unfold decR
    rw [← hm, ih]
    show _ = lastR (backS S) ux 3 (4 * n) (rounds (backS S) ux decY 3 r (4 * (n - (r + 1)) + 4) (rnd (backS S) ux decY 3 (4 * (n - (r + 1))) st))
    rw [show 4 * (n - (r + 1)) + 4 = 4 * (n - r) by omega]

theorem decR_ok {S : List W4} (hS : ∀ x ∈ S, x.ok) {n : Nat} (hn : S.length = 4 * (n + 1)) (h1 : 1 ≤ n) {st : List W4} (h : ∀ x ∈ st, x.ok) : decR S (n - 1) (subL ux 3 (addR S n st)) = decF S st := by
  rw [decR_eq hS hn (n - 1) _ (by omega) (addR_ok hS n h)]
  unfold decF throughF
  rw [backS_len, hn, show 4 * (n + 1) - 4 = 4 * n by omega, show (4 * (n + 1) - 8) / 4 = n - 1 by omega, show 4 * (n - (n - 1)) = 4 by omega]
  have : addR S n st = addK st fun c => (backS S).getD c z4 := by
    unfold addR addK
    refine fourL_ext fun c hc => ?_
    have := back_end hn (i := 0) (.inl rfl) hc
    rw [Nat.mul_zero, Nat.zero_add, Nat.sub_zero] at this
    dsimp only
    rw [this]
  rw [this]

end Go.Sh

/- Package rijndael: a stream begins, a block as a number and n more, how much may be used. -/
set_option linter.unusedVariables false
set_option maxRecDepth 100000
namespace Go.Sh
open Go.Fw Go.Gf Go.RowKit Go.Proofs.Tryd

theorem Bk.apart {e e' : TypeId} (h : e ≠ e') {w : World} {g g' : Nat} {cs cs' : List Value} (b : Bk e w g cs) (b' : Bk e' w g' cs') : g ≠ g' := fun he => by
  subst he
  unfold Bk at b b'
  rw [b] at b'
  simp only [Option.some.injEq, Obj.cells.injEq] at b'
  exact h b'.2.1

/-! ### a stream's block -/
def streamC (g : Option Addr) (B : List Int) (a : Nat) : List Value := .pointer g :: (ints .u8 B ++ [.int .u64 ((a : Nat) : Int)])
theorem streamC_len {g : Option Addr} {B : List Int} (h : B16 B) (a : Nat) : (streamC g B a).length = 18 := by
  unfold streamC; rw [List.length_cons, List.length_append, ints16 h]; rfl
theorem streamC_at {g : Option Addr} {B : List Int} (h : B16 B) (a : Nat) : (streamC g B a)[17]? = some (.int .u64 ((a : Nat) : Int)) := by
  unfold streamC
  rw [List.getElem?_cons_succ, List.getElem?_append_right (by rw [ints16 h]; decide), ints16 h]; rfl
theorem streamC_set {g : Option Addr} {B : List Int} (h : B16 B) (a b : Nat) : (streamC g B a).set 17 (.int .u64 ((b : Nat) : Int)) = streamC g B b := by
  unfold streamC
  rw [List.set_cons_succ, List.set_append_right _ _ (by rw [ints16 h]; decide), ints16 h]; rfl
theorem streamC_start {g : Option Addr} {B : List Int} (h : B16 B) (a : Nat) : ((streamC g B a).drop 1).take 16 = ints .u8 B := by
  unfold streamC
  rw [List.drop_succ_cons, List.drop_zero, List.take_append_of_le_length (by rw [ints16 h]; decide), List.take_of_length_le (by rw [ints16 h]; decide)]
theorem st_key {w : World} {s : Nat} {g : Option Addr} {B : List Int} {a : Nat} (b : Bk 107 w s (streamC g B a)) : ldP ((⟨s, 0, none⟩ : Addr).add 0) w = some g := by rw [add_lit]; exact b.ldP (i := 0 + 0) rfl
theorem st_at {w : World} {s : Nat} {g : Option Addr} {B : List Int} {a : Nat} (b : Bk 107 w s (streamC g B a)) (h : B16 B) : ldI .u64 ((⟨s, 0, none⟩ : Addr).add 17) w = some ((a : Nat) : Int) := by rw [add_lit]; exact b.ldI (i := 0 + 17) (streamC_at h a)
theorem st_start {w : World} {s : Nat} {g : Option Addr} {B : List Int} {a : Nat} (b : Bk 107 w s (streamC g B a)) (h : B16 B) : ldA 16 ((⟨s, 0, none⟩ : Addr).add 1) w = some (ints .u8 B).toArray := by
  rw [add_lit]
  have := b.ldA (i := 0 + 1) (n := 16) (by rw [streamC_len h]; decide)
  rw [Nat.zero_add, streamC_start h] at this
  exact this
theorem st_set {w : World} {s : Nat} {g : Option Addr} {B : List Int} {a : Nat} (b : Bk 107 w s (streamC g B a)) (h : B16 B) (a' : Nat) :
    ∃ w', stC ((⟨s, 0, none⟩ : Addr).add 17) (.int .u64 ((a' : Nat) : Int)) w = some w' ∧ Bk 107 w' s (streamC g B a') ∧ Upd (· = s) w w' := by
  obtain ⟨w1, c1, c2, c3⟩ := b.stC (i := 17) (by rw [streamC_len h]; decide) (.int .u64 ((a' : Nat) : Int))
  rw [streamC_set h] at c2
  exact ⟨w1, by rw [add_lit, Nat.zero_add]; exact c1, c2, c3⟩

theorem built107 (k0 : Option Addr) (a b c d e f g h i j k l m n o p : Value) :
    prog.built 107 [(0, (.pointer k0)), (1, (.agg #[a, b, c, d, e, f, g, h, i, j, k, l, m, n, o, p]))] = some #[.pointer k0, a, b, c, d, e, f, g, h, i, j, k, l, m, n, o, p, .int .u64 0] := by kernel_rfl
theorem built107B (k0 : Option Addr) {B : List Int} (h : B16 B) : prog.built 107 [(0, (.pointer k0)), (1, (.agg (ints .u8 B).toArray))] = some (streamC k0 B 0).toArray := by
  obtain ⟨hl, _⟩ := h
  match B, hl with
  | [a, b, c, d, e, f, g, h, i, j, k, l, m, n, o, p], _ => exact built107 k0 _ _ _ _ _ _ _ _ _ _ _ _ _ _ _ _

theorem Stream_new {k0 : Option Addr} {w : World} {ws : Sl} (hs : ∀ w', Upd none_ w w' → rijndael_Key_schedule k0 false w' = some ((ws, 0, ()), w')) {B : List Int} (h : B16 B) :
    ∃ s w', rijndael_Key_Stream k0 (ints .u8 B).toArray w = some ((some ⟨s, 0, none⟩, 0, ()), w') ∧ Bk 107 w' s (streamC k0 B 0) ∧ w.heap.size ≤ s ∧ Upd none_ w w' := by
  obtain ⟨w1, n1, b1, u1, z1⟩ := newB_ok (ints .u8 B).toArray 42 w
  have b1 : Bk 42 w1 w.heap.size (ints .u8 B) := b1
  obtain ⟨w2, n2, b2, u2, z2⟩ := newB_ok (streamC k0 B 0).toArray 107 w1
  refine ⟨w1.heap.size, w2, ?_, b2, by omega, u1.and0 u2⟩
  unfold rijndael_Key_Stream
  rw [n1, bnd_ok, hs w1 u1, bnd_ok, if_neg (show ¬ ((0 : Int) != 0) = true by decide), ldA16 b1 h, Option.bind_some, built107B k0 h, Option.bind_some, n2, bnd_ok]
theorem Stream_err {k0 : Option Addr} {w : World} {ws : Sl} {e : Int} (he : e ≠ 0) (hs : ∀ w', Upd none_ w w' → rijndael_Key_schedule k0 false w' = some ((ws, e, ()), w')) {B : List Int} :
    ∃ w', rijndael_Key_Stream k0 (ints .u8 B).toArray w = some ((none, e, ()), w') ∧ Upd none_ w w' := by
  obtain ⟨w1, n1, b1, u1, z1⟩ := newB_ok (ints .u8 B).toArray 42 w
  refine ⟨w1, ?_, u1⟩
  unfold rijndael_Key_Stream
  rw [n1, bnd_ok, hs w1 u1, bnd_ok, if_pos (bne_iff_ne.2 he)]

/-! ### how much may be used -/
theorem further_nil (n : Int) (w : World) : rijndael_Stream_further none n w = some ((⟨none, 0, 0⟩, 1, ()), w) := rfl
theorem further_err {k0 : Option Addr} {w : World} {ws : Sl} {e : Int} (he : e ≠ 0) (hs : rijndael_Key_schedule k0 false w = some ((ws, e, ()), w)) {s : Nat} {B : List Int} {a : Nat} (b : Bk 107 w s (streamC k0 B a)) (n : Int) :
    rijndael_Stream_further (some ⟨s, 0, none⟩) n w = some ((ws, e, ()), w) := by
  have e0 : rijndael_Stream_further_s0 (some ⟨s, 0, none⟩) n e w = some ((false, ()), w) := by
    unfold rijndael_Stream_further_s0
    rw [if_neg (fun h => he (eq_of_beq h))]
  unfold rijndael_Stream_further
  rw [if_neg (show ¬ (some (⟨s, 0, none⟩ : Addr)).isNone = true from Bool.noConfusion), Option.bind_some, st_key b, Option.bind_some, hs, bnd_ok, e0, bnd_ok]
  rfl
theorem further_ok {k0 : Option Addr} {w : World} {ws : Sl} (hs : rijndael_Key_schedule k0 false w = some ((ws, 0, ()), w)) {s : Nat} {B : List Int} (h : B16 B) {a : Nat} (b : Bk 107 w s (streamC k0 B a)) (ha : a ≤ 1099511627776) {n : Nat} :
    rijndael_Stream_further (some ⟨s, 0, none⟩) (n : Int) w = some ((if n ≤ 1099511627776 - a then ws else ⟨none, 0, 0⟩, if n ≤ 1099511627776 - a then 0 else 4, ()), w) := by
  have ew : IntKind.u64.wrap (1099511627776 - ((a : Nat) : Int)) = ((1099511627776 - a : Nat) : Int) := by rw [IntKind.wrap_u64]; omega
  have e0 : rijndael_Stream_further_s0 (some ⟨s, 0, none⟩) (n : Int) 0 w = some ((decide ((n : Int) > ((1099511627776 - a : Nat) : Int)), ()), w) := by
    unfold rijndael_Stream_further_s0
    rw [if_pos (show ((0 : Int) == 0) = true from rfl), Option.bind_some, st_at b h, Option.bind_some, ew]
  unfold rijndael_Stream_further
  rw [if_neg (show ¬ (some (⟨s, 0, none⟩ : Addr)).isNone = true from Bool.noConfusion), Option.bind_some, st_key b, Option.bind_some, hs, bnd_ok, e0, bnd_ok]
  by_cases c : n ≤ 1099511627776 - a
  · rw [if_neg (fun e => by have := of_decide_eq_true e; omega), if_pos c, if_pos c]
  · rw [if_pos (decide_eq_true (by omega)), if_neg c, if_neg c]

/-! ### a block as a number, and n more -/
def loB (B : List Int) (n : Nat) : Nat := (numN (B.drop 8) + n) % 18446744073709551616
def hiB (B : List Int) (n : Nat) : Nat := if loB B n < numN (B.drop 8) then (numN (B.take 8) + 1) % 18446744073709551616 else numN (B.take 8)
def plusB (B : List Int) (n : Nat) : List Int := layB 8 (hiB B n) ++ layB 8 (loB B n)
theorem layB_in (size n : Nat) : ∀ z ∈ layB size n, InK .u8 z := fun z hz => by
  obtain ⟨i, _, rfl⟩ := List.mem_map.1 hz
  exact InK.of_nat (k := .u8) (Nat.mod_lt _ (by decide))
theorem plusB_16 (B : List Int) (n : Nat) : B16 (plusB B n) := ⟨by unfold plusB; rw [List.length_append, layB_len, layB_len], fun z hz => by
  rcases List.mem_append.1 hz with h | h
  · exact layB_in _ _ z h
  · exact layB_in _ _ z h⟩

theorem numN8 {zs : List Int} (h : ∀ z ∈ zs, InK .u8 z) (hl : zs.length = 8) : numN zs < 18446744073709551616 := by
  have := numN_lt h; rw [hl] at this; exact this

theorem seg8 {B : List Int} (h : B.length = 16) {Y : List Int} (hy : Y.length = 8) : seg (ints .u8 B) 8 (ints .u8 Y) = ints .u8 (B.take 8 ++ Y) := by
  unfold seg
  rw [ints_length, hy, List.drop_eq_nil_of_le (by rw [ints_length, h]; decide), List.append_nil, ints_take, ints_append]
theorem seg0 {X Z Y : List Int} (hx : X.length = 8) (hy : Y.length = 8) : seg (ints .u8 (X ++ Z)) 0 (ints .u8 Y) = ints .u8 (Y ++ Z) := by
  unfold seg
  rw [ints_length, hy, List.take_zero, List.nil_append, Nat.zero_add, ints_append, List.drop_append_of_le_length (by rw [ints_length, hx]; decide), List.drop_eq_nil_of_le (by rw [ints_length, hx]; decide), List.nil_append, ints_append]

theorem sl8 {w : World} {e : TypeId} {g : Nat} {B : List Int} (b : Bk e w g (ints .u8 B)) (h : B16 B) : RdS .u8 w ⟨some ⟨g, 0, none⟩, 16, 16⟩ B :=
  ⟨h.1.symm, Nat.le_refl _, .inr ⟨_, rfl, b.rd 0 _ fun i v hv => by rw [Nat.zero_add]; exact hv⟩⟩
theorem at8 (g : Nat) : sla (some (⟨g, 0, none⟩ : Addr)) 8 16 1 = some ⟨g, 8, none⟩ := rfl
theorem at0 (g : Nat) : sla (some (⟨g, 0, none⟩ : Addr)) 0 16 1 = some ⟨g, 0, none⟩ := rfl

/-- the last eight bytes of a block as a number, and the first -/
theorem number_lo {K : Nat} (hK : 300 ≤ K) {w : World} {e : TypeId} {g : Nat} {B : List Int} (b : Bk e w g (ints .u8 B)) (h : B16 B) : rijndael_number K ⟨sla (some ⟨g, 0, none⟩) 8 16 1, 16 - 8, 16 - 8⟩ 8 w = some (((numN (B.drop 8) : Nat) : Int), ()) := by
  have r := (sl8 b h).sub (lo := 8) (hi := 16) (by decide) (by rw [h.1]; decide)
  rw [List.take_of_length_le (by rw [h.1]; decide)] at r
  have := number_ok hK r (fun z hz => h.2 z (List.mem_of_mem_drop hz)) (n := 8) (by rw [List.length_drop, h.1]; decide) (by decide)
  rw [List.take_of_length_le (by rw [List.length_drop, h.1]; decide)] at this
  exact this
theorem number_hi {K : Nat} (hK : 300 ≤ K) {w : World} {e : TypeId} {g : Nat} {B : List Int} (b : Bk e w g (ints .u8 B)) (h : B16 B) {len cap : Nat} (hl : 8 ≤ len) (hl2 : len ≤ 16) (hc : cap = 16) : rijndael_number K ⟨sla (some ⟨g, 0, none⟩) 0 16 1, len, cap⟩ 8 w = some (((numN (B.take 8) : Nat) : Int), ()) := by
  subst hc
  have r := (sl8 b h).sub (lo := 0) (hi := len) (by omega) (by rw [h.1]; exact hl2)
  rw [List.drop_zero] at r
  have := number_ok hK r (fun z hz => h.2 z (List.mem_of_mem_take hz)) (n := 8) (by rw [List.length_take, h.1]; omega) (by decide)
  rw [List.take_take, Nat.min_eq_left hl] at this
  exact this

theorem plus_ok {K : Nat} (hK : 300 ≤ K) {B : List Int} (h : B16 B) {n : Nat} (hn : n < 18446744073709551616) (w : World) :
    ∃ w', rijndael_plus K (ints .u8 B).toArray (n : Int) w = some (((ints .u8 (plusB B n)).toArray, ()), w') ∧ Upd none_ w w' := by
  obtain ⟨w1, n1, b1, u1, z1⟩ := newB_ok (ints .u8 B).toArray 42 w
  obtain ⟨w2, n2, b2, u2, z2⟩ := newB_ok z42 42 w1
  have b1 : Bk 42 w1 w.heap.size (ints .u8 B) := b1
  have b12 := b1.upd0 u2
  have lo := number_lo hK b12 h
  have hi := number_hi hK b12 h (len := 8 - 0) (cap := 16 - 0) (by decide) (by decide) rfl
  have hlo : numN (B.drop 8) < 18446744073709551616 := numN8 (fun z hz => h.2 z (List.mem_of_mem_drop hz)) (by rw [List.length_drop, h.1])
  have hhi : numN (B.take 8) < 18446744073709551616 := numN8 (fun z hz => h.2 z (List.mem_of_mem_take hz)) (by rw [List.length_take, h.1]; rfl)
  have hl2 : loB B n < 18446744073709551616 := Nat.mod_lt _ (by decide)
  have hh2 : hiB B n < 18446744073709551616 := by
    unfold hiB; split
    · exact Nat.mod_lt _ (by decide)
    · exact hhi
  have ew : IntKind.u64.wrap (((numN (B.drop 8) : Nat) : Int) + (n : Int)) = ((loB B n : Nat) : Int) := by rw [IntKind.wrap_u64]; unfold loB; omega
  have es : rijndael_plus_s0 K ((numN (B.take 8) : Nat) : Int) (decide (((loB B n : Nat) : Int) < ((numN (B.drop 8) : Nat) : Int))) w2 = some ((((hiB B n : Nat) : Int), ()), w2) := by
    unfold rijndael_plus_s0 hiB
    by_cases c : loB B n < numN (B.drop 8)
    · rw [if_pos (decide_eq_true (by omega)), if_pos c, IntKind.wrap_u64]
      have : (((numN (B.take 8) : Nat) : Int) + 1) % 18446744073709551616 = (((numN (B.take 8) + 1) % 18446744073709551616 : Nat) : Int) := by omega
      rw [← this]
    · rw [if_neg (fun e => by have := of_decide_eq_true e; omega), if_neg c]
  obtain ⟨w3, a3, b3, u3⟩ := lay_ok hK (e := 42) (g := w.heap.size) (o := 8) (size := 8) (n := loB B n) (len := 16 - 8) (cap := 16 - 8) (by decide) (by decide) (by rw [ints16 h]; decide) hl2 b12
  rw [seg8 h.1 (layB_len _ _)] at b3
  obtain ⟨w4, a4, b4, u4⟩ := lay_ok hK (e := 42) (g := w.heap.size) (o := 0) (size := 8) (n := hiB B n) (len := 8 - 0) (cap := 16 - 0) (by decide) (by decide) (by rw [ints_length, List.length_append, layB_len, List.length_take, h.1]; decide) hh2 b3
  rw [seg0 (by rw [List.length_take, h.1]; rfl) (layB_len _ _)] at b4
  have b4 : Bk 42 w4 w.heap.size (ints .u8 (plusB B n)) := b4
  have a3 : rijndael_lay K ⟨some ⟨w.heap.size, 8, none⟩, 16 - 8, 16 - 8⟩ 8 ((loB B n : Nat) : Int) w2 = some ((), w3) := a3
  have a4 : rijndael_lay K ⟨some ⟨w.heap.size, 0, none⟩, 8 - 0, 16 - 0⟩ 8 ((hiB B n : Nat) : Int) w3 = some ((), w4) := a4
  have hp := plusB_16 B n
  obtain ⟨w5, a5, b5, u5⟩ := stA16 ((b2.upd u3 (by omega)).upd u4 (by omega)) z42_len hp
  refine ⟨w5, ?_, (((u1.and0 u2).trans' u3 fun k hk e => by omega).trans' u4 fun k hk e => by omega).trans' u5 fun k hk e => by omega⟩
  unfold rijndael_plus
  rw [n1, bnd_ok, n2, bnd_ok, lo, Option.bind_some, hi, Option.bind_some, ew, es, bnd_ok, at8, a3, bnd_ok, at0, a4, bnd_ok, ldA16 b4 hp, Option.bind_some, if_pos (size16 hp), a5, Option.bind_some, ldA16 b5 hp, Option.bind_some]

end Go.Sh

/- What the helpers of the package cofferbook do. YtfilmbfijaeclaaDoor, Tryd, 22, 5 are filled in for a seat (book.sh). -/
set_option linter.unusedVariables false
namespace Go.Sh
open Go.Fw Go.RowKit Go.Proofs.Tryd

/-! ### Bytes -/

def marks : List Int := (List.range 70).map fun i => (((181 + i) % 256 : Nat) : Int)

theorem marks_len : marks.length = 70 := rfl

theorem mark_at (i : Nat) (hi : i < 70) : IntKind.u8.wrap (IntKind.i64.wrap (181 + (i : Int))) = marks[i]'(by rw [marks_len]; exact hi) := by
  rw [w64 (by omega) (by omega), IntKind.wrap_u8]
  simp [marks]

theorem Bytes_loop (K B : Nat) (l : Sl) :
    ∀ (d i n : Nat) (w : World) (s : Sl) (xs : List Int), i + d = 70 → d < n → Own 5 w s (ints .u8 xs) → s.len + d ≤ 140737488355328 → B ≤ w.heap.size → Fresh B s →
      ∃ s' w', book_Bytes_l0 K n l s (i : Int) w = some ((s', ()), w') ∧ Own 5 w' s' (ints .u8 (xs ++ marks.drop i)) ∧ Below B w w' ∧ Fresh B s' := by
  intro d
  induction d with
  | zero =>
    intro i n w s xs hi hn ho hs hB hf
    obtain ⟨n, rfl⟩ : ∃ m, n = m + 1 := ⟨n - 1, by omega⟩
    have : i = 70 := by omega
    subst this
    refine ⟨s, w, ?_, ?_, Below.refl B w, hf⟩
    · show book_Bytes_l0_b K (book_Bytes_l0 K n) l s ((70 : Nat) : Int) w = _
      simp [book_Bytes_l0_b]
    · have : marks.drop 70 = [] := rfl
      rw [this, List.append_nil]; exact ho
  | succ d ih =>
    intro i n w s xs hi hn ho hs hB hf
    obtain ⟨n, rfl⟩ : ∃ m, n = m + 1 := ⟨n - 1, by omega⟩
    have hi70 : i < 70 := by omega
    obtain ⟨w1, h1, ho1, u1, hz1⟩ := bldS1_ok sliceB (.int .u8 (marks[i]'(by rw [marks_len]; exact hi70))) rfl w
    have hfr : ∀ k, s.blk = some k → ¬ (none_ k) := fun _ _ => id
    obtain ⟨s2, w2, h2, l2, ho2, u2, b2⟩ := apd_ok sliceB (ho.upd0 u1) (ho1.src (by simp [Value.oneCell'])) (by show (s.len + 1) * 1 ≤ _; omega)
    have bl1 : Below B w w1 := u1.below hB fun _ _ => id
    have bl2 : Below B w w2 := below_upd bl1 u2 (by omega) fun k hk e => by have := hf k e; omega
    have hf2 : Fresh B s2 := by
      intro k hk
      rcases b2 with e | e
      · exact hf k (e ▸ hk)
      · rw [e] at hk; have := Option.some.inj hk; omega
    obtain ⟨s3, w3, h3, ho3, bl3, hf3⟩ := ih (i + 1) n w2 s2 (xs ++ [marks[i]'(by rw [marks_len]; exact hi70)]) (by omega) (by omega) (by simpa using ho2) (by rw [l2]; show s.len + 1 + d ≤ _; omega) (by have := bl2.size; omega) hf2
    refine ⟨s3, w3, ?_, ?_, bl2.trans bl3, hf3⟩
    · show book_Bytes_l0_b K (book_Bytes_l0 K n) l s (i : Int) w = _
      have hw : IntKind.i64.wrap ((i : Int) + 1) = ((i + 1 : Nat) : Int) := by rw [w64 (by omega) (by omega)]; rfl
      have hd : decide ((i : Int) < 70) = true := by simp; omega
      simp only [book_Bytes_l0_b, hd, if_true, mark_at i hi70, h1, bnd_ok, h2, hw, h3]
    · have e : marks.drop i = marks[i]'(by rw [marks_len]; exact hi70) :: marks.drop (i + 1) := List.drop_eq_getElem_cons (by rw [marks_len]; exact hi70)
      rw [e]
      simpa using ho3

/-- Bytes: a copy, the marks behind it. -/
theorem Bytes_ok {K : Nat} (hK : 18446744073709551616 ≤ K) {l : Sl} {bs : List Int} {w : World} (hl : Src w l (ints .u8 bs)) (hb : bs.length ≤ 140737488351232) :
    ∃ g cap w', book_Bytes K l w = some ((⟨some ⟨g, 0, none⟩, bs.length, cap⟩, ()), w') ∧ Own 5 w' ⟨some ⟨g, 0, none⟩, bs.length + 70, cap⟩ (ints .u8 (bs ++ marks)) ∧ w.heap.size ≤ g ∧ Upd none_ w w' := by
  have hlen : l.len = bs.length := by simpa using hl.len
  obtain ⟨s1, w1, h1, l1, ho1, u1, b1⟩ := apd_ok sliceB (Own.nil 5 w) hl (by show (0 + l.len) * 1 ≤ _; omega)
  have bl1 : Below w.heap.size w w1 := u1.below (Nat.le_refl _) fun k _ e => by cases e
  have hf1 : Fresh w.heap.size s1 := by
    intro k hk
    rcases b1 with e | e
    · rw [e] at hk; cases hk
    · rw [e] at hk; have := Option.some.inj hk; omega
  obtain ⟨s2, w2, h2, ho2, bl2, hf2⟩ := Bytes_loop K w.heap.size l 70 0 K w1 s1 bs (by omega) (by omega) ho1 (by rw [l1]; show 0 + l.len + 70 ≤ _; omega) bl1.size hf1
  have h2' : book_Bytes_l0 K K l s1 0 w1 = _ := h2
  have ho2 : Own 5 w2 s2 (ints .u8 (bs ++ marks)) := ho2
  have hl2 : s2.len = bs.length + 70 := by rw [ho2.len]; simp [marks_len]
  obtain ⟨g, hg⟩ : ∃ g, s2.a = some ⟨g, 0, none⟩ := by
    rcases ho2.2 with ⟨a1, a2, _⟩ | ⟨g, cur, a1, _⟩
    · omega
    · exact ⟨g, a1⟩
  refine ⟨g, s2.cap, w2, ?_, ?_, hf2 g (by simp [Sl.blk, hg]), Upd.of_below (bl1.trans bl2)⟩
  · have hc := ho2.cap.1
    have hi : (0 : Int) ≤ ((l.len : Nat) : Int) ∧ ((l.len : Nat) : Int) ≤ ((s2.cap : Nat) : Int) := by omega
    have h1' : apd prog 22 22 (.slice none 0 0) (.slice l.a l.len l.cap) w = some (s1, w1) := h1
    simp only [book_Bytes, h1', bnd_ok, h2', hi, and_self, if_true, sla_zero, hg, Int.toNat_natCast, Nat.sub_zero]
    rw [hlen]
  · have : s2 = ⟨some ⟨g, 0, none⟩, bs.length + 70, s2.cap⟩ := by cases s2; simp_all
    rw [← this]; exact ho2

end Go.Sh

/- Package rijndael: the bytes of a stream are added. -/
set_option linter.unusedVariables false
set_option maxRecDepth 100000
namespace Go.Sh
open Go.Fw Go.Gf Go.RowKit Go.Proofs.Tryd

def padQ (S : List W4) (B : List Int) (q : Nat) : List Int := encB S (plusB B q)
def xorI (S : List W4) (B : List Int) (a : Nat) (D : List Int) (i : Nat) : Int := bits .xor .u8 (D.getD i 0) ((padQ S B ((a + i) / 16)).getD ((a + i) % 16) 0)
def xorL (S : List W4) (B : List Int) (a : Nat) (D : List Int) : List Int := (List.range D.length).map (xorI S B a D)
theorem xorL_len (S : List W4) (B : List Int) (a : Nat) (D : List Int) : (xorL S B a D).length = D.length := by simp [xorL]
theorem padQ_16 {S : List W4} (hS : ∀ x ∈ S, x.ok) (B : List Int) (q : Nat) : B16 (padQ S B q) := encB_16 hS (plusB_16 B q)

theorem _root_.Go.Fw.RdS.upd' {κ : IntKind} {S : Nat → Prop} {w w' : World} {s : Sl} {zs : List Int} (h : RdS κ w s zs) (u : Upd S w w') (hn : zs ≠ [] → ∀ p, s.a = some p → ¬ S p.block) : RdS κ w' s zs := by
  by_cases e : zs = []
  · exact ⟨h.len, h.cap, .inl e⟩
  · exact h.upd u (hn e)
theorem _root_.Go.Fw.RdS.lt' {κ : IntKind} {w : World} {s : Sl} {zs : List Int} (h : RdS κ w s zs) (hne : zs ≠ []) : ∀ p, s.a = some p → p.block < w.heap.size := fun p hp => by
  rcases h.rd with e | ⟨q, e, hr⟩
  · exact absurd e hne
  · rw [e] at hp; cases hp
    exact hr.lt (fun e => hne (List.map_eq_nil_iff.1 e))

theorem sameK_self {β : Type} (v : Value) (k : Option β) : sameK v v k = k := by unfold sameK; rw [if_pos rfl]

theorem set_snoc {f : Nat → Int} {i n : Nat} (h : i < n) : ((List.range i).map f ++ List.replicate (n - i) 0).set i (f i) = (List.range (i + 1)).map f ++ List.replicate (n - (i + 1)) 0 := by
  have e : List.replicate (n - i) (0 : Int) = 0 :: List.replicate (n - (i + 1)) 0 := by rw [show n - i = (n - (i + 1)) + 1 by omega]; rfl
  have hl : ((List.range i).map f).length = i := by simp
  rw [e, List.set_append_right _ _ (by omega), hl, Nat.sub_self, List.set_cons_zero, List.range_succ, List.map_append, List.append_assoc]
  rfl

theorem mkB_full (w : World) {n : Nat} (hn : n ≤ 1099511627776) :
    ∃ w', mkS prog 22 (.int .i64 (n : Int)) (.int .i64 (n : Int)) w = some (⟨some ⟨w.heap.size, 0, none⟩, n, n⟩, w') ∧ Own 5 w' ⟨some ⟨w.heap.size, 0, none⟩, n, n⟩ (ints .u8 (List.replicate n 0)) ∧ Upd none_ w w' := by
  obtain ⟨i, hi, hsz, hz, hby⟩ := sliceB.info
  obtain ⟨w', hr, ho, hg⟩ := run_make_full (P := prog) w 0 22 5 i (.int .u8 0) 1 sliceB.ht hi hz hsz .i64 .i64 n (by rw [hby]; omega) (by simp only [maxLen]; omega) (Nat.zero_le _)
  obtain ⟨s, h1, h2, h3⟩ := Own.of_row ho
  have hs : s = ⟨some ⟨w.heap.size, 0, none⟩, n, n⟩ := by
    cases s
    simp only [Value.slice.injEq] at h1
    simp [← h1.1, ← h1.2.1, ← h1.2.2]
  have hc : (madeCells (Value.int .u8 0).cells (n * 1)).toList = ints .u8 (List.replicate n 0) := by
    apply List.ext_getElem
    · simp [madeCells]
    · intro k h1 h2; simp [madeCells, Nat.mod_one, Value.cells]
  rw [hs, hc] at h3
  refine ⟨w', ?_, h3, (Upd.of_grown hg).mono fun k _ e => by cases e⟩
  unfold mkS
  rw [hr]

theorem xor_s5 {K : Nat} (hK : 300 ≤ K) {w : World} {g t gw gb kl : Nat} {S : List W4} (k : KeyAt w g t gw gb kl S) {s gp : Nat} {B P : List Int} (hB : B16 B) (hP : B16 P) {c : Nat} (hc : c < 18446744073709551616) (b : Bk 107 w s (streamC (some ⟨g, 0, none⟩) B c)) (bp : Bk 42 w gp (ints .u8 P)) :
    ∃ w', rijndael_Stream_XOR_s5 K (some ⟨s, 0, none⟩) ⟨some ⟨gw, 0, none⟩, S.length, S.length⟩ ⟨gp, 0, none⟩ w = some ((), w') ∧ Bk 42 w' gp (ints .u8 (padQ S B (c / 16))) ∧ Upd (· = gp) w w' := by
  have ns : s ≠ gp := Bk.apart (by decide) b bp
  have ng : g ≠ gp := Bk.apart (by decide) k.b bp
  obtain ⟨w1, a1, u1⟩ := plus_ok hK hB (n := c / 16) (by omega) w.drew
  have q1 : Upd none_ w w1 := u1.predrew
  obtain ⟨w2, a2, u2⟩ := encT_ok hK (k.upd0 q1) (plusB_16 B (c / 16))
  have q2 := q1.and0 u2
  have hp := padQ_16 k.ok B (c / 16)
  obtain ⟨w3, a3, b3, u3⟩ := stA16 (bp.upd0 q2) (ints16 hP) hp
  have b1 := b.upd0 q1
  have b2 := b.upd0 q2
  have b4 := b2.upd u3 ns
  have l7 : ldP ((⟨g, 0, none⟩ : Addr).add 7) w3 = some (some ⟨t, 0, none⟩) := by rw [add_lit]; exact ((k.upd0 q2).b.upd u3 ng).ldP (i := 0 + 7) rfl
  refine ⟨w3, ?_, b3, (q2.mono fun _ _ e => e.elim).trans' u3 fun _ _ e => e⟩
  have e16 : IntKind.u64.wrap (Int.tdiv ((c : Nat) : Int) 16) = ((c / 16 : Nat) : Int) := by
    have : Int.tdiv ((c : Nat) : Int) 16 = ((c / 16 : Nat) : Int) := tdiv_nat c 16
    rw [this, wru64 (by omega)]
  unfold rijndael_Stream_XOR_s5
  have a3 : stA ⟨gp, 0, none⟩ (ints .u8 (encB S (plusB B (c / 16)))).toArray w2 = some w3 := a3
  have hp' : (ints .u8 (encB S (plusB B (c / 16)))).toArray.size = 16 := size16 hp
  simp only [Option.bind_some, st_key b.drew, (k.upd0 (Upd.refl none_ w).drew).ldT, st_start b.drew hB, st_at b.drew hB, e16, a1, bnd_ok, st_at b1 hB, sameK_self, st_start b1 hB, (k.upd0 q1).ldT, st_key b1, a2, st_at b2 hB, st_start b2 hB, (k.upd0 q2).ldT, st_key b2, hp', if_true, a3, st_at b4 hB, st_start b4 hB, l7, st_key b4]

theorem xor_s34 {K : Nat} (hK : 300 ≤ K) {w : World} {g t gw gb kl : Nat} {S : List W4} (k : KeyAt w g t gw gb kl S) {s gp : Nat} {B P : List Int} (hB : B16 B) (hP : B16 P) {a i : Nat} (hc : a + i < 18446744073709551616) (b : Bk 107 w s (streamC (some ⟨g, 0, none⟩) B (a + i))) (bp : Bk 42 w gp (ints .u8 P)) (hq : i ≠ 0 → (a + i) % 16 ≠ 0 → P = padQ S B ((a + i) / 16)) :
    ∃ m w', rijndael_Stream_XOR_s3 K (some ⟨s, 0, none⟩) (i : Int) w = some ((m, ()), w) ∧ rijndael_Stream_XOR_s4 K (some ⟨s, 0, none⟩) ⟨some ⟨gw, 0, none⟩, S.length, S.length⟩ ⟨gp, 0, none⟩ m w = some ((), w') ∧ Bk 42 w' gp (ints .u8 (padQ S B ((a + i) / 16))) ∧ Upd (· = gp) w w' := by
  obtain ⟨w1, a1, b1, u1⟩ := xor_s5 hK k hB hP hc b bp
  have e4 : rijndael_Stream_XOR_s4 K (some ⟨s, 0, none⟩) ⟨some ⟨gw, 0, none⟩, S.length, S.length⟩ ⟨gp, 0, none⟩ true w = some ((), w1) := by
    unfold rijndael_Stream_XOR_s4
    rw [if_pos rfl, a1, bnd_ok]
  by_cases h0 : i = 0
  · refine ⟨true, w1, ?_, e4, b1, u1⟩
    unfold rijndael_Stream_XOR_s3
    rw [h0, if_pos (show (((0 : Nat) : Int) == 0) = true from rfl)]
  · have e16 : Int.tmod (((a + i : Nat)) : Int) 16 = (((a + i) % 16 : Nat) : Int) := tmod_nat (a + i) 16
    have e3 : rijndael_Stream_XOR_s3 K (some ⟨s, 0, none⟩) (i : Int) w = some (((((((a + i) % 16 : Nat) : Int)) == 0), ()), w) := by
      unfold rijndael_Stream_XOR_s3
      rw [if_neg (fun e => h0 (by have := eq_of_beq e; omega)), Option.bind_some, st_at b hB, Option.bind_some, e16]
    by_cases h1 : (a + i) % 16 = 0
    · refine ⟨true, w1, ?_, e4, b1, u1⟩
      rw [e3, h1]; rfl
    · refine ⟨false, w, ?_, ?_, ?_, Upd.refl _ w⟩
      · rw [e3]
        have : ((((a + i) % 16 : Nat) : Int) == 0) = false := by rw [beq_eq_false_iff_ne]; omega
        rw [this]
      · unfold rijndael_Stream_XOR_s4
        rw [if_neg (show ¬ false = true by decide)]
      · rw [← hq h0 h1]; exact bp

theorem xor_loop {K : Nat} (hK : 300 ≤ K) {g t gw gb kl : Nat} {S : List W4} {s gp go : Nat} {B : List Int} (hB : B16 B) {a : Nat} {data : Sl} {D : List Int} (hD : ∀ z ∈ D, InK .u8 z) {n : Nat} (hn : D.length = n) (han : a + n < 18446744073709551616) (hn2 : n ≤ 1099511627776)
    (hd : D ≠ [] → ∀ p, data.a = some p → p.block ≠ gp ∧ p.block ≠ s ∧ p.block ≠ go) (h1 : go ≠ gp) (h2 : go ≠ s) (hgo : go ≠ g ∧ go ≠ t ∧ go ≠ gw ∧ go ≠ gb) :
    ∀ (d i f : Nat) (w : World) (P : List Int), d + i = n → d < f → KeyAt w g t gw gb kl S → Bk 107 w s (streamC (some ⟨g, 0, none⟩) B (a + i)) → Bk 42 w gp (ints .u8 P) → B16 P → (i ≠ 0 → (a + i) % 16 ≠ 0 → P = padQ S B ((a + i) / 16)) → RdS .u8 w data D → Own 5 w ⟨some ⟨go, 0, none⟩, n, n⟩ (ints .u8 ((List.range i).map (xorI S B a D) ++ List.replicate (n - i) 0)) →
      ∃ w', rijndael_Stream_XOR_l2 K f (some ⟨s, 0, none⟩) ⟨some ⟨gw, 0, none⟩, S.length, S.length⟩ ⟨some ⟨go, 0, none⟩, n, n⟩ ⟨gp, 0, none⟩ data (n : Int) (i : Int) w = some ((), w') ∧ Bk 107 w' s (streamC (some ⟨g, 0, none⟩) B (a + n)) ∧ Own 5 w' ⟨some ⟨go, 0, none⟩, n, n⟩ (ints .u8 (xorL S B a D)) ∧ Upd (fun k => k = gp ∨ k = s ∨ k = go) w w' := by
  intro d
  induction d with
  | zero =>
    intro i f w P hdi hf k b bp hP hq r o
    obtain ⟨f, rfl⟩ : ∃ m, f = m + 1 := ⟨f - 1, by omega⟩
    obtain rfl : i = n := by omega
    rw [Nat.sub_self, List.replicate_zero, List.append_nil] at o
    refine ⟨w, ?_, b, by unfold xorL; rw [hn]; exact o, Upd.refl _ w⟩
    have eu : rijndael_Stream_XOR_l2 K (f + 1) = rijndael_Stream_XOR_l2_b K (rijndael_Stream_XOR_l2 K f) := rfl
    rw [eu]
    unfold rijndael_Stream_XOR_l2_b
    rw [if_neg (fun e => by have := of_decide_eq_true e; omega)]
  | succ d ih =>
    intro i f w P hdi hf k b bp hP hq r o
    obtain ⟨f, rfl⟩ : ∃ m, f = m + 1 := ⟨f - 1, by omega⟩
    have hi : i < n := by omega
    have hlen := r.len
    have hai : a + i < 18446744073709551616 := by omega
    have hai1 : a + i + 1 < 18446744073709551616 := by omega
    have hm16 : (a + i) % 16 < 16 := Nat.mod_lt _ (by decide)
    obtain ⟨p, hp, hld⟩ := r.ld
    have hpa := hp (by intro e; rw [e] at hn; simp at hn; omega)
    have l1 := hld i (by omega)
    obtain ⟨m, w1, a3, a4, b1, u1⟩ := xor_s34 hK k hB hP hai b bp hq
    have ns : s ≠ gp := Bk.apart (by decide) b bp
    have bs1 := b.upd u1 ns
    have ho1 := o.upd u1 (fun k hk e => by
      have : go = k := Option.some.inj hk
      omega)
    have hpad := padQ_16 k.ok B ((a + i) / 16)
    have lp : ldI .u8 ((⟨gp, 0, none⟩ : Addr).add ((a + i) % 16 * 1)) w1 = some ((padQ S B ((a + i) / 16)).getD ((a + i) % 16) 0) := by
      rw [add_lit, Nat.mul_one, Nat.zero_add]
      refine b1.ldI ?_
      rw [ints_get (by rw [hpad.1]; exact hm16), List.getD_eq_getElem?_getD, List.getElem?_eq_getElem (by rw [hpad.1]; exact hm16)]
      rfl
    obtain ⟨q, w2, hq2, c2, o2, u2⟩ := ho1.st (i := i) hi (.int .u8 (xorI S B a D i))
    rw [ints_set_, set_snoc hi] at o2
    have u2 : Upd (· = go) w1 w2 := u2.mono fun k _ e => (Option.some.inj e).symm
    have bs2 := bs1.upd u2 (fun e => h2 e.symm)
    obtain ⟨w3, c3, bs3, u3⟩ := st_set bs2 hB (a + (i + 1))
    have g1 : g ≠ gp := Bk.apart (by decide) k.b bp
    have g2 : t ≠ gp := Bk.apart (by decide) k.bt bp
    have g3 : gw ≠ gp := Bk.apart (by decide) k.bw bp
    have g4 : gb ≠ gp := Bk.apart (by decide) k.bb bp
    have g5 : g ≠ s := Bk.apart (by decide) k.b b
    have g6 : t ≠ s := Bk.apart (by decide) k.bt b
    have g7 : gw ≠ s := Bk.apart (by decide) k.bw b
    have g8 : gb ≠ s := Bk.apart (by decide) k.bb b
    obtain ⟨g9, g10, g11, g12⟩ := hgo
    have k3 := ((k.upd u1 g1 g2 g3 g4).upd u2 (Ne.symm g9) (Ne.symm g10) (Ne.symm g11) (Ne.symm g12)).upd u3 g5 g6 g7 g8
    have bp3 := (b1.upd u2 (Ne.symm h1)).upd u3 (Ne.symm ns)
    have r3 := ((r.upd' u1 fun hz p hp => (hd hz p hp).1).upd' u2 fun hz p hp => (hd hz p hp).2.2).upd' u3 fun hz p hp => (hd hz p hp).2.1
    have o3 := o2.upd u3 (fun k hk e => h2 (by have : go = k := Option.some.inj hk; omega))
    obtain ⟨w4, f1, f2, f3, f4⟩ := ih (i + 1) f w3 (padQ S B ((a + i) / 16)) (by omega) (by omega) k3 bs3 bp3 hpad (fun _ hne => by
      have : (a + i) / 16 = (a + (i + 1)) / 16 := by omega
      rw [this]) r3 o3
    refine ⟨w4, ?_, f2, f3, (((u1.mono fun _ _ e => .inl e).trans' (u2.mono fun _ _ e => .inr (.inr e)) fun _ _ e => e).trans' (u3.mono fun _ _ e => .inr (.inl e)) fun _ _ e => e).trans' f4 fun _ _ e => e⟩
    have e1 : IntKind.i64.wrap ((i : Int) + 1) = ((i + 1 : Nat) : Int) := by rw [w64 (by omega) (by omega)]; rfl
    have e16 : Int.tmod (((a + i : Nat)) : Int) 16 = (((a + i) % 16 : Nat) : Int) := tmod_nat (a + i) 16
    have e2 : IntKind.u64.wrap (((a + i : Nat) : Int) + 1) = ((a + (i + 1) : Nat) : Int) := by rw [IntKind.wrap_u64]; omega
    have l1' : ldI .u8 (p.add (i * 1)) w = some (D.getD i 0) := by
      rw [Nat.mul_one, l1, List.getD_eq_getElem?_getD, List.getElem?_eq_getElem (by omega)]; rfl
    have hq3 : q = ⟨go, 0, none⟩ := (Option.some.inj hq2).symm
    have c2' : stC ((⟨go, 0, none⟩ : Addr).add (i * 1)) (.int .u8 (bits .xor .u8 (D.getD i 0) ((padQ S B ((a + i) / 16)).getD ((a + i) % 16) 0))) w1 = some w2 := by
      rw [Nat.mul_one, ← hq3]; exact c2
    have eu : rijndael_Stream_XOR_l2 K (f + 1) = rijndael_Stream_XOR_l2_b K (rijndael_Stream_XOR_l2 K f) := rfl
    rw [eu]
    unfold rijndael_Stream_XOR_l2_b
    rw [if_pos (decide_eq_true (by omega)), hpa, Option.bind_some, if_pos (nat_in (show i < data.len by omega)), Int.toNat_natCast, l1', Option.bind_some, a3, bnd_ok, a4, bnd_ok, Option.bind_some, st_at bs1 hB, Option.bind_some, e16, if_pos (nat_in hm16), Int.toNat_natCast, lp, Option.bind_some, Option.bind_some, if_pos (nat_in hi), c2', Option.bind_some, Option.bind_some, st_at bs2 hB, Option.bind_some, Option.bind_some, e2, c3, Option.bind_some, e1, f1]

theorem XOR_ok {K : Nat} (hK : 18446744073709551616 ≤ K) {w : World} {g t gw gb kl : Nat} {S : List W4} (k : KeyAt w g t gw gb kl S) {s : Nat} {B : List Int} (hB : B16 B) {a : Nat} (b : Bk 107 w s (streamC (some ⟨g, 0, none⟩) B a)) {data : Sl} {D : List Int} (hD : ∀ z ∈ D, InK .u8 z) (r : RdS .u8 w data D) (hb : D ≠ [] → ∀ p, data.a = some p → p.block ≠ s) (h20 : D.length ≤ 1048576) (ha : a + D.length ≤ 1099511627776) :
    ∃ go w', rijndael_Stream_XOR K (some ⟨s, 0, none⟩) data w = some ((⟨some ⟨go, 0, none⟩, D.length, D.length⟩, 0, ()), w') ∧ Own 5 w' ⟨some ⟨go, 0, none⟩, D.length, D.length⟩ (ints .u8 (xorL S B a D)) ∧ Bk 107 w' s (streamC (some ⟨g, 0, none⟩) B (a + D.length)) ∧ w.heap.size ≤ go ∧ Upd (· = s) w w' := by
  obtain ⟨n, hn⟩ : ∃ n, D.length = n := ⟨_, rfl⟩
  rw [hn] at h20 ha ⊢
  have hlen := r.len
  rw [hn] at hlen
  have hsch : rijndael_Key_schedule (some ⟨g, 0, none⟩) false w = some ((⟨some ⟨gw, 0, none⟩, S.length, S.length⟩, 0, ()), w) := sched_ok k false
  have ef := further_ok hsch hB b (by omega) (n := n)
  rw [if_pos (show n ≤ 1099511627776 - a by omega), if_pos (show n ≤ 1099511627776 - a by omega)] at ef
  obtain ⟨w1, c1, o1, u1⟩ := mkB_full w (n := n) (by omega)
  obtain ⟨w2, n2, b2, u2, z2⟩ := newB_ok z42 42 w1
  have hz1 := u1.size
  have hlto : w.heap.size < w1.heap.size := o1.lt rfl
  have e0 : n - 0 = n := Nat.sub_zero n
  have o2 : Own 5 w2 ⟨some ⟨w.heap.size, 0, none⟩, n, n⟩ (ints .u8 ((List.range 0).map (xorI S B a D) ++ List.replicate (n - 0) 0)) := o1.upd0 u2
  have q2 := u1.and0 u2
  have hsl := b.lt
  have k1 := k.b.lt
  have k2 := k.bt.lt
  have k3 := k.bw.lt
  have k4 := k.bb.lt
  obtain ⟨w3, f1, f2, f3, f4⟩ := xor_loop (K := K) (by omega) (g := g) (t := t) (gw := gw) (gb := gb) (kl := kl) (S := S) (s := s) (gp := w1.heap.size) (go := w.heap.size) hB (a := a) (data := data) hD hn (by omega) (by omega) (fun hz p hp => by have := hb hz p hp; have := r.lt' hz p hp; omega) (by omega) (by omega) ⟨by omega, by omega, by omega, by omega⟩ n 0 K w2 zero16 rfl (by omega) (k.upd0 q2) (b.upd0 q2) b2 zero16_ok (fun e => absurd rfl e) (r.upd0 q2) o2
  have f1 : rijndael_Stream_XOR_l2 K K (some ⟨s, 0, none⟩) ⟨some ⟨gw, 0, none⟩, S.length, S.length⟩ ⟨some ⟨w.heap.size, 0, none⟩, n, n⟩ ⟨w1.heap.size, 0, none⟩ data (n : Int) 0 w2 = _ := f1
  refine ⟨w.heap.size, w3, ?_, f3, f2, Nat.le_refl _, (q2.mono fun _ _ e => e.elim).trans' f4 fun k hk e => by omega⟩
  have es0 : rijndael_Stream_XOR_s0 K data 0 w = some ((false, ()), w) := by
    unfold rijndael_Stream_XOR_s0
    rw [if_pos (show ((0 : Int) == 0) = true from rfl), decide_eq_false (by omega)]
  have es1 : rijndael_Stream_XOR_s1 K 0 false w = some ((0, ()), w) := rfl
  unfold rijndael_Stream_XOR
  rw [hlen, wru64 (show n < 18446744073709551616 by omega), ef, bnd_ok, es0, bnd_ok, es1, bnd_ok, if_neg (show ¬ ((0 : Int) != 0) = true by decide), c1, bnd_ok, n2, bnd_ok, f1, bnd_ok]

theorem XOR_err {K : Nat} {s0 : Option Addr} {data : Sl} {w : World} {ws : Sl} {e : Int} (he : e ≠ 0) (hf : rijndael_Stream_further s0 (IntKind.u64.wrap ((data.len : Nat) : Int)) w = some ((ws, e, ()), w)) :
    rijndael_Stream_XOR K s0 data w = some ((⟨none, 0, 0⟩, e, ()), w) := by
  have es0 : rijndael_Stream_XOR_s0 K data e w = some ((false, ()), w) := by
    unfold rijndael_Stream_XOR_s0
    rw [if_neg (fun h => he (eq_of_beq h))]
  have es1 : rijndael_Stream_XOR_s1 K e false w = some ((e, ()), w) := rfl
  unfold rijndael_Stream_XOR
  rw [hf, bnd_ok, es0, bnd_ok, es1, bnd_ok, if_pos (bne_iff_ne.2 he)]
theorem XOR_long {K : Nat} {s0 : Option Addr} {data : Sl} {w : World} {ws : Sl} (hl : 1048576 < data.len) (hf : rijndael_Stream_further s0 (IntKind.u64.wrap ((data.len : Nat) : Int)) w = some ((ws, 0, ()), w)) :
    rijndael_Stream_XOR K s0 data w = some ((⟨none, 0, 0⟩, 4, ()), w) := by
  have es0 : rijndael_Stream_XOR_s0 K data 0 w = some ((true, ()), w) := by
    unfold rijndael_Stream_XOR_s0
    rw [if_pos (show ((0 : Int) == 0) = true from rfl), decide_eq_true (by omega)]
  have es1 : rijndael_Stream_XOR_s1 K 0 true w = some ((4, ()), w) := rfl
  unfold rijndael_Stream_XOR
  rw [hf, bnd_ok, es0, bnd_ok, es1, bnd_ok, if_pos (show ((4 : Int) != 0) = true by decide)]

end Go.Sh

/- Package rijndael: bytes are copied; a key is wrapped. -/
set_option linter.unusedVariables false
set_option maxRecDepth 100000
namespace Go.Sh
open Go.Fw Go.Gf Go.RowKit Go.Proofs.Tryd

theorem size5 : (prog.info? 5).map (·.size) = some 1 := by kernel_rfl

theorem cpyB {w : World} {b : Sl} {vs : List Value} (hx : Src w b vs) {e : TypeId} {g o dLen dCap : Nat} {cs : List Value} (hb : Bk e w g cs) (hl : o + min b.len dLen ≤ cs.length) :
    ∃ w', cpy prog 22 22 (.slice (some ⟨g, o, none⟩) dLen dCap) (.slice b.a b.len b.cap) w = some (((min b.len dLen : Nat) : Int), w') ∧ Bk e w' g (seg cs o (vs.take (min b.len dLen))) ∧ Upd (· = g) w w' := by
  have hlen := hx.len
  rcases hx.rd with ⟨h1, h2, h3⟩ | ⟨p, h1, h2⟩
  · have h0 : b.len = 0 := by rw [hlen, h3]; rfl
    have hr := run_copy_nil (P := prog) w 22 22 0 5 ⟨g, o, none⟩ dLen dCap sliceB.ht (by rw [size5]; rfl)
    refine ⟨w, ?_, ?_, Upd.refl _ _⟩
    · unfold cpy
      rw [h1, h0, h2, hr]
      simp [goInt]
    · rw [h3]; simpa [seg] using hb
  · have hr := run_copy_row (P := prog) w 22 22 0 5 g o dLen dCap p b.len b.cap cs.toArray e (vs.take (min b.len dLen)) sliceB.ht size5 hb (by simp [hlen])
      (fun j v hv => h2 j v (by
        rw [List.getElem?_take] at hv
        split at hv
        · exact hv
        · cases hv)) (by simp [hlen] at hl ⊢; omega) (fun v hv => hx.one v (List.mem_of_mem_take hv))
    refine ⟨w.setRow g (cs.take o ++ vs.take (min b.len dLen) ++ cs.drop (o + (vs.take (min b.len dLen)).length)).toArray, ?_, ?_, Upd.setRow w g _⟩
    · unfold cpy
      rw [h1, hr]
      have : (vs.take (min b.len dLen)).length = min b.len dLen := by simp [hlen]
      simp only [goInt, this]
    · have := hb.setRow (cs.take o ++ vs.take (min b.len dLen) ++ cs.drop (o + (vs.take (min b.len dLen)).length)).toArray
      simpa [seg] using this

theorem RdS.src {w : World} {s : Sl} {zs : List Int} (h : RdS .u8 w s zs) (hne : zs ≠ []) : Src w s (ints .u8 zs) := by
  rcases h.rd with e | ⟨p, e, hr⟩
  · exact absurd e hne
  · exact ⟨by rw [ints_length]; exact h.len, h.cap, .inr ⟨p, e, hr⟩, ints_one⟩

/-- eight bytes of a list -/
def cut8 (L : List Int) (j : Nat) : List Int := (L.drop j).take 8
theorem cut8_len {L : List Int} {j : Nat} (h : j + 8 ≤ L.length) : (cut8 L j).length = 8 := by unfold cut8; rw [List.length_take, List.length_drop]; omega
theorem cut8_in {L : List Int} (h : ∀ z ∈ L, InK .u8 z) (j : Nat) : ∀ z ∈ cut8 L j, InK .u8 z := fun z hz => h z (List.mem_of_mem_drop (List.mem_of_mem_take hz))
/-- eight bytes put in their place -/
def put8 (L : List Int) (j : Nat) (Y : List Int) : List Int := L.take j ++ Y ++ L.drop (j + 8)
theorem put8_len {L Y : List Int} {j : Nat} (h : j + 8 ≤ L.length) (hy : Y.length = 8) : (put8 L j Y).length = L.length := by unfold put8; rw [List.length_append, List.length_append, List.length_take, List.length_drop, hy]; omega
theorem put8_in {L Y : List Int} (h : ∀ z ∈ L, InK .u8 z) (hy : ∀ z ∈ Y, InK .u8 z) (j : Nat) : ∀ z ∈ put8 L j Y, InK .u8 z := fun z hz => by
  rcases List.mem_append.1 hz with h1 | h1
  · rcases List.mem_append.1 h1 with h2 | h2
    · exact h z (List.mem_of_mem_take h2)
    · exact hy z h2
  · exact h z (List.mem_of_mem_drop h1)

/-- eight bytes of a slice copied to a block's end -/
theorem cpy_out {w : World} {rs : Sl} {R : List Int} (o : Own 5 w rs (ints .u8 R)) {j : Nat} (hj : j + 8 ≤ R.length) {gb : Nat} {X Z : List Int} (b : Bk 42 w gb (ints .u8 (X ++ Z))) (hx : X.length = 8) (hz : Z.length = 8) :
    ∃ w', cpy prog 22 22 (.slice (sla (some ⟨gb, 0, none⟩) 8 16 1) (16 - 8) (16 - 8)) (.slice (sla rs.a j rs.cap 1) (rs.len - j) (rs.cap - j)) w = some (8, w') ∧ Bk 42 w' gb (ints .u8 (X ++ cut8 R j)) ∧ Upd (· = gb) w w' := by
  have hrl := o.len
  rw [ints_length] at hrl
  have r := o.rd.sub (lo := j) (hi := R.length) (by omega) (Nat.le_refl _)
  rw [List.take_length] at r
  have hs := RdS.src r (by intro e; have := congrArg List.length e; rw [List.length_drop] at this; simp at this; omega)
  have hm : min (R.length - j) 8 = 8 := by omega
  obtain ⟨w', a1, a2, a3⟩ := cpyB hs (e := 42) (g := gb) (o := 8) (dLen := 16 - 8) (dCap := 16 - 8) b (by
    show 8 + min (R.length - j) 8 ≤ _
    rw [hm, ints_length, List.length_append, hx, hz]; decide)
  refine ⟨w', ?_, ?_, a3⟩
  · rw [hrl, at8]
    have a1 : cpy prog 22 22 (.slice (some ⟨gb, 8, none⟩) (16 - 8) (16 - 8)) (.slice (sla rs.a j rs.cap 1) (R.length - j) (rs.cap - j)) w = some (((min (R.length - j) 8 : Nat) : Int), w') := a1
    rw [hm] at a1
    exact a1
  · have a2 : Bk 42 w' gb (seg (ints .u8 (X ++ Z)) 8 ((ints .u8 (R.drop j)).take (min (R.length - j) 8))) := a2
    rw [hm, ints_take] at a2
    have e8 := seg8 (B := X ++ Z) (by rw [List.length_append, hx, hz]) (cut8_len hj)
    rw [List.take_append_of_le_length (by omega), List.take_of_length_le (by omega)] at e8
    rw [← e8]; exact a2

/-- a block's last eight bytes copied into a slice -/
theorem cpy_in {w : World} {rs : Sl} {R : List Int} (o : Own 5 w rs (ints .u8 R)) {j : Nat} (hj : j + 8 ≤ R.length) {gb : Nat} {B : List Int} (b : Bk 42 w gb (ints .u8 B)) (hB : B16 B) {n : Nat} (hn : n = 8) :
    ∃ w', cpy prog 22 22 (.slice (sla rs.a j rs.cap 1) n (rs.cap - j)) (.slice (sla (some ⟨gb, 0, none⟩) 8 16 1) (16 - 8) (16 - 8)) w = some (8, w') ∧ Own 5 w' rs (ints .u8 (put8 R j (B.drop 8))) ∧ Upd (fun k => rs.blk = some k) w w' := by
  subst hn
  have hrl := o.len
  rw [ints_length] at hrl
  obtain ⟨g, cs, a1, a2, a3, a4, a5, a6⟩ := o.bk (by intro e; have := congrArg List.length e; rw [ints_length, List.length_nil] at this; omega)
  have r := (sl8 b hB).sub (lo := 8) (hi := 16) (by decide) (by rw [hB.1]; decide)
  rw [List.take_of_length_le (by rw [hB.1]; decide)] at r
  have hl8 : (B.drop 8).length = 8 := by rw [List.length_drop, hB.1]
  have hs := RdS.src r (by intro e; rw [e] at hl8; cases hl8)
  obtain ⟨w', c1, c2, c3⟩ := cpyB hs (e := 5) (g := g) (o := j) (dLen := 8) (dCap := rs.cap - j) a2 (by
    show j + min 8 8 ≤ _
    rw [Nat.min_self]; omega)
  refine ⟨w', ?_, ?_, c3.mono fun k _ hk => by simp [Sl.blk, a1, hk]⟩
  · have es : sla rs.a j rs.cap 1 = some ⟨g, j, none⟩ := by rw [a1, sla_some (by omega), add_lit, Nat.mul_one, Nat.zero_add]
    rw [es]; exact c1
  · have c2 : Bk 5 w' g (seg cs j ((ints .u8 (B.drop 8)).take 8)) := c2
    rw [List.take_of_length_le (by rw [ints_length, hl8]; decide)] at c2
    have ho := Own.of_bk c2 a3 a4 (by rw [seg_length (by rw [ints_length, hl8]; omega)]; exact a5)
    have hs : rs = ⟨some ⟨g, 0, none⟩, rs.len, rs.cap⟩ := by cases rs; simp_all
    rw [hs]
    have : ints .u8 (put8 R j (B.drop 8)) = (seg cs j (ints .u8 (B.drop 8))).take rs.len := by
      have hcs : cs.take j = ints .u8 (R.take j) := by rw [← ints_take, ← a6, List.take_take, Nat.min_eq_left (by omega)]
      have hcd : (cs.drop (j + 8)).take (rs.len - (j + 8)) = ints .u8 (R.drop (j + 8)) := by
        have : ints .u8 (R.drop (j + 8)) = (ints .u8 R).drop (j + 8) := by simp [ints, List.map_drop]
        rw [this, ← a6, List.drop_take]
      unfold put8 seg
      rw [ints_append, ints_append, ints_length, hl8, List.take_append, List.length_append, ints_length, hl8, List.length_take, Nat.min_eq_left (by omega), hcd, List.take_of_length_le (l := cs.take j ++ ints .u8 (B.drop 8)) (i := rs.len) (by rw [List.length_append, ints_length, hl8, List.length_take]; omega), hcs]
    rw [this]; exact ho

theorem mkB_room (w : World) {l c : Nat} (hl : l ≤ c) (hc : c ≤ 1099511627776) :
    ∃ w', mkS prog 22 (.int .i64 (l : Int)) (.int .i64 (c : Int)) w = some (⟨some ⟨w.heap.size, 0, none⟩, l, c⟩, w') ∧ Own 5 w' ⟨some ⟨w.heap.size, 0, none⟩, l, c⟩ (ints .u8 (List.replicate l 0)) ∧ Upd none_ w w' := by
  obtain ⟨i, hi, hsz, hz, hby⟩ := sliceB.info
  have hb' : (i.bytes : Int) * (c : Int) ≤ 281474976710656 := by rw [hby]; omega
  have hr := run_make (P := prog) w 22 5 i (.int .u8 0) sliceB.ht hi hz .i64 .i64 l c (by omega) (by omega) hb' (by omega)
  simp only [Int.toNat_natCast, hsz] at hr
  have hb := Bk.new w (madeCells (Value.int .u8 0).cells (c * 1)) 5
  have hcs : (madeCells (Value.int .u8 0).cells (c * 1)).toList = ints .u8 (List.replicate c 0) := by
    apply List.ext_getElem
    · simp [madeCells]
    · intro k h1 h2; simp [madeCells, Nat.mod_one, Value.cells]
  rw [hcs] at hb
  have ho := Own.of_bk hb hl (by simp only [maxLen]; omega) (by rw [ints_length, List.length_replicate])
  rw [ints_take, List.take_replicate, Nat.min_eq_left hl] at ho
  refine ⟨_, ?_, ho, Upd.alloc _ _ _⟩
  unfold mkS
  rw [hr]

/-! ### Wrap -/
def wStep (S : List W4) (n t : Nat) (st : Nat × List Int) : Nat × List Int :=
  (numN ((encB S (layB 8 st.1 ++ cut8 st.2 (t % n * 8))).take 8) ^^^ (t + 1), put8 st.2 (t % n * 8) ((encB S (layB 8 st.1 ++ cut8 st.2 (t % n * 8))).drop 8))
def wRun (S : List W4) (D : List Int) : Nat → Nat × List Int
  | 0 => (12008468691120727718, D)
  | t + 1 => wStep S (D.length / 8) t (wRun S D t)
def wrapL (S : List W4) (D : List Int) : List Int := layB 8 (wRun S D (6 * (D.length / 8))).1 ++ (wRun S D (6 * (D.length / 8))).2

theorem lay_cut {a : Nat} {R : List Int} (hR : ∀ z ∈ R, InK .u8 z) {j : Nat} (hj : j + 8 ≤ R.length) : B16 (layB 8 a ++ cut8 R j) :=
  ⟨by rw [List.length_append, layB_len, cut8_len hj], fun z hz => by
    rcases List.mem_append.1 hz with h | h
    · exact layB_in _ _ z h
    · exact cut8_in hR j z h⟩
theorem B16.hi_lt {B : List Int} (h : B16 B) : numN (B.take 8) < 18446744073709551616 := numN8 (fun z hz => h.2 z (List.mem_of_mem_take hz)) (by rw [List.length_take, h.1]; rfl)
theorem B16.lo_len {B : List Int} (h : B16 B) : (B.drop 8).length = 8 := by rw [List.length_drop, h.1]
theorem B16.lo_in {B : List Int} (h : B16 B) : ∀ z ∈ B.drop 8, InK .u8 z := fun z hz => h.2 z (List.mem_of_mem_drop hz)

theorem mod8_le {n t len : Nat} (hn : 0 < n) (hl : len = 8 * n) : t % n * 8 + 8 ≤ len := by
  have := Nat.mod_lt t hn; omega

theorem wRun_ok {S : List W4} (hS : ∀ x ∈ S, x.ok) {D : List Int} (hD : ∀ z ∈ D, InK .u8 z) {n : Nat} (hn : 0 < n) (hl : D.length = 8 * n) :
    ∀ t, t ≤ 100000 → (wRun S D t).1 < 18446744073709551616 ∧ (wRun S D t).2.length = 8 * n ∧ ∀ z ∈ (wRun S D t).2, InK .u8 z
  | 0, _ => ⟨by show 12008468691120727718 < _; decide, hl, hD⟩
  | t + 1, ht => by
    obtain ⟨h1, h2, h3⟩ := wRun_ok hS hD hn hl t (by omega)
    have hn8 : D.length / 8 = n := by omega
    have hj := mod8_le (t := t) hn h2
    have hb := encB_16 hS (lay_cut (a := (wRun S D t).1) h3 hj)
    refine ⟨?_, ?_, ?_⟩
    · show numN ((encB S (layB 8 (wRun S D t).1 ++ cut8 (wRun S D t).2 (t % (D.length / 8) * 8))).take 8) ^^^ (t + 1) < _
      rw [hn8]
      exact Nat.xor_lt_two_pow (n := 64) hb.hi_lt (by omega)
    · show (put8 _ (t % (D.length / 8) * 8) _).length = _
      rw [hn8, put8_len hj hb.lo_len, h2]
    · show ∀ z ∈ put8 _ (t % (D.length / 8) * 8) _, InK .u8 z
      rw [hn8]; exact put8_in h3 hb.lo_in _

theorem xorN64 {a b : Nat} (ha : a < 18446744073709551616) (hb : b < 18446744073709551616) : bits .xor .u64 (a : Int) (b : Int) = ((a ^^^ b : Nat) : Int) := (bits_nats (k := .u64) rfl ha hb).2.2

def regC (a : Nat) (rs : Sl) : List Value := [.int .u64 (a : Int), slV rs]
theorem rg_a {w : World} {g a : Nat} {rs : Sl} (b : Bk 111 w g (regC a rs)) : ldI .u64 ((⟨g, 0, none⟩ : Addr).add 0) w = some (a : Int) := by rw [add_lit]; exact b.ldI (i := 0 + 0) rfl
theorem rg_r {w : World} {g a : Nat} {rs : Sl} (b : Bk 111 w g (regC a rs)) : ldS ((⟨g, 0, none⟩ : Addr).add 1) w = some rs := by rw [add_lit]; exact b.ldS (i := 0 + 1) rfl
theorem rg_set {w : World} {g a : Nat} {rs : Sl} (b : Bk 111 w g (regC a rs)) (a' : Nat) : ∃ w', stC ((⟨g, 0, none⟩ : Addr).add 0) (.int .u64 (a' : Int)) w = some w' ∧ Bk 111 w' g (regC a' rs) ∧ Upd (· = g) w w' := by
  rw [add_lit]; exact b.stC (i := 0) (by show 0 < 2; decide) _

theorem i64n {n : Nat} (h : n < 9223372036854775808) : IntKind.i64.wrap (n : Int) = (n : Int) := w64 (by omega) (by omega)

theorem wrap_loop {K : Nat} (hK : 300 ≤ K) {g t gw gb kl : Nat} {S : List W4} {D : List Int} (hD : ∀ z ∈ D, InK .u8 z) {n : Nat} (hn : 0 < n) (hl : D.length = 8 * n) (hn2 : n ≤ 512) {s8 : Nat} {rs : Sl}
    (hrs : ∀ k, rs.blk = some k → k ≠ s8 ∧ k ≠ g ∧ k ≠ t ∧ k ≠ gw ∧ k ≠ gb) :
    ∀ (d i f : Nat) (w : World), d + i = 6 * n → d < f → KeyAt w g t gw gb kl S → Bk 111 w s8 (regC (wRun S D i).1 rs) → Own 5 w rs (ints .u8 (wRun S D i).2) →
      ∃ w', rijndael_Wrap_l2 K f (some ⟨g, 0, none⟩) ⟨some ⟨gw, 0, none⟩, S.length, S.length⟩ ⟨s8, 0, none⟩ (n : Int) ((6 * n : Nat) : Int) (i : Int) w = some ((), w') ∧ Bk 111 w' s8 (regC (wRun S D (6 * n)).1 rs) ∧ Own 5 w' rs (ints .u8 (wRun S D (6 * n)).2) ∧ Upd (fun k => k = s8 ∨ rs.blk = some k) w w' := by
  intro d
  induction d with
  | zero =>
    intro i f w hd hf k b o
    obtain ⟨f, rfl⟩ : ∃ m, f = m + 1 := ⟨f - 1, by omega⟩
    obtain rfl : i = 6 * n := by omega
    refine ⟨w, ?_, b, o, Upd.refl _ w⟩
    have eu : rijndael_Wrap_l2 K (f + 1) = rijndael_Wrap_l2_b K (rijndael_Wrap_l2 K f) := rfl
    rw [eu]
    unfold rijndael_Wrap_l2_b
    rw [if_neg (fun e => by have := of_decide_eq_true e; omega)]
  | succ d ih =>
    intro i f w hd hf k b o
    obtain ⟨f, rfl⟩ : ∃ m, f = m + 1 := ⟨f - 1, by omega⟩
    have hS := k.ok
    have hi : i < 6 * n := by omega
    have hi5 : i < 100000 := by omega
    obtain ⟨h1, h2, h3⟩ := wRun_ok hS hD hn hl i (by omega)
    have hn8 : D.length / 8 = n := by omega
    have hj := mod8_le (t := i) hn h2
    have hmod : i % n < n := Nat.mod_lt i hn
    obtain ⟨a, ha⟩ : ∃ a, a = (wRun S D i).1 := ⟨_, rfl⟩
    obtain ⟨R, hR⟩ : ∃ R, R = (wRun S D i).2 := ⟨_, rfl⟩
    rw [← ha] at b h1
    rw [← hR] at o h2 h3 hj
    have hnext : wRun S D (i + 1) = (numN ((encB S (layB 8 a ++ cut8 R (i % n * 8))).take 8) ^^^ (i + 1), put8 R (i % n * 8) ((encB S (layB 8 a ++ cut8 R (i % n * 8))).drop 8)) := by
      show wStep S (D.length / 8) i (wRun S D i) = _
      unfold wStep
      rw [hn8, ← ha, ← hR]
    obtain ⟨j, hjd⟩ : ∃ j, j = i % n * 8 := ⟨_, rfl⟩
    rw [← hjd] at hj hnext
    have hj5 : j < 5000 := by omega
    have hIn := lay_cut (a := a) h3 hj
    have hE := encB_16 hS hIn
    obtain ⟨E, hEd⟩ : ∃ E, E = encB S (layB 8 a ++ cut8 R j) := ⟨_, rfl⟩
    rw [← hEd] at hE hnext
    -- the steps
    obtain ⟨w1, n1, b1, u1, z1⟩ := newB_ok z42 42 w
    have b1 : Bk 42 w1.drew w.heap.size (ints .u8 (List.replicate 8 0 ++ List.replicate 8 0)) := b1
    have q1 : Upd none_ w w1.drew := u1.drew
    obtain ⟨w2, a2, b2, u2⟩ := lay_ok hK (e := 42) (g := w.heap.size) (o := 0) (size := 8) (n := a) (len := 16 - 0) (cap := 16 - 0) (by decide) (by decide) (by decide) h1 b1
    rw [seg0 (by rw [List.length_replicate]) (layB_len _ _)] at b2
    have a2 : rijndael_lay K ⟨some ⟨w.heap.size, 0, none⟩, 16 - 0, 16 - 0⟩ 8 (a : Int) w1.drew = some ((), w2) := a2
    have q2 : Upd none_ w w2 := q1.trans' u2 fun k hk e => by omega
    have hrl := o.len
    rw [ints_length] at hrl
    obtain ⟨w3, a3, b3, u3⟩ := cpy_out (w := w2.drew) (o.upd0 q2).drew hj b2 (layB_len _ _) List.length_replicate
    have u3 : Upd (· = w.heap.size) w2 w3 := u3.predrew
    have q3 : Upd none_ w w3 := q2.trans' u3 fun k hk e => by omega
    have k3 := k.upd0 q3
    obtain ⟨w4, a4, u4⟩ := encT_ok hK (w := w3.drew) (k3.upd0 (Upd.refl none_ w3).drew) hIn
    rw [← hEd] at a4
    have u4 : Upd none_ w3 w4 := u4.predrew
    obtain ⟨w5, a5, b5, u5⟩ := stA16 (b3.upd0 u4) (ints16 hIn) hE
    have q5 : Upd none_ w w5 := (q3.and0 u4).trans' u5 fun k hk e => by omega
    have hnum := number_hi hK b5 hE (len := 16 - 0) (cap := 16 - 0) (by decide) (by decide) rfl
    have hElt := hE.hi_lt
    obtain ⟨w6, a6, b6, u6⟩ := rg_set (b.upd0 q5) (numN (E.take 8) ^^^ (i + 1))
    have hs8 := b.lt
    have o6 := (o.upd0 q5).upd u6 (fun k hk e => by have := (hrs k hk).1; omega)
    have b56 : Bk 42 w6 w.heap.size (ints .u8 E) := b5.upd u6 (by show ¬ w.heap.size = s8; omega)
    obtain ⟨w7, a7, o7, u7⟩ := cpy_in (w := w6.drew) o6.drew hj b56.drew hE (n := j + 8 - j) (by omega)
    have u7 : Upd (fun k => rs.blk = some k) w6 w7 := u7.predrew
    have q7 : Upd (fun k => k = s8 ∨ rs.blk = some k) w w7 := ((q5.mono fun _ _ e => e.elim).trans' (u6.mono fun _ _ e => .inl e) fun _ _ e => e).trans' (u7.mono fun _ _ e => .inr e) fun _ _ e => e
    have b7 := b6.upd u7 (fun e => (hrs _ e).1 rfl)
    have k0 := k.b
    have x1 : g ≠ s8 := Bk.apart (by decide) k.b b
    have x2 : t ≠ s8 := Bk.apart (by decide) k.bt b
    have x3 : gw ≠ s8 := Bk.apart (by decide) k.bw b
    have x4 : gb ≠ s8 := Bk.apart (by decide) k.bb b
    have k7 := k.upd q7 (fun e => e.elim x1 fun e => (hrs _ e).2.1 rfl) (fun e => e.elim x2 fun e => (hrs _ e).2.2.1 rfl) (fun e => e.elim x3 fun e => (hrs _ e).2.2.2.1 rfl) (fun e => e.elim x4 fun e => (hrs _ e).2.2.2.2 rfl)
    have e1st : (wRun S D (i + 1)).1 = numN (E.take 8) ^^^ (i + 1) := by rw [hnext]
    have e2nd : (wRun S D (i + 1)).2 = put8 R j (E.drop 8) := by rw [hnext]
    obtain ⟨w8, g1, g2, g3, g4⟩ := ih (i + 1) f w7 (by omega) (by omega) k7 (by rw [e1st]; exact b7) (by rw [e2nd]; exact o7)
    refine ⟨w8, ?_, g2, g3, q7.trans' g4 fun _ _ e => e⟩
    have e1 : IntKind.i64.wrap ((i : Int) + 1) = ((i + 1 : Nat) : Int) := by rw [w64 (by omega) (by omega)]; rfl
    have ej : IntKind.i64.wrap (Int.tmod (i : Int) (n : Int) * 8) = (j : Int) := by
      have : Int.tmod (i : Int) (n : Int) = ((i % n : Nat) : Int) := tmod_nat i n
      rw [this, w64 (by omega) (by omega), hjd]; omega
    have ej8 : IntKind.i64.wrap ((j : Int) + 8) = ((j + 8 : Nat) : Int) := by rw [w64 (by omega) (by omega)]; omega
    have eu : rijndael_Wrap_l2 K (f + 1) = rijndael_Wrap_l2_b K (rijndael_Wrap_l2 K f) := rfl
    have hcap := o.cap
    have lT : ldP ((⟨g, 0, none⟩ : Addr).add 7) w3.drew = some (some ⟨t, 0, none⟩) := (k3.upd0 (Upd.refl none_ w3).drew).ldT
    have l16 : ldA 16 ⟨w.heap.size, 0, none⟩ w3.drew = some (ints .u8 (layB 8 a ++ cut8 R j)).toArray := ldA16 b3.drew hIn
    have exor : bits .xor .u64 ((numN (E.take 8) : Nat) : Int) (IntKind.u64.wrap ((i + 1 : Nat) : Int)) = ((numN (E.take 8) ^^^ (i + 1) : Nat) : Int) := by
      rw [wru64 (by omega), xorN64 hElt (by omega)]
    rw [eu]
    unfold rijndael_Wrap_l2_b
    rw [if_pos (decide_eq_true (by omega)), if_pos (show (n : Int) ≠ 0 by omega), n1, bnd_ok, rg_a (b.upd0 q1), Option.bind_some, at0, a2, bnd_ok, rg_r (b.upd0 q2).drew, Option.bind_some, ej, if_pos ⟨by omega, by omega⟩, Int.toNat_natCast, a3, bnd_ok, Option.bind_some, lT, Option.bind_some, l16, Option.bind_some, a4, bnd_ok, if_pos (size16 hE), a5, Option.bind_some]
    rw [at0] at hnum
    rw [hnum, Option.bind_some, e1]
    show ((stC _ (.int .u64 (bits .xor .u64 ((numN (E.take 8) : Nat) : Int) (IntKind.u64.wrap ((i + 1 : Nat) : Int)))) w5).bind _) = _
    rw [exor, a6, Option.bind_some, rg_r b6.drew, Option.bind_some, ej8, if_pos ⟨by omega, by omega⟩, Int.toNat_natCast, if_pos ⟨by omega, by omega⟩, a7, bnd_ok, g1]

theorem built111 (s : Sl) : prog.built 111 [(0, (.int .u64 12008468691120727718)), (1, (.slice s.a s.len s.cap))] = some #[.int .u64 12008468691120727718, .slice s.a s.len s.cap] := by kernel_rfl
theorem z111_len : z111.toList.length = 2 := rfl

theorem Wrap_s0_ok {K : Nat} {plain : Sl} {n : Nat} (hl : plain.len = 8 * n) (hn : 2 ≤ n) (hn2 : n ≤ 512) (w : World) : rijndael_Wrap_s0 K plain 0 w = some (.norm (), w) := by
  have e8 : Int.tmod ((8 * n : Nat) : Int) 8 = 0 := by
    have : Int.tmod ((8 * n : Nat) : Int) 8 = ((8 * n % 8 : Nat) : Int) := tmod_nat (8 * n) 8
    rw [this]; omega
  have e1 : rijndael_Wrap_s1 K plain w = some ((false, ()), w) := by
    unfold rijndael_Wrap_s1
    rw [hl, if_neg (fun e => by have := of_decide_eq_true e; omega), e8]; rfl
  unfold rijndael_Wrap_s0
  rw [if_neg (show ¬ ((0 : Int) != 0) = true by decide), e1, bnd_ok, if_neg (show ¬ false = true by decide), hl, if_neg (fun e => by have := of_decide_eq_true e; omega)]

theorem Wrap_ok {K : Nat} (hK : 18446744073709551616 ≤ K) {w : World} {g t gw gb kl : Nat} {S : List W4} (k : KeyAt w g t gw gb kl S) {plain : Sl} {D : List Int} (hD : ∀ z ∈ D, InK .u8 z) (r : RdS .u8 w plain D) {n : Nat} (hl : D.length = 8 * n) (hn : 2 ≤ n) (hn2 : n ≤ 512) :
    ∃ s w', rijndael_Wrap K (some ⟨g, 0, none⟩) plain w = some ((s, 0, ()), w') ∧ Own 5 w' s (ints .u8 (wrapL S D)) ∧ Fresh w.heap.size s ∧ Upd none_ w w' := by
  have hlen := r.len
  rw [hl] at hlen
  have hne : D ≠ [] := fun e => by rw [e] at hl; simp at hl; omega
  obtain ⟨rs, w1, a1, l1, o1, u1, f1⟩ := apd_ok sliceB (Own.nil 5 w) (RdS.src r hne) (by show (0 + plain.len) * 1 ≤ _; omega)
  rw [List.nil_append] at o1
  have u1 : Upd none_ w w1 := u1.mono fun x _ e => by cases e
  have hb1 : rs.blk = some w.heap.size := by
    rcases f1 with e | e
    · exfalso
      rcases o1.2 with ⟨x, y, z⟩ | ⟨g1, cur, x, _⟩
      · have : rs.len = 0 + plain.len := l1
        omega
      · have e : rs.blk = none := e
        simp [Sl.blk, x] at e
    · exact e
  have hlt1 := o1.lt hb1
  obtain ⟨w2, n2, b2, u2, z2⟩ := newB_ok z111 111 w1
  obtain ⟨w3, a3, b3, u3⟩ := b2.stA (o := 0) (vs := #[.int .u64 12008468691120727718, .slice rs.a rs.len rs.cap]) (by rw [z111_len]; exact Nat.le_refl 2) (fun v hv => by
    rcases List.mem_cons.1 hv with e | hv
    · rw [e]; rfl
    · rcases List.mem_cons.1 hv with e | hv
      · rw [e]; rfl
      · cases hv)
  rw [seg_all (by rw [z111_len]; rfl)] at b3
  have b3 : Bk 111 w3 w1.heap.size (regC (wRun S D 0).1 rs) := b3
  have q3 : Upd none_ w w3 := (u1.and0 u2).trans' u3 fun k hk e => by have := u1.size; omega
  have q13 : Upd none_ w1 w3 := u2.trans' u3 fun k hk e => by omega
  have k1 := k.b.lt
  have k2 := k.bt.lt
  have k4 := k.bw.lt
  have k5 := k.bb.lt
  obtain ⟨w4, c1, c2, c3, c4⟩ := wrap_loop (K := K) (by omega) (g := g) (t := t) (gw := gw) (gb := gb) (kl := kl) (S := S) hD (n := n) (by omega) hl hn2 (s8 := w1.heap.size) (rs := rs) (fun x hx => by
    rw [hb1] at hx
    have := Option.some.inj hx
    omega) (6 * n) 0 K w3 rfl (by omega) (k.upd0 q3) b3 (o1.upd0 q13)
  have c1 : rijndael_Wrap_l2 K K (some ⟨g, 0, none⟩) ⟨some ⟨gw, 0, none⟩, S.length, S.length⟩ ⟨w1.heap.size, 0, none⟩ (n : Int) ((6 * n : Nat) : Int) 0 w3 = _ := c1
  have q4 : Upd none_ w w4 := q3.trans' c4 fun x hx e => by
    rcases e with e | e
    · have := u1.size; omega
    · rw [hb1] at e; have := Option.some.inj e; omega
  obtain ⟨hr1, hr2, hr3⟩ := wRun_ok k.ok hD (show 0 < n by omega) hl (6 * n) (by omega)
  have hrl := c3.len
  rw [ints_length, hr2] at hrl
  obtain ⟨w5, a5, o5, u5⟩ := mkB_room w4 (l := 8) (c := 8 + 8 * n) (by omega) (by omega)
  have hbk5 := o5.bk (by intro e; cases e)
  obtain ⟨g6, cs6, x1, x2, x3, x4, x5, x6⟩ := hbk5
  obtain rfl : w4.heap.size = g6 := by
    have := Option.some.inj x1
    exact congrArg Addr.block this
  have x3 : 8 ≤ 8 + 8 * n := x3
  have x5 : cs6.length = 8 + 8 * n := x5
  obtain ⟨w6, a6, b6, u6⟩ := lay_ok (K := K) (by omega) (e := 5) (g := w4.heap.size) (o := 0) (size := 8) (n := (wRun S D (6 * n)).1) (len := 8) (cap := 8 + 8 * n) (by decide) (by decide) (by omega) hr1 x2
  have a6 : rijndael_lay K ⟨some ⟨w4.heap.size, 0, none⟩, 8, 8 + 8 * n⟩ 8 (((wRun S D (6 * n)).1 : Nat) : Int) w5 = some ((), w6) := a6
  have o6 : Own 5 w6 ⟨some ⟨w4.heap.size, 0, none⟩, 8, 8 + 8 * n⟩ (ints .u8 (layB 8 (wRun S D (6 * n)).1)) := by
    have := Own.of_bk (len := 8) (cap := 8 + 8 * n) b6 (by omega) (by simp only [maxLen]; omega) (by rw [seg_length (by rw [ints_length, layB_len]; omega)]; exact x5)
    have e : (seg cs6 0 (ints .u8 (layB 8 (wRun S D (6 * n)).1))).take 8 = ints .u8 (layB 8 (wRun S D (6 * n)).1) := by
      unfold seg
      rw [List.take_zero, List.nil_append, List.take_append_of_le_length (by rw [ints_length, layB_len]; decide), List.take_of_length_le (by rw [ints_length, layB_len]; decide)]
    rw [e] at this; exact this
  have hz4 := q4.size
  have hblt := c3.lt hb1
  have o6r := (c3.upd0 u5).upd u6 (fun x hx e => by rw [hb1] at hx; have := Option.some.inj hx; omega)
  obtain ⟨s7, w7, a7, l7, o7, u7, f7⟩ := apd_ok sliceB o6 (o6r.src ints_one) (by show (8 + rs.len) * 1 ≤ _; omega)
  have q6 : Upd none_ w w6 := (q4.and0 u5).trans' u6 fun x hx e => by omega
  refine ⟨s7, w7, ?_, ?_, ?_, q6.trans' u7 fun x hx e => by
    have : w4.heap.size = x := Option.some.inj e
    omega⟩
  · have hsch : rijndael_Key_schedule (some ⟨g, 0, none⟩) false w = some ((⟨some ⟨gw, 0, none⟩, S.length, S.length⟩, 0, ()), w) := sched_ok k false
    have e1 : IntKind.i64.wrap (Int.tdiv ((plain.len : Nat) : Int) 8) = (n : Int) := by
      have : Int.tdiv ((plain.len : Nat) : Int) 8 = ((plain.len / 8 : Nat) : Int) := tdiv_nat plain.len 8
      rw [this, i64n (by omega)]; omega
    have e2 : IntKind.i64.wrap (6 * (n : Int)) = ((6 * n : Nat) : Int) := by rw [w64 (by omega) (by omega)]; omega
    have e3 : IntKind.i64.wrap (8 + ((rs.len : Nat) : Int)) = ((8 + 8 * n : Nat) : Int) := by rw [hrl, w64 (by omega) (by omega)]; omega
    have hb111 := built111 rs
    have a1 : apd prog 22 22 (.slice none 0 0) (.slice plain.a plain.len plain.cap) w = some (rs, w1) := a1
    have a5 : mkS prog 22 (.int .i64 8) (.int .i64 ((8 + 8 * n : Nat) : Int)) w4 = some (⟨some ⟨w4.heap.size, 0, none⟩, 8, 8 + 8 * n⟩, w5) := a5
    have a7 : apd prog 22 22 (.slice (some ⟨w4.heap.size, 0, none⟩) 8 (8 + 8 * n)) (.slice rs.a rs.len rs.cap) w6 = some (s7, w7) := a7
    unfold rijndael_Wrap
    rw [hsch, bnd_ok, Wrap_s0_ok hlen hn hn2, bnd_ok]
    dsimp only
    rw [a1, bnd_ok, hb111, Option.bind_some, n2, bnd_ok, if_pos (show (#[Value.int .u64 12008468691120727718, Value.slice rs.a rs.len rs.cap] : Array Value).size = 2 from rfl), a3, Option.bind_some, e1, e2, c1, bnd_ok, rg_r c2, Option.bind_some, e3, a5, bnd_ok, rg_a (c2.upd0 u5), Option.bind_some, a6, bnd_ok, rg_r ((c2.upd0 u5).upd u6 (by have := u1.size; have := c2.lt; omega)), Option.bind_some, a7, bnd_ok]
  · unfold wrapL
    have : D.length / 8 = n := by omega
    rw [this, ints_append]; exact o7
  · intro x hx
    rcases f7 with e | e
    · rw [e] at hx
      have : w4.heap.size = x := Option.some.inj hx
      omega
    · rw [e] at hx
      have := Option.some.inj hx
      have := q6.size
      omega

end Go.Sh

/- Each way undoes the other: the cipher, a stream, the wrap. Nothing of a program stands here. -/
set_option linter.unusedVariables false
set_option maxRecDepth 100000
namespace Go.Sh
open Go.Fw Go.Gf Go.RowKit Go.Proofs.Tryd

theorem W4.xor_self (x : W4) : x.xor x = z4 := by unfold W4.xor; simp only [Nat.xor_self]; rfl
theorem W4.xor_zero (x : W4) : x.xor z4 = x := by
  show W4.mk (x.a ^^^ 0) (x.b ^^^ 0) (x.c ^^^ 0) (x.d ^^^ 0) = x
  simp only [Nat.xor_zero]
theorem W4.xor_twice (x k : W4) : (x.xor k).xor k = x := by
  show W4.mk ((x.a ^^^ k.a) ^^^ k.a) ((x.b ^^^ k.b) ^^^ k.b) ((x.c ^^^ k.c) ^^^ k.c) ((x.d ^^^ k.d) ^^^ k.d) = x
  simp only [Nat.xor_assoc, Nat.xor_self, Nat.xor_zero]

/-- what goes with sums and is told of the eight bits is told of all bytes -/
theorem lin_all {f : Nat → W4} (hf : ∀ a b, a < 256 → b < 256 → f (a ^^^ b) = (f a).xor (f b)) (hb : ∀ k, k < 8 → f (2 ^ k) = ⟨2 ^ k, 0, 0, 0⟩) : ∀ n, n ≤ 8 → ∀ a, a < 2 ^ n → f a = ⟨a, 0, 0, 0⟩
  | 0, _, a, h => by
    obtain rfl : a = 0 := by have : (2 : Nat) ^ 0 = 1 := rfl; omega
    have := hf 0 0 (by decide) (by decide)
    rw [Nat.xor_self, W4.xor_self] at this
    exact this
  | n + 1, hn, a, h => by
    have h2 : (2 : Nat) ^ (n + 1) = 2 ^ n + 2 ^ n := by rw [Nat.pow_succ]; omega
    have h8 : (2 : Nat) ^ (n + 1) ≤ 2 ^ 8 := Nat.pow_le_pow_right (by decide) hn
    have e8 : (2 : Nat) ^ 8 = 256 := rfl
    by_cases c : a < 2 ^ n
    · exact lin_all hf hb n (by omega) a c
    · obtain ⟨b, hbb⟩ : ∃ b, a = 2 ^ n + b := ⟨a - 2 ^ n, by omega⟩
      have hbl : b < 2 ^ n := by omega
      have hx : 2 ^ n ^^^ b = a := by
        have := xor_split (k := n) (x := 0) (y := b) (a := 1) (b := 0) (Nat.two_pow_pos n) hbl
        rw [Nat.one_mul, Nat.zero_mul, Nat.add_zero, Nat.zero_add, Nat.xor_zero, Nat.zero_xor, Nat.one_mul] at this
        rw [this, hbb]
      have e := hf (2 ^ n) b (by omega) (by omega)
      rw [hx, hb n (by omega), lin_all hf hb n (by omega) b hbl] at e
      rw [e]
      show W4.mk (2 ^ n ^^^ b) (0 ^^^ 0) (0 ^^^ 0) (0 ^^^ 0) = _
      rw [hx]
      rfl

theorem mc_one (Y Z : W4) (hb : ∀ k, k < 8 → mcW Z (mulW (2 ^ k) Y) = ⟨2 ^ k, 0, 0, 0⟩) {a : Nat} (ha : a < 256) : mcW Z (mulW a Y) = ⟨a, 0, 0, 0⟩ :=
  lin_all (f := fun a => mcW Z (mulW a Y)) (fun a b ha hb => by
    show mcW Z (mulW (a ^^^ b) Y) = _
    rw [mulW_xor ha hb, mcW_xor (mulW_ok ha Y) (mulW_ok hb Y)]) hb 8 (Nat.le_refl 8) a ha
theorem dec_enc1 {a : Nat} (ha : a < 256) : mcW decY (mulW a encY) = ⟨a, 0, 0, 0⟩ := mc_one encY decY (by decide +kernel) ha
theorem enc_dec1 {a : Nat} (ha : a < 256) : mcW encY (mulW a decY) = ⟨a, 0, 0, 0⟩ := mc_one decY encY (by decide +kernel) ha

theorem mcW_rr1 (Y x : W4) : mcW Y x.rr1 = (mcW Y x).rr1 := by
  show W4.mk _ _ _ _ = W4.mk _ _ _ _
  congr 1 <;> (dsimp only [mcW, W4.xor, W4.rr, W4.rr1, mulW]; ac_rfl)
theorem mcW_rr (Y x : W4) : ∀ r, mcW Y (W4.rr r x) = W4.rr r (mcW Y x)
  | 0 => rfl
  | r + 1 => by show mcW Y (W4.rr r x).rr1 = (W4.rr r (mcW Y x)).rr1; rw [mcW_rr1, mcW_rr Y x r]

theorem mc_inv {Y Z : W4} (h1 : ∀ a, a < 256 → mcW Z (mulW a Y) = ⟨a, 0, 0, 0⟩) {x : W4} (hx : x.ok) : mcW Z (mcW Y x) = x := by
  have o0 := W4.ok_rr (mulW_ok hx.1 Y) 0
  have o1 := W4.ok_rr (mulW_ok hx.2.1 Y) 1
  have o2 := W4.ok_rr (mulW_ok hx.2.2.1 Y) 2
  have o3 := W4.ok_rr (mulW_ok hx.2.2.2 Y) 3
  have e : mcW Y x = (((W4.rr 0 (mulW x.a Y)).xor (W4.rr 1 (mulW x.b Y))).xor (W4.rr 2 (mulW x.c Y))).xor (W4.rr 3 (mulW x.d Y)) := rfl
  rw [e, mcW_xor (W4.ok_xor (W4.ok_xor o0 o1) o2) o3, mcW_xor (W4.ok_xor o0 o1) o2, mcW_xor o0 o1, mcW_rr, mcW_rr, mcW_rr, mcW_rr, h1 _ hx.1, h1 _ hx.2.1, h1 _ hx.2.2.1, h1 _ hx.2.2.2]
  show W4.mk (((x.a ^^^ 0) ^^^ 0) ^^^ 0) (((0 ^^^ x.b) ^^^ 0) ^^^ 0) (((0 ^^^ 0) ^^^ x.c) ^^^ 0) (((0 ^^^ 0) ^^^ 0) ^^^ x.d) = x
  simp only [Nat.xor_zero, Nat.zero_xor]

/-! ### states -/
theorem getD_four {f : Nat → W4} {c : Nat} (hc : c < 4) : (fourL f).getD c z4 = f c := fourL_get f hc
theorem four_self {f : Nat → W4} {st : List W4} (hl : st.length = 4) (h : ∀ c, c < 4 → f c = st.getD c z4) : fourL f = st := by
  rw [← fourL_self hl]; exact fourL_ext h
theorem add_add (S : List W4) (r : Nat) {st : List W4} (hl : st.length = 4) : addR S r (addR S r st) = st := by
  have e : addR S r (addR S r st) = fourL (fun c => ((addR S r st).getD c z4).xor (S.getD (4 * r + c) z4)) := rfl
  rw [e]
  refine four_self hl fun c hc => ?_
  rw [show (addR S r st).getD c z4 = (st.getD c z4).xor (S.getD (4 * r + c) z4) from fourL_get (fun c => (st.getD c z4).xor (S.getD (4 * r + c) z4)) hc]
  exact W4.xor_twice _ _
theorem bw0 (a b c d : Nat) : byteW ⟨a, b, c, d⟩ 0 = a := rfl
theorem bw1 (a b c d : Nat) : byteW ⟨a, b, c, d⟩ 1 = b := rfl
theorem bw2 (a b c d : Nat) : byteW ⟨a, b, c, d⟩ 2 = c := rfl
theorem bw3 (a b c d : Nat) : byteW ⟨a, b, c, d⟩ 3 = d := rfl
theorem cols_inv {Y Z : W4} (h1 : ∀ a, a < 256 → mcW Z (mulW a Y) = ⟨a, 0, 0, 0⟩) {st : List W4} (hs : ∀ x ∈ st, x.ok) (hl : st.length = 4) : colsL Z (colsL Y st) = st := four_self hl fun c hc => by
  show mcW Z ((colsL Y st).getD c z4) = _
  unfold colsL
  rw [fourL_get _ hc]; exact mc_inv h1 (getD_ok hs c)
theorem usx {a : Nat} (h : a < 256) : ux (sx a) = a := (both a h).1
theorem sux {a : Nat} (h : a < 256) : sx (ux a) = a := (both a h).2.1
theorem usx4 {x : W4} (o : x.ok) : W4.mk (ux (sx x.a)) (ux (sx x.b)) (ux (sx x.c)) (ux (sx x.d)) = x := by rw [usx o.1, usx o.2.1, usx o.2.2.1, usx o.2.2.2]
theorem sux4 {x : W4} (o : x.ok) : W4.mk (sx (ux x.a)) (sx (ux x.b)) (sx (ux x.c)) (sx (ux x.d)) = x := by rw [sux o.1, sux o.2.1, sux o.2.2.1, sux o.2.2.2]
theorem sub_get (f : Nat → Nat) (step : Nat) (st : List W4) {c : Nat} (hc : c < 4) : (subL f step st).getD c z4 = subW4 f step st c := fourL_get _ hc
theorem unsub_sub {st : List W4} (hs : ∀ x ∈ st, x.ok) (hl : st.length = 4) : subL ux 3 (subL sx 1 st) = st := four_self hl fun c hc => by
  have o := getD_ok hs c
  have h4 : c = 0 ∨ c = 1 ∨ c = 2 ∨ c = 3 := by omega
  unfold subW4
  rw [sub_get _ _ _ hc, sub_get _ _ _ (Nat.mod_lt _ (by decide)), sub_get _ _ _ (Nat.mod_lt _ (by decide)), sub_get _ _ _ (Nat.mod_lt _ (by decide))]
  have e1 : ((c + 3) % 4 + 1) % 4 = c := by omega
  have e2 : ((c + 2) % 4 + 2) % 4 = c := by omega
  have e3 : ((c + 3 * 3) % 4 + 3 * 1) % 4 = c := by omega
  have g : ∀ c', subW4 sx 1 st c' = ⟨sx (st.getD c' z4).a, sx (st.getD ((c' + 1) % 4) z4).b, sx (st.getD ((c' + 2) % 4) z4).c, sx (st.getD ((c' + 3 * 1) % 4) z4).d⟩ := fun _ => rfl
  rw [g, g, g, g, bw0, bw1, bw2, bw3, e1, e2, e3]
  exact usx4 o
theorem sub_unsub {st : List W4} (hs : ∀ x ∈ st, x.ok) (hl : st.length = 4) : subL sx 1 (subL ux 3 st) = st := four_self hl fun c hc => by
  have o := getD_ok hs c
  unfold subW4
  rw [sub_get _ _ _ hc, sub_get _ _ _ (Nat.mod_lt _ (by decide)), sub_get _ _ _ (Nat.mod_lt _ (by decide)), sub_get _ _ _ (Nat.mod_lt _ (by decide))]
  have e1 : ((c + 1) % 4 + 3) % 4 = c := by omega
  have e2 : ((c + 2) % 4 + 2) % 4 = c := by omega
  have e3 : ((c + 3 * 1) % 4 + 3 * 3) % 4 = c := by omega
  have g : ∀ c', subW4 ux 3 st c' = ⟨ux (st.getD c' z4).a, ux (st.getD ((c' + 3) % 4) z4).b, ux (st.getD ((c' + 2) % 4) z4).c, ux (st.getD ((c' + 3 * 3) % 4) z4).d⟩ := fun _ => rfl
  rw [g, g, g, g, bw0, bw1, bw2, bw3, e1, e2, e3]
  exact sux4 o

theorem dec_of_enc {S : List W4} (hS : ∀ x ∈ S, x.ok) {n : Nat} : ∀ (d r : Nat) (st : List W4), r + 1 + d = n → (∀ x ∈ st, x.ok) → st.length = 4 → decR S (n - 1) (subL ux 3 (addR S n (encR S d (r + 1) st))) = decR S r st
  | 0, r, st, h, hs, hl => by
    obtain rfl : n = r + 1 := by omega
    unfold encR
    rw [add_add S _ (subL_len sx 1 st), unsub_sub hs hl]
    rfl
  | d + 1, r, st, h, hs, hl => by
    have hso := subL_ok (f := sx) (fun i hi => sx_lt hi) 1 hs
    have ih := dec_of_enc hS (n := n) d (r + 1) (addR S (r + 1) (colsL encY (subL sx 1 st))) (by omega) (addR_ok hS _ (colsL_ok encY hso)) (addR_len _ _ _)
    show decR S (n - 1) (subL ux 3 (addR S n (encR S d (r + 1 + 1) (addR S (r + 1) (colsL encY (subL sx 1 st)))))) = _
    rw [ih]
    show decR S r (subL ux 3 (colsL decY (addR S (r + 1) (addR S (r + 1) (colsL encY (subL sx 1 st)))))) = _
    rw [add_add S _ (colsL_len _ _), cols_inv (fun a ha => dec_enc1 ha) hso (subL_len _ _ _), unsub_sub hs hl]

theorem enc_of_dec {S : List W4} (hS : ∀ x ∈ S, x.ok) {m : Nat} : ∀ (r : Nat) (st : List W4), r ≤ m → (∀ x ∈ st, x.ok) → st.length = 4 → encR S m 1 (addR S 0 (decR S r st)) = encR S (m - r) (r + 1) st
  | 0, st, h, hs, hl => by
    unfold decR
    rw [add_add S 0 hl]
    rfl
  | r + 1, st, h, hs, hl => by
    have hao := addR_ok hS (r + 1) hs
    have hco := colsL_ok decY hao
    have ih := enc_of_dec hS (m := m) r (subL ux 3 (colsL decY (addR S (r + 1) st))) (by omega) (subL_ok (fun i hi => ux_lt hi) 3 hco) (subL_len _ _ _)
    show encR S m 1 (addR S 0 (decR S r (subL ux 3 (colsL decY (addR S (r + 1) st))))) = _
    rw [ih, show m - r = (m - (r + 1)) + 1 by omega]
    show encR S (m - (r + 1)) (r + 1 + 1) (addR S (r + 1) (colsL encY (subL sx 1 (subL ux 3 (colsL decY (addR S (r + 1) st)))))) = _
    rw [sub_unsub hco (colsL_len _ _), cols_inv (fun a ha => enc_dec1 ha) hao (addR_len _ _ _), add_add S _ hl]

theorem encF_ok {S : List W4} (hS : ∀ x ∈ S, x.ok) {st : List W4} (hs : ∀ x ∈ st, x.ok) : ∀ x ∈ encF S st, x.ok := throughF_ok hS (fun i hi => sx_lt hi) encY 1 hs
theorem decF_ok {S : List W4} (hS : ∀ x ∈ S, x.ok) {st : List W4} (hs : ∀ x ∈ st, x.ok) : ∀ x ∈ decF S st, x.ok := throughF_ok (backS_ok hS) (fun i hi => ux_lt hi) decY 3 hs

theorem decF_encF {S : List W4} (hS : ∀ x ∈ S, x.ok) {n : Nat} (hn : S.length = 4 * (n + 1)) (h1 : 1 ≤ n) {st : List W4} (hs : ∀ x ∈ st, x.ok) (hl : st.length = 4) : decF S (encF S st) = st := by
  rw [← decR_ok hS hn h1 (encF_ok hS hs), ← encR_ok S hn h1 st, dec_of_enc hS (n - 1) 0 (addR S 0 st) (by omega) (addR_ok hS 0 hs) (addR_len _ _ _)]
  exact add_add S 0 hl
theorem encF_decF {S : List W4} (hS : ∀ x ∈ S, x.ok) {n : Nat} (hn : S.length = 4 * (n + 1)) (h1 : 1 ≤ n) {st : List W4} (hs : ∀ x ∈ st, x.ok) (hl : st.length = 4) : encF S (decF S st) = st := by
  have hao := addR_ok hS n hs
  rw [← encR_ok S hn h1 (decF S st), ← decR_ok hS hn h1 hs, enc_of_dec hS (n - 1) _ (Nat.le_refl _) (subL_ok (fun i hi => ux_lt hi) 3 hao) (subL_len _ _ _), Nat.sub_self, show n - 1 + 1 = n by omega]
  unfold encR
  rw [sub_unsub hao (addR_len _ _ _), add_add S n hl]

theorem ws_round {st : List W4} (hl : st.length = 4) : wsB (roundB st) = st := by
  have : wsB (roundB st) = fourL fun c => st.getD c z4 := by
    unfold wsB keyS fourL
    exact List.map_congr_left fun c hc => kw_round (by have := List.mem_range.1 hc; omega)
  rw [this, fourL_self hl]
theorem decB_encB {S : List W4} (hS : ∀ x ∈ S, x.ok) {n : Nat} (hn : S.length = 4 * (n + 1)) (h1 : 1 ≤ n) {B : List Int} (hB : B16 B) : decB S (encB S B) = B := by
  unfold decB encB
  rw [ws_round (by unfold encF; rw [throughF_len]), decF_encF hS hn h1 (wsB_ok hB) (wsB_len B), roundB_ws hB]
theorem encB_decB {S : List W4} (hS : ∀ x ∈ S, x.ok) {n : Nat} (hn : S.length = 4 * (n + 1)) (h1 : 1 ≤ n) {B : List Int} (hB : B16 B) : encB S (decB S B) = B := by
  unfold decB encB
  rw [ws_round (by unfold decF; rw [throughF_len]), encF_decF hS hn h1 (wsB_ok hB) (wsB_len B), roundB_ws hB]

/-! ### a stream over its own bytes -/
theorem xor_byte_twice {x y : Int} (hx : InK .u8 x) (hy : InK .u8 y) : bits .xor .u8 (bits .xor .u8 x y) y = x := by
  obtain ⟨a, rfl, ha⟩ := hx.nat
  obtain ⟨b, rfl, hb⟩ := hy.nat
  rw [(bits_nats (k := .u8) rfl ha hb).2.2, (bits_nats (k := .u8) rfl (Nat.xor_lt_two_pow ha hb) hb).2.2, Nat.xor_assoc, Nat.xor_self, Nat.xor_zero]
theorem getD_in {L : List Int} (h : ∀ z ∈ L, InK .u8 z) (i : Nat) : InK .u8 (L.getD i 0) := by
  rw [List.getD_eq_getElem?_getD]
  by_cases hi : i < L.length
  · rw [List.getElem?_eq_getElem hi]; exact h _ (List.getElem_mem hi)
  · rw [List.getElem?_eq_none (by omega)]; exact ⟨by decide, by decide⟩
theorem xorL_in {S : List W4} (hS : ∀ x ∈ S, x.ok) (B : List Int) (a : Nat) {D : List Int} (hD : ∀ z ∈ D, InK .u8 z) : ∀ z ∈ xorL S B a D, InK .u8 z := fun z hz => by
  obtain ⟨i, _, rfl⟩ := List.mem_map.1 hz
  exact InK.xor rfl (getD_in hD i) (getD_in (padQ_16 hS B _).2 _)
theorem xorL_twice {S : List W4} (hS : ∀ x ∈ S, x.ok) (B : List Int) (a : Nat) {D : List Int} (hD : ∀ z ∈ D, InK .u8 z) : xorL S B a (xorL S B a D) = D := by
  apply List.ext_getElem?
  intro i
  have hl := xorL_len S B a D
  by_cases hi : i < D.length
  · have e1 : (xorL S B a D).getD i 0 = xorI S B a D i := by
      unfold xorL
      rw [List.getD_eq_getElem?_getD, List.getElem?_map, List.getElem?_range hi]; rfl
    have e2 : (xorL S B a (xorL S B a D))[i]? = some (xorI S B a (xorL S B a D) i) := by
      show ((List.range (xorL S B a D).length).map _)[i]? = _
      rw [hl, List.getElem?_map, List.getElem?_range hi]; rfl
    rw [e2]
    unfold xorI at e1 ⊢
    rw [e1, xor_byte_twice (getD_in hD i) (getD_in (padQ_16 hS B _).2 _), List.getD_eq_getElem?_getD, List.getElem?_eq_getElem hi]
    rfl
  · rw [List.getElem?_eq_none (by rw [xorL_len, hl]; omega), List.getElem?_eq_none (by omega)]

/-! ### the wrap -/
theorem layB_succ (s n : Nat) : layB (s + 1) n = layB s (n / 256) ++ [((n % 256 : Nat) : Int)] := by
  unfold layB
  rw [List.range_succ, List.map_append]
  congr 1
  · refine List.map_congr_left fun i hi => ?_
    have := List.mem_range.1 hi
    have e : 8 * (s + 1 - 1 - i) = 8 + 8 * (s - 1 - i) := by omega
    rw [e, Nat.pow_add, ← Nat.div_div_eq_div_mul]
  · show [((n / 2 ^ (8 * (s + 1 - 1 - s)) % 256 : Nat) : Int)] = _
    rw [show 8 * (s + 1 - 1 - s) = 0 by omega, Nat.pow_zero, Nat.div_one]
theorem numN_layB : ∀ s n : Nat, numN (layB s n) = n % 256 ^ s
  | 0, n => by show 0 = _; rw [Nat.pow_zero, Nat.mod_one]
  | s + 1, n => by
    rw [layB_succ, numN_snoc, numN_layB s, Int.toNat_natCast, Nat.pow_succ, Nat.mul_comm (256 ^ s) 256, Nat.mod_mul]
    omega
theorem numN_lay8 {a : Nat} (ha : a < 18446744073709551616) : numN (layB 8 a) = a := by
  rw [numN_layB]; exact Nat.mod_eq_of_lt ha
theorem layB_numN : ∀ (s : Nat) (L : List Int), L.length = s → (∀ z ∈ L, InK .u8 z) → layB s (numN L) = L
  | 0, L, hl, _ => by
    obtain rfl := List.eq_nil_of_length_eq_zero hl
    rfl
  | s + 1, L, hl, hL => by
    rcases List.eq_nil_or_concat L with rfl | ⟨L', b, rfl⟩
    · cases hl
    · rw [List.concat_eq_append] at hl hL ⊢
      have hb := in8 (hL b (by simp))
      rw [layB_succ, numN_snoc, show (numN L' * 256 + b.toNat) / 256 = numN L' by omega, show (numN L' * 256 + b.toNat) % 256 = b.toNat by omega, layB_numN s L' (by simpa using hl) (fun z hz => hL z (List.mem_append_left _ hz)), Int.toNat_of_nonneg hb.1]
theorem lay8_numN {L : List Int} (hL : ∀ z ∈ L, InK .u8 z) (hl : L.length = 8) : layB 8 (numN L) = L := layB_numN 8 L hl hL

def uStep (S : List W4) (n t : Nat) (st : Nat × List Int) : Nat × List Int :=
  (numN ((decB S (layB 8 (st.1 ^^^ (t + 1)) ++ cut8 st.2 (t % n * 8))).take 8), put8 st.2 (t % n * 8) ((decB S (layB 8 (st.1 ^^^ (t + 1)) ++ cut8 st.2 (t % n * 8))).drop 8))
/-- the last t steps undone -/
def uRun (S : List W4) (n : Nat) : Nat → Nat × List Int → Nat × List Int
  | 0, st => st
  | t + 1, st => uRun S n t (uStep S n t st)

theorem cut_put {L Y : List Int} {j : Nat} (h : j + 8 ≤ L.length) (hy : Y.length = 8) : cut8 (put8 L j Y) j = Y := by
  unfold cut8 put8
  have ht : (L.take j).length = j := by rw [List.length_take]; omega
  rw [List.append_assoc, List.drop_append_of_le_length (by omega), List.drop_eq_nil_of_le (by omega), List.nil_append, List.take_append_of_le_length (by omega), List.take_of_length_le (by omega)]
theorem put_put {L Y : List Int} {j : Nat} (h : j + 8 ≤ L.length) (hy : Y.length = 8) : put8 (put8 L j Y) j (cut8 L j) = L := by
  unfold cut8 put8
  have ht : (L.take j).length = j := by rw [List.length_take]; omega
  have e1 : ((L.take j ++ Y ++ L.drop (j + 8))).take j = L.take j := by
    rw [List.append_assoc, List.take_append_of_le_length (by omega), List.take_of_length_le (by omega)]
  have e2 : ((L.take j ++ Y ++ L.drop (j + 8))).drop (j + 8) = L.drop (j + 8) := by
    rw [List.drop_append_of_le_length (by rw [List.length_append]; omega), List.drop_eq_nil_of_le (by rw [List.length_append]; omega), List.nil_append]
  rw [e1, e2, List.append_assoc]
  have e3 : (L.drop j).take 8 ++ L.drop (j + 8) = L.drop j := by
    rw [show L.drop (j + 8) = (L.drop j).drop 8 by rw [List.drop_drop], List.take_append_drop]
  rw [e3, List.take_append_drop]

theorem uStep_wStep {S : List W4} (hS : ∀ x ∈ S, x.ok) {m : Nat} (hm : S.length = 4 * (m + 1)) (h1 : 1 ≤ m) {n t : Nat} {st : Nat × List Int} (ha : st.1 < 18446744073709551616) (hR : ∀ z ∈ st.2, InK .u8 z) (hj : t % n * 8 + 8 ≤ st.2.length) : uStep S n t (wStep S n t st) = st := by
  obtain ⟨a, R⟩ := st
  obtain ⟨j, hjd⟩ : ∃ j, j = t % n * 8 := ⟨_, rfl⟩
  rw [← hjd] at hj
  have hIn := lay_cut (a := a) hR hj
  have hE := encB_16 hS hIn
  have hD := decB_encB hS hm h1 hIn
  obtain ⟨E, hEd⟩ : ∃ E, E = encB S (layB 8 a ++ cut8 R j) := ⟨_, rfl⟩
  rw [← hEd] at hE hD
  have hw : wStep S n t (a, R) = (numN (E.take 8) ^^^ (t + 1), put8 R j (E.drop 8)) := by
    unfold wStep
    rw [← hjd, ← hEd]
  have hx : (numN (E.take 8) ^^^ (t + 1)) ^^^ (t + 1) = numN (E.take 8) := by rw [Nat.xor_assoc, Nat.xor_self, Nat.xor_zero]
  have hl8 : (E.take 8).length = 8 := by rw [List.length_take, hE.1]; rfl
  have hlay : layB 8 (numN (E.take 8)) = E.take 8 := lay8_numN (fun z hz => hE.2 z (List.mem_of_mem_take hz)) hl8
  rw [hw]
  unfold uStep
  dsimp only
  rw [← hjd, hx, hlay, cut_put hj hE.lo_len, List.take_append_drop, hD]
  have e1 : (layB 8 a ++ cut8 R j).take 8 = layB 8 a := by rw [List.take_append_of_le_length (by rw [layB_len]; decide), List.take_of_length_le (by rw [layB_len]; decide)]
  have e2 : (layB 8 a ++ cut8 R j).drop 8 = cut8 R j := by rw [List.drop_append_of_le_length (by rw [layB_len]; decide), List.drop_eq_nil_of_le (by rw [layB_len]; decide), List.nil_append]
  rw [e1, e2, numN_lay8 ha, put_put hj hE.lo_len]

theorem uRun_wRun {S : List W4} (hS : ∀ x ∈ S, x.ok) {m : Nat} (hm : S.length = 4 * (m + 1)) (h1 : 1 ≤ m) {D : List Int} (hD : ∀ z ∈ D, InK .u8 z) {n : Nat} (hn : 0 < n) (hl : D.length = 8 * n) : ∀ t, t ≤ 100000 → uRun S n t (wRun S D t) = (12008468691120727718, D)
  | 0, _ => rfl
  | t + 1, ht => by
    obtain ⟨a1, a2, a3⟩ := wRun_ok hS hD hn hl t (by omega)
    have hn8 : D.length / 8 = n := by omega
    show uRun S n t (uStep S n t (wStep S (D.length / 8) t (wRun S D t))) = _
    rw [hn8, uStep_wStep hS hm h1 a1 a3 (mod8_le hn a2)]
    exact uRun_wRun hS hm h1 hD hn hl t (by omega)

end Go.Sh

/- Package rijndael: a key is unwrapped. -/
set_option linter.unusedVariables false
set_option maxRecDepth 100000
namespace Go.Sh
open Go.Fw Go.Gf Go.RowKit Go.Proofs.Tryd

theorem allB_all {β : Type} {r : β} : ∀ {l : List (Option β)}, l ≠ [] → (∀ x ∈ l, x = some r) → allB l = some r
  | [], h, _ => absurd rfl h
  | [x], _, h => by unfold allB; exact h x (List.mem_singleton_self x)
  | x :: y :: l, _, h => by
    have e := allB_all (l := y :: l) (by simp) fun z hz => h z (List.mem_cons_of_mem _ hz)
    have e0 := h x (List.mem_cons_self ..)
    unfold allB
    rw [e, e0, if_pos rfl]
theorem allB_two {β : Type} {r : β} {x y : Option β} (hx : x = some r) (hy : y = some r) : allB [x, y] = some r :=
  allB_all (List.cons_ne_nil _ _) fun z hz => by
    rcases List.mem_cons.1 hz with rfl | hz
    · exact hx
    · rw [List.mem_singleton.1 hz]; exact hy

theorem schedT {w : World} {g t gw gb kl : Nat} {S : List W4} (k : KeyAt w g t gw gb kl S) : rijndael_Key_schedule (some ⟨g, 0, none⟩) true w = some ((⟨some ⟨gb, 0, none⟩, S.length, S.length⟩, 0, ()), w) := sched_ok k true

/-- registers that are sound -/
def Sound (n : Nat) (st : Nat × List Int) : Prop := st.1 < 18446744073709551616 ∧ st.2.length = 8 * n ∧ ∀ z ∈ st.2, InK .u8 z
theorem uStep_sound {S : List W4} (hS : ∀ x ∈ S, x.ok) {n : Nat} (hn : 0 < n) {st : Nat × List Int} (h : Sound n st) (t : Nat) : Sound n (uStep S n t st) := by
  obtain ⟨h1, h2, h3⟩ := h
  have hj := mod8_le (t := t) hn h2
  have hb := decB_16 hS (lay_cut (a := st.1 ^^^ (t + 1)) h3 hj)
  exact ⟨hb.hi_lt, by show (put8 _ _ _).length = _; rw [put8_len hj hb.lo_len, h2], put8_in h3 hb.lo_in _⟩

theorem unwrap_loop {K : Nat} (hK : 300 ≤ K) {g t gw gb kl : Nat} {S : List W4} {n : Nat} (hn : 0 < n) (hn2 : n ≤ 512) {s8 : Nat} {rs : Sl}
    (hrs : ∀ k, rs.blk = some k → k ≠ s8 ∧ k ≠ g ∧ k ≠ t ∧ k ≠ gw ∧ k ≠ gb) :
    ∀ (d f : Nat) (tt : Int) (w : World) (st : Nat × List Int), tt = (d : Int) - 1 → d ≤ 100000 → d < f → Sound n st → KeyAt w g t gw gb kl S → Bk 111 w s8 (regC st.1 rs) → Own 5 w rs (ints .u8 st.2) →
      ∃ w', rijndael_Unwrap_l3 K f (some ⟨g, 0, none⟩) ⟨some ⟨gb, 0, none⟩, S.length, S.length⟩ ⟨s8, 0, none⟩ (n : Int) tt w = some ((), w') ∧ Bk 111 w' s8 (regC (uRun S n d st).1 rs) ∧ Own 5 w' rs (ints .u8 (uRun S n d st).2) ∧ Upd (fun k => k = s8 ∨ rs.blk = some k) w w' := by
  intro d
  induction d with
  | zero =>
    intro f tt w st htt hd hf hst k b o
    obtain ⟨f, rfl⟩ : ∃ m, f = m + 1 := ⟨f - 1, by omega⟩
    refine ⟨w, ?_, b, o, Upd.refl _ w⟩
    have eu : rijndael_Unwrap_l3 K (f + 1) = rijndael_Unwrap_l3_b K (rijndael_Unwrap_l3 K f) := rfl
    rw [eu]
    unfold rijndael_Unwrap_l3_b
    rw [if_neg (fun e => by have := of_decide_eq_true e; omega)]
  | succ d ih =>
    intro f tt w st htt hd hf hst k b o
    obtain ⟨f, rfl⟩ : ∃ m, f = m + 1 := ⟨f - 1, by omega⟩
    obtain rfl : tt = (d : Int) := by omega
    have hS := k.ok
    have hnst := uStep_sound hS hn hst d
    obtain ⟨a, R⟩ := st
    obtain ⟨h1, h2, h3⟩ := hst
    have h1 : a < 18446744073709551616 := h1
    have h2 : R.length = 8 * n := h2
    have hj := mod8_le (t := d) hn h2
    have hmod : d % n < n := Nat.mod_lt d hn
    obtain ⟨j, hjd⟩ : ∃ j, j = d % n * 8 := ⟨_, rfl⟩
    rw [← hjd] at hj
    have hj5 : j < 5000 := by omega
    have hx64 : a ^^^ (d + 1) < 18446744073709551616 := Nat.xor_lt_two_pow (n := 64) h1 (by omega)
    have hIn := lay_cut (a := a ^^^ (d + 1)) h3 hj
    have hE := decB_16 hS hIn
    obtain ⟨E, hEd⟩ : ∃ E, E = decB S (layB 8 (a ^^^ (d + 1)) ++ cut8 R j) := ⟨_, rfl⟩
    rw [← hEd] at hE
    have hnext : uStep S n d (a, R) = (numN (E.take 8), put8 R j (E.drop 8)) := by
      unfold uStep
      rw [← hjd, ← hEd]
    rw [hnext] at hnst
    have hrun : uRun S n (d + 1) (a, R) = uRun S n d (numN (E.take 8), put8 R j (E.drop 8)) := by rw [← hnext]; rfl
    rw [hrun]
    obtain ⟨w1, n1, b1, u1, z1⟩ := newB_ok z42 42 w
    have b1 : Bk 42 w1.drew w.heap.size (ints .u8 (List.replicate 8 0 ++ List.replicate 8 0)) := b1
    have q1 : Upd none_ w w1.drew := u1.drew
    obtain ⟨w2, a2, b2, u2⟩ := lay_ok hK (e := 42) (g := w.heap.size) (o := 0) (size := 8) (n := a ^^^ (d + 1)) (len := 16 - 0) (cap := 16 - 0) (by decide) (by decide) (by decide) hx64 b1
    rw [seg0 (by rw [List.length_replicate]) (layB_len _ _)] at b2
    have a2 : rijndael_lay K ⟨some ⟨w.heap.size, 0, none⟩, 16 - 0, 16 - 0⟩ 8 ((a ^^^ (d + 1) : Nat) : Int) w1.drew = some ((), w2) := a2
    have q2 : Upd none_ w w2 := q1.trans' u2 fun k hk e => by omega
    have hrl := o.len
    rw [ints_length] at hrl
    have hrl : rs.len = R.length := hrl
    obtain ⟨w3, a3, b3, u3⟩ := cpy_out (w := w2.drew) (o.upd0 q2).drew hj b2 (layB_len _ _) List.length_replicate
    have u3 : Upd (· = w.heap.size) w2 w3 := u3.predrew
    have q3 : Upd none_ w w3 := q2.trans' u3 fun k hk e => by omega
    have k3 := k.upd0 q3
    obtain ⟨w4, a4, u4⟩ := decT_ok hK (w := w3.drew) (k3.upd0 (Upd.refl none_ w3).drew) hIn
    rw [← hEd] at a4
    have u4 : Upd none_ w3 w4 := u4.predrew
    obtain ⟨w5, a5, b5, u5⟩ := stA16 (b3.upd0 u4) (ints16 hIn) hE
    have q5 : Upd none_ w w5 := (q3.and0 u4).trans' u5 fun k hk e => by omega
    have hnum := number_hi hK b5 hE (len := 16 - 0) (cap := 16 - 0) (by decide) (by decide) rfl
    obtain ⟨w6, a6, b6, u6⟩ := rg_set (b.upd0 q5) (numN (E.take 8))
    have hs8 := b.lt
    have o6 := (o.upd0 q5).upd u6 (fun k hk e => (hrs k hk).1 e)
    have b56 : Bk 42 w6 w.heap.size (ints .u8 E) := b5.upd u6 (by show ¬ w.heap.size = s8; omega)
    obtain ⟨w7, a7, o7, u7⟩ := cpy_in (w := w6.drew) o6.drew hj b56.drew hE (n := j + 8 - j) (by omega)
    have u7 : Upd (fun k => rs.blk = some k) w6 w7 := u7.predrew
    have q7 : Upd (fun k => k = s8 ∨ rs.blk = some k) w w7 := ((q5.mono fun _ _ e => e.elim).trans' (u6.mono fun _ _ e => .inl e) fun _ _ e => e).trans' (u7.mono fun _ _ e => .inr e) fun _ _ e => e
    have b7 := b6.upd u7 (fun e => (hrs _ e).1 rfl)
    have x1 : g ≠ s8 := Bk.apart (by decide) k.b b
    have x2 : t ≠ s8 := Bk.apart (by decide) k.bt b
    have x3 : gw ≠ s8 := Bk.apart (by decide) k.bw b
    have x4 : gb ≠ s8 := Bk.apart (by decide) k.bb b
    have k7 := k.upd q7 (fun e => e.elim x1 fun e => (hrs _ e).2.1 rfl) (fun e => e.elim x2 fun e => (hrs _ e).2.2.1 rfl) (fun e => e.elim x3 fun e => (hrs _ e).2.2.2.1 rfl) (fun e => e.elim x4 fun e => (hrs _ e).2.2.2.2 rfl)
    obtain ⟨w8, g1, g2, g3, g4⟩ := ih f ((d : Int) - 1) w7 (numN (E.take 8), put8 R j (E.drop 8)) rfl (by omega) (by omega) hnst k7 b7 o7
    refine ⟨w8, ?_, g2, g3, q7.trans' g4 fun _ _ e => e⟩
    have e1 : IntKind.i64.wrap ((d : Int) + 1) = ((d + 1 : Nat) : Int) := by rw [w64 (by omega) (by omega)]; rfl
    have e1m : IntKind.i64.wrap ((d : Int) - 1) = (d : Int) - 1 := w64 (by omega) (by omega)
    have ej : IntKind.i64.wrap (Int.tmod (d : Int) (n : Int) * 8) = (j : Int) := by
      have : Int.tmod (d : Int) (n : Int) = ((d % n : Nat) : Int) := tmod_nat d n
      rw [this, w64 (by omega) (by omega), hjd]; omega
    have ej8 : IntKind.i64.wrap ((j : Int) + 8) = ((j + 8 : Nat) : Int) := by rw [w64 (by omega) (by omega)]; omega
    have eu : rijndael_Unwrap_l3 K (f + 1) = rijndael_Unwrap_l3_b K (rijndael_Unwrap_l3 K f) := rfl
    have hcap := o.cap
    have lT : ldP ((⟨g, 0, none⟩ : Addr).add 7) w3.drew = some (some ⟨t, 0, none⟩) := (k3.upd0 (Upd.refl none_ w3).drew).ldT
    have l16 : ldA 16 ⟨w.heap.size, 0, none⟩ w3.drew = some (ints .u8 (layB 8 (a ^^^ (d + 1)) ++ cut8 R j)).toArray := ldA16 b3.drew hIn
    have exor : bits .xor .u64 ((a : Nat) : Int) (IntKind.u64.wrap ((d + 1 : Nat) : Int)) = ((a ^^^ (d + 1) : Nat) : Int) := by
      rw [wru64 (by omega), xorN64 h1 (by omega)]
    have lra : ldI .u64 ((⟨s8, 0, none⟩ : Addr).add 0) w1.drew = some ((a : Nat) : Int) := rg_a (b.upd0 q1)
    rw [eu]
    unfold rijndael_Unwrap_l3_b
    rw [if_pos (decide_eq_true (by omega)), if_pos (show (n : Int) ≠ 0 by omega), n1, bnd_ok, lra, Option.bind_some, at0, e1, exor, a2, bnd_ok, rg_r (b.upd0 q2).drew, Option.bind_some, ej, if_pos ⟨by omega, by omega⟩, Int.toNat_natCast, a3, bnd_ok, Option.bind_some, lT, Option.bind_some, l16, Option.bind_some, a4, bnd_ok, if_pos (size16 hE), a5, Option.bind_some]
    rw [at0] at hnum
    rw [hnum, Option.bind_some]
    show ((stC _ (.int .u64 ((numN (E.take 8) : Nat) : Int)) w5).bind _) = _
    rw [a6, Option.bind_some, rg_r b6.drew, Option.bind_some, ej8, if_pos ⟨by omega, by omega⟩, Int.toNat_natCast, if_pos ⟨by omega, by omega⟩, a7, bnd_ok, e1m, g1]

theorem built111' (a : Int) (s : Sl) : prog.built 111 [(0, (.int .u64 a)), (1, (.slice s.a s.len s.cap))] = some #[.int .u64 a, .slice s.a s.len s.cap] := by kernel_rfl

/-- the registers laid, whatever the order -/
theorem unwrap_s2 {β : Type} {r : β} {K : Nat} (hK : 300 ≤ K) {sealed : Sl} {X : List Int} (hX : ∀ z ∈ X, InK .u8 z) {w : World} (rd : RdS .u8 w sealed X) (hl : 8 < X.length) (hl2 : X.length ≤ 100000) {k : (Addr × Unit) → World → Option β}
    (hk : ∀ s8 rs w', Bk 111 w' s8 (regC (numN (X.take 8)) rs) → Own 5 w' rs (ints .u8 (X.drop 8)) → w.heap.size ≤ s8 → (∀ x, rs.blk = some x → w.heap.size ≤ x ∧ x ≠ s8) → Upd none_ w w' → k (⟨s8, 0, none⟩, ()) w' = some r) :
    rijndael_Unwrap_s2 K sealed w k = some r := by
  have hlen := rd.len
  have hnum : ∀ w', Upd none_ w w' → rijndael_number K sealed 8 w' = some (((numN (X.take 8) : Nat) : Int), ()) := fun w' u => number_ok hK (rd.upd0 u) hX (n := 8) (by omega) (by decide)
  have hsrc : ∀ w', Upd none_ w w' → Src w' ⟨sla sealed.a 8 sealed.cap 1, sealed.len - 8, sealed.cap - 8⟩ (ints .u8 (X.drop 8)) := fun w' u => by
    have r := (rd.upd0 u).sub (lo := 8) (hi := X.length) (by omega) (Nat.le_refl _)
    rw [List.take_length] at r
    rw [hlen]
    exact RdS.src r (by intro e; have := congrArg List.length e; rw [List.length_drop, List.length_nil] at this; omega)
  have store : ∀ (s8 : Nat) (rs : Sl) (w1 : World), Bk 111 w1 s8 z111.toList → ∃ w2, stA ⟨s8, 0, none⟩ #[.int .u64 ((numN (X.take 8) : Nat) : Int), .slice rs.a rs.len rs.cap] w1 = some w2 ∧ Bk 111 w2 s8 (regC (numN (X.take 8)) rs) ∧ Upd (· = s8) w1 w2 := fun s8 rs w1 b => by
    obtain ⟨w3, a3, b3, u3⟩ := b.stA (o := 0) (vs := #[.int .u64 ((numN (X.take 8) : Nat) : Int), .slice rs.a rs.len rs.cap]) (by rw [z111_len]; exact Nat.le_refl 2) (fun v hv => by
      rcases List.mem_cons.1 hv with e | hv
      · rw [e]; rfl
      · rcases List.mem_cons.1 hv with e | hv
        · rw [e]; rfl
        · cases hv)
    rw [seg_all (by rw [z111_len]; rfl)] at b3
    exact ⟨w3, a3, b3, u3⟩
  have alloc : ∀ w1, Upd none_ w w1 → ∃ rs w2, apd prog 22 22 (.slice none 0 0) (.slice (sla sealed.a 8 sealed.cap 1) (sealed.len - 8) (sealed.cap - 8)) w1 = some (rs, w2) ∧ Own 5 w2 rs (ints .u8 (X.drop 8)) ∧ Upd none_ w1 w2 ∧ ∀ x, rs.blk = some x → x = w1.heap.size := fun w1 u => by
    obtain ⟨rs, w2, a1, l1, o1, u1, f1⟩ := apd_ok sliceB (Own.nil 5 w1) (hsrc w1 u) (by show (0 + (sealed.len - 8)) * 1 ≤ _; omega)
    rw [List.nil_append] at o1
    refine ⟨rs, w2, a1, o1, (u1.mono fun x _ e => (by cases e)), fun x hx => ?_⟩
    rcases f1 with e | e
    · rw [e] at hx; cases hx
    · rw [e] at hx; exact (Option.some.inj hx).symm
  have ud : Upd none_ w w.drew := (Upd.refl none_ w).drew
  have hzd : w.drew.heap.size = w.heap.size := rfl
  -- first the row, then the registers
  have first : (bnd (apd prog 22 22 (.slice none 0 0) (.slice (sla sealed.a 8 sealed.cap 1) (sealed.len - 8) (sealed.cap - 8)) w.drew) fun s_9 w_10 =>
      (prog.built 111 [(0, (.int .u64 ((numN (X.take 8) : Nat) : Int))), (1, (.slice s_9.a s_9.len s_9.cap))]).bind fun cs_11 =>
      bnd (newB z111 111 w_10) fun s_12 w_13 =>
      if (cs_11).size = 2 then ((stA s_12 cs_11 w_13).bind fun w_14 => k (s_12, ()) w_14) else none) = some r := by
    obtain ⟨rs, w1, a1, o1, u1, f1⟩ := alloc w.drew ud
    obtain ⟨w2, n2, b2, u2, z2⟩ := newB_ok z111 111 w1
    obtain ⟨w3, a3, b3, u3⟩ := store w1.heap.size rs w2 b2
    have hz1 := u1.size
    rw [a1, bnd_ok, built111', Option.bind_some, n2, bnd_ok, if_pos (show (#[Value.int .u64 ((numN (X.take 8) : Nat) : Int), Value.slice rs.a rs.len rs.cap] : Array Value).size = 2 from rfl), a3, Option.bind_some]
    refine hk _ rs w3 b3 ((o1.upd0 u2).upd u3 fun x hx e => ?_) (by omega) (fun x hx => ?_) ((ud.and0 u1).and0 (u2.trans' u3 fun x hx e => by omega))
    · have := o1.lt hx; omega
    · have := f1 x hx; have := o1.lt hx; omega
  have second : (bnd (newB z111 111 w.drew) fun s_15 w_16 =>
      bnd (apd prog 22 22 (.slice none 0 0) (.slice (sla sealed.a 8 sealed.cap 1) (sealed.len - 8) (sealed.cap - 8)) w_16) fun s_17 w_18 =>
      (prog.built 111 [(0, (.int .u64 ((numN (X.take 8) : Nat) : Int))), (1, (.slice s_17.a s_17.len s_17.cap))]).bind fun cs_19 =>
      if (cs_19).size = 2 then ((stA s_15 cs_19 w_18).bind fun w_20 => k (s_15, ()) w_20) else none) = some r := by
    obtain ⟨w1, n1, b1, u1, z1⟩ := newB_ok z111 111 w.drew
    obtain ⟨rs, w2, a2, o2, u2, f2⟩ := alloc w1 (ud.and0 u1)
    obtain ⟨w3, a3, b3, u3⟩ := store w.heap.size rs w2 (b1.upd0 u2)
    have n1 : newB z111 111 w.drew = some (⟨w.heap.size, 0, none⟩, w1) := n1
    have z1 : w1.heap.size = w.heap.size + 1 := z1
    rw [n1, bnd_ok, a2, bnd_ok, built111', Option.bind_some, if_pos (show (#[Value.int .u64 ((numN (X.take 8) : Nat) : Int), Value.slice rs.a rs.len rs.cap] : Array Value).size = 2 from rfl), a3, Option.bind_some]
    refine hk _ rs w3 b3 (o2.upd u3 fun x hx e => ?_) (Nat.le_refl _) (fun x hx => ?_) (((ud.and0 u1).and0 u2).trans' u3 fun x hx e => by omega)
    · have := f2 x hx; omega
    · have := f2 x hx; omega
  unfold rijndael_Unwrap_s2
  rw [if_pos ⟨by decide, by omega⟩, hnum w.drew ud, Option.bind_some]
  refine allB_two (allB_two first second) ?_
  obtain ⟨w1, n1, b1, u1, z1⟩ := newB_ok z111 111 w.drew
  have s2 := second
  rw [n1, bnd_ok] at s2
  rw [n1, bnd_ok, hnum w1 (ud.and0 u1), Option.bind_some]
  exact s2

theorem Unwrap_s0_ok {K : Nat} {plain : Sl} {n : Nat} (hl : plain.len = 8 * n + 8) (hn : 2 ≤ n) (hn2 : n ≤ 512) (w : World) : rijndael_Unwrap_s0 K plain 0 w = some (.norm (), w) := by
  have e8 : Int.tmod ((8 * n + 8 : Nat) : Int) 8 = 0 := by
    have : Int.tmod ((8 * n + 8 : Nat) : Int) 8 = (((8 * n + 8) % 8 : Nat) : Int) := tmod_nat (8 * n + 8) 8
    rw [this]; omega
  have e1 : rijndael_Unwrap_s1 K plain w = some ((false, ()), w) := by
    unfold rijndael_Unwrap_s1
    rw [hl, if_neg (fun e => by have := of_decide_eq_true e; omega), e8]; rfl
  unfold rijndael_Unwrap_s0
  rw [if_neg (show ¬ ((0 : Int) != 0) = true by decide), e1, bnd_ok, if_neg (show ¬ false = true by decide), hl, if_neg (fun e => by have := of_decide_eq_true e; omega)]

/-- what the bytes are unwrapped to -/
def unR (S : List W4) (n : Nat) (X : List Int) : Nat × List Int := uRun S n (6 * n) (numN (X.take 8), X.drop 8)

theorem Unwrap_ok {β : Type} {r : β} {K : Nat} (hK : 18446744073709551616 ≤ K) {w : World} {g t gw gb kl : Nat} {S : List W4} (ka : KeyAt w g t gw gb kl S) {sealed : Sl} {X : List Int} (hX : ∀ z ∈ X, InK .u8 z) (rd : RdS .u8 w sealed X) {n : Nat} (hl : X.length = 8 * n + 8) (hn : 2 ≤ n) (hn2 : n ≤ 512) {k : (Sl × Int × Unit) → World → Option β}
    (hbad : (unR S n X).1 ≠ 12008468691120727718 → ∀ w', Upd none_ w w' → k (⟨none, 0, 0⟩, 22, ()) w' = some r)
    (hgood : (unR S n X).1 = 12008468691120727718 → ∀ s w', Own 5 w' s (ints .u8 (unR S n X).2) → Fresh w.heap.size s → Upd none_ w w' → k (s, 0, ()) w' = some r) :
    rijndael_Unwrap K (some ⟨g, 0, none⟩) sealed w k = some r := by
  have hlen := rd.len
  rw [hl] at hlen
  have k1 := ka.b.lt
  have k2 := ka.bt.lt
  have k3 := ka.bw.lt
  have k4 := ka.bb.lt
  unfold rijndael_Unwrap
  rw [schedT ka, bnd_ok, Unwrap_s0_ok hlen hn hn2, bnd_ok]
  dsimp only
  refine unwrap_s2 (by omega) hX rd (by omega) (by omega) fun s8 rs w1 b1 o1 h1 h2 u1 => ?_
  have hd8 : (X.drop 8).length = 8 * n := by rw [List.length_drop]; omega
  have hs : Sound n (numN (X.take 8), X.drop 8) := ⟨numN8 (fun z hz => hX z (List.mem_of_mem_take hz)) (by rw [List.length_take]; omega), hd8, fun z hz => hX z (List.mem_of_mem_drop hz)⟩
  have hrl := o1.len
  rw [ints_length, hd8] at hrl
  obtain ⟨w2, a2, b2, o2, u2⟩ := unwrap_loop (K := K) (by omega) (n := n) (by omega) hn2 (s8 := s8) (rs := rs) (fun x hx => by have := h2 x hx; omega) (6 * n) K (((6 * n : Nat) : Int) - 1) w1 (numN (X.take 8), X.drop 8) rfl (by omega) (by omega) hs (ka.upd0 u1) b1 o1
  have q2 : Upd none_ w w2 := u1.trans' u2 fun x hx e => by
    rcases e with e | e
    · omega
    · have := h2 x e; omega
  have e1 : IntKind.i64.wrap (Int.tdiv ((rs.len : Nat) : Int) 8) = (n : Int) := by
    have : Int.tdiv ((rs.len : Nat) : Int) 8 = ((rs.len / 8 : Nat) : Int) := tdiv_nat rs.len 8
    rw [this, i64n (by omega)]; omega
  have e2 : IntKind.i64.wrap (IntKind.i64.wrap (6 * (n : Int)) - 1) = ((6 * n : Nat) : Int) - 1 := by
    have : IntKind.i64.wrap (6 * (n : Int)) = ((6 * n : Nat) : Int) := by rw [w64 (by omega) (by omega)]; omega
    rw [this, w64 (by omega) (by omega)]
  rw [rg_r b1, Option.bind_some, e1, e2, a2, bnd_ok, rg_a b2, Option.bind_some]
  by_cases c : (unR S n X).1 = 12008468691120727718
  · have c' : (uRun S n (6 * n) (numN (X.take 8), X.drop 8)).1 = 12008468691120727718 := c
    rw [if_neg (by rw [c']; decide), rg_r b2, Option.bind_some]
    exact hgood c rs w2 o2 (fun x hx => (h2 x hx).1) q2
  · have c' : (uRun S n (6 * n) (numN (X.take 8), X.drop 8)).1 ≠ 12008468691120727718 := c
    rw [if_pos (bne_iff_ne.2 (by omega))]
    exact hbad c w2 q2

/-- what was wrapped is unwrapped -/
theorem unR_wrap {S : List W4} (hS : ∀ x ∈ S, x.ok) {m : Nat} (hm : S.length = 4 * (m + 1)) (h1 : 1 ≤ m) {D : List Int} (hD : ∀ z ∈ D, InK .u8 z) {n : Nat} (hn : 0 < n) (hn2 : n ≤ 1000) (hl : D.length = 8 * n) : unR S n (wrapL S D) = (12008468691120727718, D) := by
  obtain ⟨a1, a2, a3⟩ := wRun_ok hS hD hn hl (6 * n) (by omega)
  have hn8 : D.length / 8 = n := by omega
  unfold unR wrapL
  rw [hn8]
  have e1 : (layB 8 (wRun S D (6 * n)).1 ++ (wRun S D (6 * n)).2).take 8 = layB 8 (wRun S D (6 * n)).1 := by rw [List.take_append_of_le_length (by rw [layB_len]; decide), List.take_of_length_le (by rw [layB_len]; decide)]
  have e2 : (layB 8 (wRun S D (6 * n)).1 ++ (wRun S D (6 * n)).2).drop 8 = (wRun S D (6 * n)).2 := by rw [List.drop_append_of_le_length (by rw [layB_len]; decide), List.drop_eq_nil_of_le (by rw [layB_len]; decide), List.nil_append]
  rw [e1, e2, numN_lay8 a1]
  exact uRun_wRun hS hm h1 hD hn hl (6 * n) (by omega)
theorem wrapL_len {S : List W4} (hS : ∀ x ∈ S, x.ok) {D : List Int} (hD : ∀ z ∈ D, InK .u8 z) {n : Nat} (hn : 0 < n) (hn2 : n ≤ 1000) (hl : D.length = 8 * n) : (wrapL S D).length = 8 * n + 8 := by
  obtain ⟨a1, a2, a3⟩ := wRun_ok hS hD hn hl (6 * n) (by omega)
  have hn8 : D.length / 8 = n := by omega
  unfold wrapL
  rw [hn8, List.length_append, layB_len, a2]; omega
theorem wrapL_in {S : List W4} (hS : ∀ x ∈ S, x.ok) {D : List Int} (hD : ∀ z ∈ D, InK .u8 z) {n : Nat} (hn : 0 < n) (hn2 : n ≤ 1000) (hl : D.length = 8 * n) : ∀ z ∈ wrapL S D, InK .u8 z := fun z hz => by
  obtain ⟨a1, a2, a3⟩ := wRun_ok hS hD hn hl (6 * n) (by omega)
  have hn8 : D.length / 8 = n := by omega
  unfold wrapL at hz
  rw [hn8] at hz
  rcases List.mem_append.1 hz with h | h
  · exact layB_in _ _ z h
  · exact a3 z h

end Go.Sh

/- Package rijndael: bytes of a stream are left out; a stream in pieces. -/
set_option linter.unusedVariables false
set_option maxRecDepth 100000
namespace Go.Sh
open Go.Fw Go.Gf Go.RowKit Go.Proofs.Tryd

theorem schedF {w : World} {g t gw gb kl : Nat} {S : List W4} (k : KeyAt w g t gw gb kl S) : rijndael_Key_schedule (some ⟨g, 0, none⟩) false w = some ((⟨some ⟨gw, 0, none⟩, S.length, S.length⟩, 0, ()), w) := sched_ok k false

theorem At_ok {w : World} {s : Nat} {k0 : Option Addr} {B : List Int} {a : Nat} (hB : B16 B) (b : Bk 107 w s (streamC k0 B a)) : rijndael_Stream_At (some ⟨s, 0, none⟩) w = some ((a : Int), ()) := by
  unfold rijndael_Stream_At
  rw [if_neg (show ¬ (some (⟨s, 0, none⟩ : Addr)).isNone = true from Bool.noConfusion), Option.bind_some, st_at b hB, Option.bind_some]
theorem At_nil (w : World) : rijndael_Stream_At none w = some (0, ()) := rfl

theorem Skip_ok {k0 : Option Addr} {w : World} {ws : Sl} (hs : rijndael_Key_schedule k0 false w = some ((ws, 0, ()), w)) {s : Nat} {B : List Int} (h : B16 B) {a : Nat} (b : Bk 107 w s (streamC k0 B a)) (ha : a ≤ 1099511627776) {n : Nat} (hn : n ≤ 1099511627776 - a) :
    ∃ w', rijndael_Stream_Skip (some ⟨s, 0, none⟩) (n : Int) w = some ((0, ()), w') ∧ Bk 107 w' s (streamC k0 B (a + n)) ∧ Upd (· = s) w w' := by
  have ef := further_ok hs h b ha (n := n)
  rw [if_pos hn, if_pos hn] at ef
  obtain ⟨w1, c1, c2, c3⟩ := st_set b h (a + n)
  refine ⟨w1, ?_, c2, c3⟩
  have e2 : IntKind.u64.wrap (((a : Nat) : Int) + (n : Int)) = ((a + n : Nat) : Int) := by rw [IntKind.wrap_u64]; omega
  unfold rijndael_Stream_Skip
  rw [ef, bnd_ok, if_neg (show ¬ ((0 : Int) != 0) = true by decide), Option.bind_some, st_at b h, Option.bind_some, Option.bind_some, e2, c1, Option.bind_some]
theorem Skip_err {s0 : Option Addr} {n : Int} {w : World} {ws : Sl} {e : Int} (he : e ≠ 0) (hf : rijndael_Stream_further s0 n w = some ((ws, e, ()), w)) : rijndael_Stream_Skip s0 n w = some ((e, ()), w) := by
  unfold rijndael_Stream_Skip
  rw [hf, bnd_ok, if_pos (bne_iff_ne.2 he)]

theorem xorL_piece (S : List W4) (B : List Int) {n from_ size : Nat} (h : from_ + n ≤ size) : ((xorL S B 0 (List.replicate size 0)).take (from_ + n)).drop from_ = xorL S B from_ (List.replicate n 0) := by
  apply List.ext_getElem?
  intro j
  unfold xorL
  rw [List.length_replicate, List.length_replicate, List.getElem?_drop, List.getElem?_take]
  by_cases hj : j < n
  · rw [if_pos (by omega), List.getElem?_map, List.getElem?_map, List.getElem?_range (by omega), List.getElem?_range hj]
    show some _ = some _
    have e0 : ∀ m i, (List.replicate m (0 : Int)).getD i 0 = 0 := fun m i => by
      rw [List.getD_eq_getElem?_getD, List.getElem?_replicate]; split <;> rfl
    unfold xorI
    rw [e0, e0, Nat.zero_add]
  · rw [if_neg (by omega), List.getElem?_eq_none (by simp; omega)]

theorem zeros_in (n : Nat) : ∀ z ∈ List.replicate n (0 : Int), InK .u8 z := fun z hz => by rw [List.eq_of_mem_replicate hz]; exact ⟨by decide, by decide⟩

end Go.Sh

/- The document's examples: counted bytes, blocks of them, a key that does and undoes. -/
set_option linter.unusedVariables false
set_option maxRecDepth 100000
namespace Go.Sh
open Go.Fw Go.Gf Go.RowKit Go.Proofs.Tryd

def cntL (n step : Nat) : List Int := (List.range n).map fun i => ((i * step % 256 : Nat) : Int)
theorem cntL_len (n step : Nat) : (cntL n step).length = n := by simp [cntL]
theorem cntL_succ (n step : Nat) : cntL (n + 1) step = cntL n step ++ [((n * step % 256 : Nat) : Int)] := by simp [cntL, List.range_succ]
theorem cntL_in (n step : Nat) : ∀ z ∈ cntL n step, InK .u8 z := fun z hz => by
  obtain ⟨i, _, rfl⟩ := List.mem_map.1 hz
  exact InK.of_nat (k := .u8) (Nat.mod_lt _ (by decide))

theorem counted_loop (K B : Nat) {n step : Nat} (hn : n ≤ 1000) (hst : step ≤ 1000) :
    ∀ (d i f : Nat) (w : World) (s : Sl), i + d = n → d < f → Own 5 w s (ints .u8 (cntL i step)) → B ≤ w.heap.size → Fresh B s →
      ∃ s' w', law02_counted_l0 K f (n : Int) (step : Int) s (i : Int) w = some ((s', ()), w') ∧ Own 5 w' s' (ints .u8 (cntL n step)) ∧ Below B w w' ∧ Fresh B s' := by
  intro d
  induction d with
  | zero =>
    intro i f w s hi hf ho hB hfr
    obtain ⟨f, rfl⟩ : ∃ m, f = m + 1 := ⟨f - 1, by omega⟩
    obtain rfl : i = n := by omega
    refine ⟨s, w, ?_, ho, Below.refl B w, hfr⟩
    have eu : law02_counted_l0 K (f + 1) = law02_counted_l0_b K (law02_counted_l0 K f) := rfl
    rw [eu]
    unfold law02_counted_l0_b
    rw [if_neg (fun e => by have := of_decide_eq_true e; omega)]
  | succ d ih =>
    intro i f w s hi hf ho hB hfr
    obtain ⟨f, rfl⟩ : ∃ m, f = m + 1 := ⟨f - 1, by omega⟩
    have hin : i < n := by omega
    have hm : i * step ≤ 1000 * 1000 := Nat.mul_le_mul (by omega) hst
    have hsl := ho.len
    rw [ints_length, cntL_len] at hsl
    obtain ⟨w1, h1, ho1, u1, hz1⟩ := bldS1_ok sliceB (.int .u8 ((i * step % 256 : Nat) : Int)) rfl w
    obtain ⟨s2, w2, h2, l2, ho2, u2, b2⟩ := apd_ok sliceB (ho.upd0 u1) (ho1.src (by simp [Value.oneCell'])) (by show (s.len + 1) * 1 ≤ _; omega)
    have bl1 : Below B w w1 := u1.below hB fun _ _ => id
    have bl2 : Below B w w2 := below_upd bl1 u2 (by omega) fun k hk e => by have := hfr k e; omega
    have hf2 : Fresh B s2 := by
      intro k hk
      rcases b2 with e | e
      · exact hfr k (e ▸ hk)
      · rw [e] at hk; have := Option.some.inj hk; omega
    have ho2 : Own 5 w2 s2 (ints .u8 (cntL (i + 1) step)) := by
      rw [cntL_succ, ints_append]; exact ho2
    obtain ⟨s3, w3, h3, ho3, bl3, hf3⟩ := ih (i + 1) f w2 s2 (by omega) (by omega) ho2 (by have := bl2.size; omega) hf2
    refine ⟨s3, w3, ?_, ho3, bl2.trans bl3, hf3⟩
    have e1 : IntKind.i64.wrap ((i : Int) + 1) = ((i + 1 : Nat) : Int) := by rw [w64 (by omega) (by omega)]; rfl
    have e2 : IntKind.u8.wrap (IntKind.i64.wrap ((i : Int) * (step : Int))) = ((i * step % 256 : Nat) : Int) := by
      have : (i : Int) * (step : Int) = ((i * step : Nat) : Int) := by rw [Int.natCast_mul]
      rw [this, w64 (by omega) (by omega), IntKind.wrap_u8]; omega
    have eu : law02_counted_l0 K (f + 1) = law02_counted_l0_b K (law02_counted_l0 K f) := rfl
    rw [eu]
    unfold law02_counted_l0_b
    rw [if_pos (decide_eq_true (by omega)), e2, h1, bnd_ok, h2, bnd_ok, e1, h3]

theorem counted_ok {K : Nat} (hK : 2000 ≤ K) {n step : Nat} (hn : n ≤ 1000) (hst : step ≤ 1000) (w : World) :
    ∃ s w', law02_counted K (n : Int) (step : Int) w = some ((s, ()), w') ∧ Own 5 w' s (ints .u8 (cntL n step)) ∧ Fresh w.heap.size s ∧ Upd none_ w w' := by
  obtain ⟨s, w', h1, h2, h3, h4⟩ := counted_loop K w.heap.size hn hst n 0 K w ⟨none, 0, 0⟩ (by omega) (by omega) (Own.nil 5 w) (Nat.le_refl _) (fun k hk => by cases hk)
  refine ⟨s, w', ?_, h2, h4, Upd.of_below h3⟩
  have h1 : law02_counted_l0 K K (n : Int) (step : Int) ⟨none, 0, 0⟩ 0 w = _ := h1
  unfold law02_counted
  rw [h1, bnd_ok]

/-- the first i bytes of L, noughts behind -/
theorem setTake {L : List Int} {i : Nat} (hi : i < L.length) (hi16 : i < 16) : (ints .u8 (L.take i ++ List.replicate (16 - i) 0)).set i (.int .u8 L[i]) = ints .u8 (L.take (i + 1) ++ List.replicate (16 - (i + 1)) 0) := by
  have e : List.replicate (16 - i) (0 : Int) = 0 :: List.replicate (16 - (i + 1)) 0 := by rw [show 16 - i = (16 - (i + 1)) + 1 by omega]; rfl
  have ht : (L.take i).length = i := by rw [List.length_take]; omega
  rw [ints_set_, e, List.set_append_right _ _ (by omega), ht, Nat.sub_self, List.set_cons_zero, List.take_add_one, List.getElem?_eq_getElem hi, List.append_assoc]
  rfl

theorem blockOf_loop (K : Nat) {l : Sl} {L : List Int} (hl : L.length = 16) {gb : Nat} (hlb : ∀ p, l.a = some p → p.block ≠ gb) {a2 : Addr} :
    ∀ (d i f : Nat) (w : World), d + i = 16 → d < f → RdS .u8 w l L → Bk 42 w gb (ints .u8 (L.take i ++ List.replicate (16 - i) 0)) →
      ∃ w', law02_blockOf_l0 K f l a2 ⟨gb, 0, none⟩ (i : Int) w = some ((), w') ∧ Bk 42 w' gb (ints .u8 L) ∧ Upd (· = gb) w w' := by
  intro d
  induction d with
  | zero =>
    intro i f w hd hf r b
    obtain ⟨f, rfl⟩ : ∃ m, f = m + 1 := ⟨f - 1, by omega⟩
    obtain rfl : i = 16 := by omega
    rw [List.take_of_length_le (by omega), Nat.sub_self, List.replicate_zero, List.append_nil] at b
    refine ⟨w, ?_, b, Upd.refl _ w⟩
    have eu : law02_blockOf_l0 K (f + 1) = law02_blockOf_l0_b K (law02_blockOf_l0 K f) := rfl
    rw [eu]
    unfold law02_blockOf_l0_b law02_blockOf_s1
    rw [if_neg (by decide), bnd_ok, if_neg (by decide)]
  | succ d ih =>
    intro i f w hd hf r b
    obtain ⟨f, rfl⟩ : ∃ m, f = m + 1 := ⟨f - 1, by omega⟩
    have hi : i < 16 := by omega
    have hlen := r.len
    obtain ⟨p, hp, hld⟩ := r.ld
    have hpa := hp (by intro e; rw [e] at hl; cases hl)
    have l1 := hld i (by omega)
    obtain ⟨w1, c1, c2, c3⟩ := b.stC (i := i) (by rw [ints_length, List.length_append, List.length_take, List.length_replicate]; omega) (.int .u8 (L[i]'(by omega)))
    rw [setTake (by omega) hi] at c2
    obtain ⟨w2, g1, g2, g3⟩ := ih (i + 1) f w1 (by omega) (by omega) (r.upd c3 hlb) c2
    refine ⟨w2, ?_, g2, c3.trans' g3 fun _ _ e => e⟩
    have e1 : IntKind.i64.wrap ((i : Int) + 1) = ((i + 1 : Nat) : Int) := by rw [w64 (by omega) (by omega)]; rfl
    have c1' : stC ((⟨gb, 0, none⟩ : Addr).add (i * 1)) (.int .u8 (L[i]'(by omega))) w = some w1 := by rw [add_lit, Nat.mul_one, Nat.zero_add]; exact c1
    have l1' : ldI .u8 (p.add (i * 1)) w = some (L[i]'(by omega)) := by rw [Nat.mul_one]; exact l1
    have eu : law02_blockOf_l0 K (f + 1) = law02_blockOf_l0_b K (law02_blockOf_l0 K f) := rfl
    rw [eu]
    unfold law02_blockOf_l0_b law02_blockOf_s1
    rw [if_pos (decide_eq_true (by omega)), bnd_ok, if_pos (decide_eq_true (by omega)), hpa, Option.bind_some, if_pos (nat_in (show i < l.len by omega)), Int.toNat_natCast, l1', Option.bind_some, if_pos (nat_in hi), c1', Option.bind_some, e1, g1]

theorem blockOf_ok {K : Nat} (hK : 300 ≤ K) {l : Sl} {L : List Int} (h : B16 L) {w : World} (r : RdS .u8 w l L) :
    ∃ w', law02_blockOf K l w = some (((ints .u8 L).toArray, ()), w') ∧ Upd none_ w w' := by
  obtain ⟨w1, n1, b1, u1, z1⟩ := newB_ok z42 42 w
  obtain ⟨w2, n2, b2, u2, z2⟩ := newB_ok z42 42 w1
  have b2 : Bk 42 w2 w1.heap.size (ints .u8 (L.take 0 ++ List.replicate (16 - 0) 0)) := b2
  have hlt : ∀ p, l.a = some p → p.block < w.heap.size := fun p hp => by
    rcases r.rd with e | ⟨q, e, hr⟩
    · have := h.1; rw [e] at this; cases this
    · rw [e] at hp; cases hp
      exact hr.lt (fun e => by have := congrArg List.length e; rw [ints_length, h.1] at this; cases this)
  obtain ⟨w3, a3, b3, u3⟩ := blockOf_loop K h.1 (gb := w1.heap.size) (fun p hp => by have := hlt p hp; omega) (a2 := ⟨w.heap.size, 0, none⟩) 16 0 K w2 rfl (by omega) ((r.upd0 u1).upd0 u2) b2
  have a3 : law02_blockOf_l0 K K l ⟨w.heap.size, 0, none⟩ ⟨w1.heap.size, 0, none⟩ 0 w2 = _ := a3
  obtain ⟨w4, a4, b4, u4⟩ := stA16 ((b1.upd0 u2).upd u3 (by omega)) z42_len h
  refine ⟨w4, ?_, ((u1.and0 u2).trans' u3 fun k hk e => by omega).trans' u4 fun k hk e => by omega⟩
  unfold law02_blockOf
  rw [n1, bnd_ok, n2, bnd_ok, a3, bnd_ok, ldA16 b3 h, Option.bind_some, if_pos (size16 h), a4, Option.bind_some, ldA16 b4 h, Option.bind_some]

theorem num_re (e : Int) : law02_num e = some (e, ()) := rfl

theorem does_ok {K : Nat} (hK : 300 ≤ K) {key : Sl} {ks : List Int} {w : World} (rc : Rc w) (hks : ∀ z ∈ ks, InK .u8 z) (r : RdS .u8 w key ks) (hb : ∀ p, key.a = some p → p.block < w.heap.size) (hl : ks.length = 16 ∨ ks.length = 24 ∨ ks.length = 32)
    {A C : List Int} (hA : B16 A) (hC : B16 C) (h1 : encB (schedS ks) A = C) (h2 : decB (schedS ks) C = A) :
    ∃ w', law02_does K key (ints .u8 A).toArray (ints .u8 C).toArray w = some ((true, ()), w') ∧ Upd none_ w w' := by
  obtain ⟨w1, n1, b1, u1, z1⟩ := newB_ok (ints .u8 A).toArray 42 w
  obtain ⟨w2, n2, b2, u2, z2⟩ := newB_ok (ints .u8 C).toArray 42 w1
  have q2 := u1.and0 u2
  have b1 : Bk 42 w1 w.heap.size (ints .u8 A) := b1
  have b2 : Bk 42 w2 w1.heap.size (ints .u8 C) := b2
  obtain ⟨g, t, gw, gb, w3, a3, k3, hg, ht, hgw, hgb, u3⟩ := New_ok hK (Rd.upd rc q2 fun _ => id) hks (r.upd0 q2) (fun p hp => by have := hb p hp; omega) hl
  obtain ⟨w4, a4, u4⟩ := Encrypt_ok hK k3 hA
  rw [h1] at a4
  obtain ⟨w5, n5, b5, u5, z5⟩ := newB_ok z42 42 w4
  obtain ⟨w6, a6, b6, u6⟩ := stA16 b5 z42_len hC
  have u46 : Upd none_ w4 w6 := u5.trans' u6 fun k hk e => by omega
  obtain ⟨w7, a7, u7⟩ := Decrypt_ok hK ((k3.upd0 u4).upd0 u46) hC
  rw [h2] at a7
  obtain ⟨w8, n8, b8, u8, z8⟩ := newB_ok z42 42 w7
  obtain ⟨w9, a9, b9, u9⟩ := stA16 b8 z42_len hA
  have hz6 := u6.size
  have hz7 := u7.size
  have u79 : Upd none_ w7 w9 := u8.trans' u9 fun k hk e => by omega
  have b6' := (b6.upd0 u7).upd0 u79
  have q9 := ((u3.and0 u4).and0 u46).and0 (u7.and0 u79)
  have b1' := (b1.upd0 u2).upd0 q9
  have b2' := b2.upd0 q9
  have b1'' := (b1.upd0 u2).upd0 u3
  refine ⟨w9, ?_, q2.and0 q9⟩
  have s0 : law02_does_s0 K (some ⟨g, 0, none⟩) 0 w3 = some ((false, ()), w3) := rfl
  unfold law02_does
  rw [n1, bnd_ok, n2, bnd_ok, a3, bnd_ok, s0, bnd_ok, if_neg (show ¬ false = true by decide), ldA16 b1'' hA, Option.bind_some, a4, bnd_ok, n5, bnd_ok, if_pos (size16 hC), a6, Option.bind_some, ldA16 b6 hC, Option.bind_some, a7, bnd_ok, n8, bnd_ok, if_pos (size16 hA), a9, Option.bind_some, num_re, Option.bind_some, if_pos (show ((0 : Int) == 0) = true from rfl), Option.bind_some, if_pos (show ((0 : Int) == 0) = true from rfl),
    ldA16 b6' hC, Option.bind_some, ldA16 b2' hC, Option.bind_some, eq42 hC.1 hC.1, Option.bind_some, decide_eq_true rfl, if_pos rfl, ldA16 b9 hA, Option.bind_some, ldA16 b1' hA, Option.bind_some, eq42 hA.1 hA.1, Option.bind_some, decide_eq_true rfl]

end Go.Sh

/- The published examples: what the cipher answers, by the kernel. -/
set_option linter.unusedVariables false
set_option maxRecDepth 100000
namespace Go.Sh
open Go.Fw Go.Gf Go.RowKit Go.Proofs.Tryd

def vC1 : List Int := [105, 196, 224, 216, 106, 123, 4, 48, 216, 205, 183, 128, 112, 180, 197, 90]
def vC2 : List Int := [221, 169, 124, 164, 134, 76, 223, 224, 110, 175, 112, 160, 236, 13, 113, 145]
def vC3 : List Int := [142, 162, 183, 202, 81, 103, 69, 191, 234, 252, 73, 144, 75, 73, 96, 137]
theorem vE1 : encB (schedS (cntL 16 1)) (cntL 16 17) = vC1 := by decide +kernel
theorem vE2 : encB (schedS (cntL 24 1)) (cntL 16 17) = vC2 := by decide +kernel
theorem vE3 : encB (schedS (cntL 32 1)) (cntL 16 17) = vC3 := by decide +kernel
theorem vD1 : decB (schedS (cntL 16 1)) vC1 = cntL 16 17 := by decide +kernel
theorem vD2 : decB (schedS (cntL 24 1)) vC2 = cntL 16 17 := by decide +kernel
theorem vD3 : decB (schedS (cntL 32 1)) vC3 = cntL 16 17 := by decide +kernel
def vK : List Int := [43, 126, 21, 22, 40, 174, 210, 166, 171, 247, 21, 136, 9, 207, 79, 60]
theorem vW4 : (wN (schedS vK)).getD 4 0 = 2700803607 := by decide +kernel
theorem vW43 : (wN (schedS vK)).getD 43 0 = 3059944614 := by decide +kernel
def vS : List Int := (List.range 16).map fun i => ((240 + i : Nat) : Int)
def vI : List Int := [107, 193, 190, 226, 46, 64, 159, 150, 233, 61, 126, 17, 115, 147, 23, 42]
def vO : List Int := [135, 77, 97, 145, 182, 32, 227, 38, 27, 239, 104, 100, 153, 13, 182, 206]
theorem vX : xorL (schedS vK) vS 0 vI = vO := by decide +kernel
def vP : List Int := cntL 16 17 ++ cntL 16 1
def vU1 : List Int := [31, 166, 139, 10, 129, 18, 180, 71, 174, 243, 75, 216, 251, 90, 123, 130, 157, 62, 134, 35, 113, 210, 207, 229]
def vU2 : List Int := [40, 201, 244, 4, 196, 184, 16, 244, 203, 204, 179, 92, 251, 135, 248, 38, 63, 87, 134, 226, 216, 14, 211, 38, 203, 199, 240, 231, 26, 153, 244, 59, 251, 152, 139, 155, 122, 2, 221, 33]
theorem vU2_ok : wrapL (schedS (cntL 32 1)) vP = vU2 := by decide +kernel
theorem vU1_ok : wrapL (schedS (cntL 16 1)) (cntL 16 17) = vU1 := by decide +kernel
end Go.Sh

/- Texts of this claim, put together: AesL, AesM, AesN, AesP, BookB, AesQ, AesT, AesO, AesR, VecR, VecS, Piece, OpenB, OpenR -/
import Derived.Test.YtfilmbfijaeclaaDoorAllLawbamcfk
import Derived.ChangeKeysEq
import Derived.Laws.StructEq
import Derived.Test.YtfilmbfijaeclaaDoorRows
import Derived.Lib.LaidTab
import Derived.Deep.Matrix
import Derived.SizedLaws
import Derived.Handed
import Derived.OpenShut
/- Package rijndael: a block as words, and back. -/
set_option linter.unusedVariables false
set_option maxRecDepth 100000
namespace Go.Sh
open Go.Fw Go.Gf Go.RowKit Go.Proofs.Tryd

/-- words as cells -/
def wv (L : List W4) : List Value := L.map fun x => Value.int .u32 ((x.n : Nat) : Int)
theorem wv_len (L : List W4) : (wv L).length = L.length := by simp [wv]
theorem wv_get {L : List W4} {i : Nat} (h : i < L.length) : (wv L)[i]? = some (.int .u32 (((L.getD i z4).n : Nat) : Int)) := by
  unfold wv; rw [List.getElem?_map, List.getD_eq_getElem?_getD, List.getElem?_eq_getElem h]; rfl
theorem wv_one (L : List W4) : ∀ v ∈ wv L, v.oneCell' = true := fun v hv => by
  obtain ⟨x, _, rfl⟩ := List.mem_map.1 hv; rfl
/-- four words, the first i of them by f, the others by g -/
def upL (f g : Nat → W4) (i : Nat) : List W4 := (List.range 4).map fun c => if c < i then f c else g c
theorem upL_len (f g : Nat → W4) (i : Nat) : (upL f g i).length = 4 := by simp [upL]
theorem upL_get (f g : Nat → W4) (i : Nat) {c : Nat} (hc : c < 4) : (upL f g i).getD c z4 = if c < i then f c else g c := by
  unfold upL; rw [List.getD_eq_getElem?_getD, List.getElem?_map, List.getElem?_range hc]; rfl
theorem upL_set {f g : Nat → W4} {i : Nat} (hi : i < 4) : (wv (upL f g i)).set i (.int .u32 (((f i).n : Nat) : Int)) = wv (upL f g (i + 1)) := by
  unfold wv upL
  rw [List.map_map, List.map_map, range_set]
  refine map_range_ext fun j hj => ?_
  show (if j = i then _ else Value.int .u32 (((if j < i then f j else g j).n : Nat) : Int)) = Value.int .u32 (((if j < i + 1 then f j else g j).n : Nat) : Int)
  by_cases e : j = i
  · rw [if_pos e, if_pos (show j < i + 1 by omega), e]
  · rw [if_neg e]
    by_cases c : j < i
    · rw [if_pos c, if_pos (show j < i + 1 by omega)]
    · rw [if_neg c, if_neg (show ¬ j < i + 1 by omega)]
def fourL (f : Nat → W4) : List W4 := (List.range 4).map f
theorem fourL_len (f : Nat → W4) : (fourL f).length = 4 := by simp [fourL]
theorem fourL_get (f : Nat → W4) {c : Nat} (hc : c < 4) : (fourL f).getD c z4 = f c := by
  unfold fourL; rw [List.getD_eq_getElem?_getD, List.getElem?_map, List.getElem?_range hc]; rfl
theorem upL_four (f g : Nat → W4) : upL f g 4 = fourL f := by
  unfold upL fourL
  refine List.map_congr_left fun j hj => ?_
  rw [if_pos (List.mem_range.1 hj)]
theorem upL_zero (f g : Nat → W4) : upL f g 0 = fourL g := by
  unfold upL fourL
  refine List.map_congr_left fun j hj => ?_
  rw [if_neg (by omega)]
theorem fourL_self {L : List W4} (h : L.length = 4) : fourL (fun c => L.getD c z4) = L := by
  apply List.ext_getElem?
  intro j
  unfold fourL
  rw [List.getElem?_map]
  by_cases hj : j < 4
  · rw [List.getElem?_range hj, List.getElem?_eq_getElem (by omega)]
    show some (L.getD j z4) = _
    rw [List.getD_eq_getElem?_getD, List.getElem?_eq_getElem (by omega)]; rfl
  · rw [List.getElem?_eq_none (by simp; omega), List.getElem?_eq_none (by omega)]; rfl
theorem fourL_ok {f : Nat → W4} (h : ∀ c, c < 4 → (f c).ok) : ∀ x ∈ fourL f, x.ok := fun x hx => by
  obtain ⟨c, hc, rfl⟩ := List.mem_map.1 hx
  exact h c (List.mem_range.1 hc)
theorem z135_four : z135.toList = wv (fourL fun _ => z4) := rfl

/-! ### bytes -/
def bl (st : List W4) : List Value := ints .u8 (roundB st)
theorem bl_len {st : List W4} (h : st.length = 4) : (bl st).length = 16 := by unfold bl; rw [ints_length, roundB_len, h]
theorem roundB_in {st : List W4} (h : ∀ x ∈ st, x.ok) : ∀ z ∈ roundB st, InK .u8 z := fun z hz => by
  obtain ⟨x, hx, hz⟩ := List.mem_flatMap.1 hz
  exact w4I_ok (h x hx) z hz
theorem kw_round {st : List W4} {i : Nat} (hi : i < st.length) : kw (roundB st) i = st.getD i z4 := by
  have g : ∀ j, j < 4 → kb (roundB st) (4 * i + j) = byteW (st.getD i z4) j := fun j hj => by
    unfold kb
    rw [List.getD_eq_getElem?_getD, roundB_get st i j hi hj]; rfl
  have g0 : kb (roundB st) (4 * i) = (st.getD i z4).a := g 0 (by decide)
  have g1 : kb (roundB st) (4 * i + 1) = (st.getD i z4).b := g 1 (by decide)
  have g2 : kb (roundB st) (4 * i + 2) = (st.getD i z4).c := g 2 (by decide)
  have g3 : kb (roundB st) (4 * i + 3) = (st.getD i z4).d := g 3 (by decide)
  unfold kw
  rw [g0, g1, g2, g3]

theorem sla_some {p : Addr} {l m : Nat} (h : m ≠ l) : sla (some p) l m 1 = some (p.add (l * 1)) := by unfold sla; rw [if_neg h]; rfl

theorem load_loop {K : Nat} (hK : 300 ≤ K) {st : List W4} (hs : ∀ x ∈ st, x.ok) (hl : st.length = 4) {gb gs : Nat} (hne : gb ≠ gs) {a2 : Addr} :
    ∀ (d i f : Nat) (w : World), d + i = 4 → d < f → Bk 42 w gb (bl st) → Bk 135 w gs (wv (upL (fun c => st.getD c z4) (fun _ => z4) i)) →
      ∃ w', rijndael_load_l0 K f ⟨gb, 0, none⟩ a2 ⟨gs, 0, none⟩ (i : Int) w = some ((), w') ∧ Bk 135 w' gs (wv st) ∧ Upd (· = gs) w w' := by
  intro d
  induction d with
  | zero =>
    intro i f w hd hf b s
    obtain ⟨f, rfl⟩ : ∃ m, f = m + 1 := ⟨f - 1, by omega⟩
    obtain rfl : i = 4 := by omega
    rw [upL_four, fourL_self hl] at s
    refine ⟨w, ?_, s, Upd.refl _ w⟩
    have eu : rijndael_load_l0 K (f + 1) = rijndael_load_l0_b K (rijndael_load_l0 K f) := rfl
    rw [eu]
    unfold rijndael_load_l0_b
    rw [if_neg (by decide)]
  | succ d ih =>
    intro i f w hd hf b s
    obtain ⟨f, rfl⟩ : ∃ m, f = m + 1 := ⟨f - 1, by omega⟩
    have hi : i < 4 := by omega
    have hrl : (roundB st).length = 16 := by rw [roundB_len, hl]
    have r : RdS .u8 w ⟨some ⟨gb, 0, none⟩, 16, 16⟩ (roundB st) := ⟨hrl.symm, Nat.le_refl _, .inr ⟨_, rfl, b.rd 0 _ fun i v hv => by rw [Nat.zero_add]; exact hv⟩⟩
    have r2 := RdS.sub r (lo := 4 * i) (hi := 16) (by omega) (by omega)
    rw [List.take_of_length_le (by omega)] at r2
    have hnum := number_ok hK r2 (fun z hz => roundB_in hs z (List.mem_of_mem_drop hz)) (n := 4) (by rw [List.length_drop]; omega) (by decide)
    rw [num4 (roundB_in hs) (by omega), kw_round (by omega)] at hnum
    have hko := getD_ok hs i
    obtain ⟨w1, c1, c2, c3⟩ := s.stC (i := i) (by rw [wv_len, upL_len]; exact hi) (.int .u32 (((st.getD i z4).n : Nat) : Int))
    rw [upL_set (f := fun c => st.getD c z4) hi] at c2
    obtain ⟨w2, g1, g2, g3⟩ := ih (i + 1) f w1 (by omega) (by omega) (b.upd c3 hne) c2
    refine ⟨w2, ?_, g2, c3.trans' g3 fun _ _ e => e⟩
    have e4 : IntKind.i64.wrap (4 * (i : Int)) = ((4 * i : Nat) : Int) := by rw [w64 (by omega) (by omega)]; omega
    have e1 : IntKind.i64.wrap ((i : Int) + 1) = ((i + 1 : Nat) : Int) := by rw [w64 (by omega) (by omega)]; rfl
    have c1' : stC ((⟨gs, 0, none⟩ : Addr).add (i * 1)) (.int .u32 (((st.getD i z4).n : Nat) : Int)) w = some w1 := by
      rw [add_lit, Nat.mul_one, Nat.zero_add]; exact c1
    have hnum : rijndael_number K ⟨sla (some ⟨gb, 0, none⟩) (4 * i) 16 1, 16 - 4 * i, 16 - 4 * i⟩ 4 w = _ := hnum
    have eu : rijndael_load_l0 K (f + 1) = rijndael_load_l0_b K (rijndael_load_l0 K f) := rfl
    rw [eu]
    unfold rijndael_load_l0_b
    rw [if_pos (decide_eq_true (by omega)), e4, if_pos ⟨by omega, by omega⟩, Int.toNat_natCast, hnum, Option.bind_some, if_pos (nat_in hi), Int.toNat_natCast]
    show (stC _ (.int .u32 (IntKind.u32.wrap (((st.getD i z4).n : Nat) : Int))) w).bind _ = _
    rw [wr32' (W4.lt hko), c1', Option.bind_some, e1, g1]

theorem load_ok {K : Nat} (hK : 300 ≤ K) {st : List W4} (hs : ∀ x ∈ st, x.ok) (hl : st.length = 4) (w : World) :
    ∃ w', rijndael_load K (bl st).toArray w = some (((wv st).toArray, ()), w') ∧ Upd none_ w w' := by
  obtain ⟨w1, n1, b1, u1, z1⟩ := newB_ok (bl st).toArray 42 w
  obtain ⟨w2, n2, b2, u2, z2⟩ := newB_ok z135 135 w1
  obtain ⟨w3, n3, b3, u3, z3⟩ := newB_ok z135 135 w2
  rw [z135_four] at b2 b3
  have b1 : Bk 42 w1 w.heap.size (bl st) := b1
  rw [← upL_zero (fun c => st.getD c z4)] at b3
  obtain ⟨w4, a4, b4, u4⟩ := load_loop hK hs hl (gb := w.heap.size) (gs := w2.heap.size) (a2 := ⟨w1.heap.size, 0, none⟩) (by omega) 4 0 K w3 rfl (by omega) ((b1.upd0 u2).upd0 u3) b3
  have a4 : rijndael_load_l0 K K ⟨w.heap.size, 0, none⟩ ⟨w1.heap.size, 0, none⟩ ⟨w2.heap.size, 0, none⟩ 0 w3 = _ := a4
  have hl4 := b4.ldA (i := 0) (n := 4) (by rw [wv_len, hl]; decide)
  rw [List.drop_zero, List.take_of_length_le (by rw [wv_len, hl]; decide)] at hl4
  obtain ⟨w5, a5, b5, u5⟩ := ((b2.upd0 u3).upd u4 (by omega)).stA (o := 0) (vs := (wv st).toArray) (by rw [List.size_toArray, wv_len, hl, wv_len, fourL_len]; decide) (fun v hv => wv_one st v hv)
  have b5 : Bk 135 w5 w1.heap.size (seg (wv (fourL fun _ => z4)) 0 (wv st)) := b5
  rw [seg_all (by rw [wv_len, wv_len, hl, fourL_len])] at b5
  have hl5 := b5.ldA (i := 0) (n := 4) (by rw [wv_len, hl]; decide)
  rw [List.drop_zero, List.take_of_length_le (by rw [wv_len, hl]; decide)] at hl5
  refine ⟨w5, ?_, ((((u1.and0 u2).and0 u3).trans' u4 fun k hk e => by omega).trans' u5 fun k hk e => by omega)⟩
  unfold rijndael_load
  rw [n1, bnd_ok, n2, bnd_ok, n3, bnd_ok, a4, bnd_ok, hl4, Option.bind_some, if_pos (by rw [List.size_toArray, wv_len, hl]), a5, Option.bind_some, hl5, Option.bind_some]

/-! ### a number laid into bytes -/
def layB (size n : Nat) : List Int := (List.range size).map fun i => ((n / 2 ^ (8 * (size - 1 - i)) % 256 : Nat) : Int)
theorem layB_len (size n : Nat) : (layB size n).length = size := by simp [layB]

theorem seg_snoc {cs vs : List Value} {o : Nat} {v : Value} (h : o + vs.length + 1 ≤ cs.length) : (seg cs o vs).set (o + vs.length) v = seg cs o (vs ++ [v]) := by
  apply List.ext_getElem?
  intro i
  rw [List.getElem?_set, seg_get (by omega), seg_get (by rw [List.length_append, List.length_singleton]; omega), seg_length (by omega), List.length_append, List.length_singleton]
  by_cases h1 : i < o
  · rw [if_neg (show ¬ o + vs.length = i by omega), if_pos h1, if_pos h1]
  · by_cases h2 : i = o + vs.length
    · subst h2
      rw [if_pos rfl, if_pos (by omega), if_neg h1, if_pos (by omega), List.getElem?_append_right (by omega), show o + vs.length - o - vs.length = 0 by omega]
      rfl
    · rw [if_neg (fun e => h2 e.symm), if_neg h1, if_neg h1]
      by_cases h3 : i < o + vs.length
      · rw [if_pos h3, if_pos (by omega), List.getElem?_append_left (by omega)]
      · rw [if_neg h3, if_neg (by omega)]

theorem lay_loop (K : Nat) {e : TypeId} {g o size n len cap : Nat} {cs : List Value} (hsz : size ≤ 8) (hlen : size ≤ len) (ho : o + size ≤ cs.length) (hn : n < 18446744073709551616) :
    ∀ (d i f : Nat) (w : World), d + i = size → d < f → Bk e w g (seg cs o (ints .u8 ((layB size n).take i))) →
      ∃ w', rijndael_lay_l0 K f ⟨some ⟨g, o, none⟩, len, cap⟩ (size : Int) (n : Int) (size : Int) (i : Int) w = some ((), w') ∧ Bk e w' g (seg cs o (ints .u8 (layB size n))) ∧ Upd (· = g) w w' := by
  intro d
  induction d with
  | zero =>
    intro i f w hd hf b
    obtain ⟨f, rfl⟩ : ∃ m, f = m + 1 := ⟨f - 1, by omega⟩
    rw [List.take_of_length_le (by rw [layB_len]; omega)] at b
    refine ⟨w, ?_, b, Upd.refl _ w⟩
    have eu : rijndael_lay_l0 K (f + 1) = rijndael_lay_l0_b K (rijndael_lay_l0 K f) := rfl
    rw [eu]
    unfold rijndael_lay_l0_b
    rw [if_neg (fun e => by have := of_decide_eq_true e; omega)]
  | succ d ih =>
    intro i f w hd hf b
    obtain ⟨f, rfl⟩ : ∃ m, f = m + 1 := ⟨f - 1, by omega⟩
    have hi : i < size := by omega
    have hlt : (ints .u8 ((layB size n).take i)).length = i := by rw [ints_length, List.length_take, layB_len]; omega
    have hv : (layB size n)[i]? = some ((n / 2 ^ (8 * (size - 1 - i)) % 256 : Nat) : Int) := by unfold layB; rw [List.getElem?_map, List.getElem?_range hi]; rfl
    obtain ⟨w1, c1, c2, c3⟩ := b.stC (i := o + i) (by rw [seg_length (by rw [hlt]; omega)]; omega) (.int .u8 ((n / 2 ^ (8 * (size - 1 - i)) % 256 : Nat) : Int))
    have e5 := seg_snoc (cs := cs) (o := o) (vs := ints .u8 ((layB size n).take i)) (v := .int .u8 ((n / 2 ^ (8 * (size - 1 - i)) % 256 : Nat) : Int)) (by rw [hlt]; omega)
    rw [hlt] at e5
    have e6 : ints .u8 ((layB size n).take i) ++ [Value.int .u8 ((n / 2 ^ (8 * (size - 1 - i)) % 256 : Nat) : Int)] = ints .u8 ((layB size n).take (i + 1)) := by
      rw [List.take_add_one, hv, ints_append]; rfl
    rw [e5, e6] at c2
    obtain ⟨w2, g1, g2, g3⟩ := ih (i + 1) f w1 (by omega) (by omega) c2
    refine ⟨w2, ?_, g2, c3.trans' g3 fun _ _ e => e⟩
    have e7 : IntKind.i64.wrap (8 * (IntKind.i64.wrap ((IntKind.i64.wrap ((size : Int) - 1)) - (i : Int)))) = ((8 * (size - 1 - i) : Nat) : Int) := by
      have a1 : IntKind.i64.wrap ((size : Int) - 1) = ((size - 1 : Nat) : Int) := by rw [w64 (by omega) (by omega)]; omega
      have a2 : IntKind.i64.wrap (((size - 1 : Nat) : Int) - (i : Int)) = ((size - 1 - i : Nat) : Int) := by rw [w64 (by omega) (by omega)]; omega
      rw [a1, a2, w64 (by omega) (by omega)]; omega
    have e8 : min (Int.toNat ((8 * (size - 1 - i) : Nat) : Int)) IntKind.u64.bits = 8 * (size - 1 - i) := by
      rw [Int.toNat_natCast]; exact Nat.min_eq_left (show 8 * (size - 1 - i) ≤ 64 by omega)
    have e9 : IntKind.u8.wrap (((n / 2 ^ (8 * (size - 1 - i)) : Nat)) : Int) = ((n / 2 ^ (8 * (size - 1 - i)) % 256 : Nat) : Int) := by rw [IntKind.wrap_u8]; rfl
    have e1 : IntKind.i64.wrap ((i : Int) + 1) = ((i + 1 : Nat) : Int) := by rw [w64 (by omega) (by omega)]; rfl
    have c1' : stC ((⟨g, o, none⟩ : Addr).add (i * 1)) (.int .u8 ((n / 2 ^ (8 * (size - 1 - i)) % 256 : Nat) : Int)) w = some w1 := by rw [add_lit, Nat.mul_one]; exact c1
    have eu : rijndael_lay_l0 K (f + 1) = rijndael_lay_l0_b K (rijndael_lay_l0 K f) := rfl
    rw [eu]
    unfold rijndael_lay_l0_b
    rw [if_pos (decide_eq_true (by omega)), e7, if_pos (by omega), Option.bind_some, if_pos (nat_in (show i < len by omega)), e8, fdiv_pow, e9, Int.toNat_natCast, c1', Option.bind_some, e1, g1]

theorem lay_ok {K : Nat} (hK : 300 ≤ K) {e : TypeId} {g o size n len cap : Nat} {cs : List Value} (hsz : size ≤ 8) (hlen : size ≤ len) (ho : o + size ≤ cs.length) (hn : n < 18446744073709551616) {w : World} (b : Bk e w g cs) :
    ∃ w', rijndael_lay K ⟨some ⟨g, o, none⟩, len, cap⟩ (size : Int) (n : Int) w = some ((), w') ∧ Bk e w' g (seg cs o (ints .u8 (layB size n))) ∧ Upd (· = g) w w' := by
  have b0 : Bk e w g (seg cs o (ints .u8 ((layB size n).take 0))) := by
    have : seg cs o (ints .u8 ((layB size n).take 0)) = cs := by
      rw [List.take_zero]; show cs.take o ++ [] ++ cs.drop (o + 0) = cs
      rw [List.append_nil, Nat.add_zero, List.take_append_drop]
    rw [this]; exact b
  obtain ⟨w', a1, a2, a3⟩ := lay_loop K hsz hlen ho hn size 0 K w rfl (by omega) b0
  refine ⟨w', ?_, a2, a3⟩
  have a1 : rijndael_lay_l0 K K ⟨some ⟨g, o, none⟩, len, cap⟩ (size : Int) (n : Int) (size : Int) 0 w = _ := a1
  unfold rijndael_lay
  rw [a1, bnd_ok]

theorem lay4 {x : W4} (h : x.ok) : layB 4 x.n = w4I x := by
  obtain ⟨ha, hb, hc, hd⟩ := h
  show [((pk x.a x.b x.c x.d / 16777216 % 256 : Nat) : Int), ((pk x.a x.b x.c x.d / 65536 % 256 : Nat) : Int), ((pk x.a x.b x.c x.d / 256 % 256 : Nat) : Int), ((pk x.a x.b x.c x.d / 1 % 256 : Nat) : Int)] = [(x.a : Int), x.b, x.c, x.d]
  have e0 : pk x.a x.b x.c x.d / 16777216 % 256 = x.a := by unfold pk; omega
  have e1 : pk x.a x.b x.c x.d / 65536 % 256 = x.b := by unfold pk; omega
  have e2 : pk x.a x.b x.c x.d / 256 % 256 = x.c := by unfold pk; omega
  have e3 : pk x.a x.b x.c x.d / 1 % 256 = x.d := by unfold pk; omega
  rw [e0, e1, e2, e3]

theorem bl_upd {f g : Nat → W4} {i : Nat} (hi : i < 4) : seg (bl (upL f g i)) (4 * i) (ints .u8 (w4I (f i))) = bl (upL f g (i + 1)) := by
  have : i = 0 ∨ i = 1 ∨ i = 2 ∨ i = 3 := by omega
  rcases this with rfl | rfl | rfl | rfl <;> rfl

theorem block_loop {K : Nat} (hK : 300 ≤ K) {st : List W4} (hs : ∀ x ∈ st, x.ok) (hl : st.length = 4) {gb : Nat} {a2 : Addr} :
    ∀ (d i f : Nat) (w : World), d + i = 4 → d < f → Bk 42 w gb (bl (upL (fun c => st.getD c z4) (fun _ => z4) i)) →
      ∃ w', rijndael_state_block_l0 K f a2 ⟨gb, 0, none⟩ (wv st).toArray (i : Int) w = some ((), w') ∧ Bk 42 w' gb (bl st) ∧ Upd (· = gb) w w' := by
  intro d
  induction d with
  | zero =>
    intro i f w hd hf b
    obtain ⟨f, rfl⟩ : ∃ m, f = m + 1 := ⟨f - 1, by omega⟩
    obtain rfl : i = 4 := by omega
    rw [upL_four, fourL_self hl] at b
    refine ⟨w, ?_, b, Upd.refl _ w⟩
    have eu : rijndael_state_block_l0 K (f + 1) = rijndael_state_block_l0_b K (rijndael_state_block_l0 K f) := rfl
    rw [eu]
    unfold rijndael_state_block_l0_b
    rw [if_neg (by decide)]
  | succ d ih =>
    intro i f w hd hf b
    obtain ⟨f, rfl⟩ : ∃ m, f = m + 1 := ⟨f - 1, by omega⟩
    have hi : i < 4 := by omega
    have hko := getD_ok hs i
    have hlt := W4.lt hko
    obtain ⟨w1, c1, c2, c3⟩ := lay_ok hK (e := 42) (g := gb) (o := 4 * i) (size := 4) (n := (st.getD i z4).n) (len := 16 - 4 * i) (cap := 16 - 4 * i) (by decide) (by omega) (by rw [bl_len (upL_len _ _ _)]; omega) (by omega) b
    rw [lay4 hko, bl_upd (f := fun c => st.getD c z4) hi] at c2
    obtain ⟨w2, g1, g2, g3⟩ := ih (i + 1) f w1 (by omega) (by omega) c2
    refine ⟨w2, ?_, g2, c3.trans' g3 fun _ _ e => e⟩
    have e4 : IntKind.i64.wrap (4 * (i : Int)) = ((4 * i : Nat) : Int) := by rw [w64 (by omega) (by omega)]; omega
    have e1 : IntKind.i64.wrap ((i : Int) + 1) = ((i + 1 : Nat) : Int) := by rw [w64 (by omega) (by omega)]; rfl
    have eg : (wv st).toArray[i]? = some (.int .u32 (((st.getD i z4).n : Nat) : Int)) := by rw [List.getElem?_toArray]; exact wv_get (by omega)
    have es : sla (some (⟨gb, 0, none⟩ : Addr)) (4 * i) 16 1 = some ⟨gb, 4 * i, none⟩ := by rw [sla_some (by omega), add_lit, Nat.mul_one, Nat.zero_add]
    have c1 : rijndael_lay K ⟨some ⟨gb, 4 * i, none⟩, 16 - 4 * i, 16 - 4 * i⟩ 4 (((st.getD i z4).n : Nat) : Int) w = some ((), w1) := c1
    have eu : rijndael_state_block_l0 K (f + 1) = rijndael_state_block_l0_b K (rijndael_state_block_l0 K f) := rfl
    rw [eu]
    unfold rijndael_state_block_l0_b
    rw [if_pos (decide_eq_true (by omega)), if_pos (nat_in hi), Int.toNat_natCast, Nat.mul_one, eg, Option.bind_some]
    show ((some (((st.getD i z4).n : Nat) : Int)).bind _) = _
    rw [Option.bind_some, e4, if_pos ⟨by omega, by omega⟩, Int.toNat_natCast, es, wru64 (by omega), c1, bnd_ok, e1, g1]

theorem z42_bl : z42.toList = bl (fourL fun _ => z4) := rfl
theorem bl_one (st : List W4) : ∀ v ∈ bl st, v.oneCell' = true := fun v hv => ints_one v hv

theorem block_ok {K : Nat} (hK : 300 ≤ K) {st : List W4} (hs : ∀ x ∈ st, x.ok) (hl : st.length = 4) (w : World) :
    ∃ w', rijndael_state_block K (wv st).toArray w = some (((bl st).toArray, ()), w') ∧ Upd none_ w w' := by
  obtain ⟨w1, n1, b1, u1, z1⟩ := newB_ok (wv st).toArray 135 w
  obtain ⟨w2, n2, b2, u2, z2⟩ := newB_ok z42 42 w1
  obtain ⟨w3, n3, b3, u3, z3⟩ := newB_ok z42 42 w2
  rw [z42_bl] at b2 b3
  have b1 : Bk 135 w1 w.heap.size (wv st) := b1
  rw [← upL_zero (fun c => st.getD c z4)] at b3
  have hl1 := ((b1.upd0 u2).upd0 u3).ldA (i := 0) (n := 4) (by rw [wv_len, hl]; decide)
  rw [List.drop_zero, List.take_of_length_le (by rw [wv_len, hl]; decide)] at hl1
  obtain ⟨w4, a4, b4, u4⟩ := block_loop hK hs hl (gb := w2.heap.size) (a2 := ⟨w1.heap.size, 0, none⟩) 4 0 K w3 rfl (by omega) b3
  have a4 : rijndael_state_block_l0 K K ⟨w1.heap.size, 0, none⟩ ⟨w2.heap.size, 0, none⟩ (wv st).toArray 0 w3 = _ := a4
  have hl4 := b4.ldA (i := 0) (n := 16) (by rw [bl_len hl]; decide)
  rw [List.drop_zero, List.take_of_length_le (by rw [bl_len hl]; decide)] at hl4
  obtain ⟨w5, a5, b5, u5⟩ := ((b2.upd0 u3).upd u4 (by omega)).stA (o := 0) (vs := (bl st).toArray) (by rw [List.size_toArray, bl_len hl, bl_len (fourL_len _)]; decide) (fun v hv => bl_one st v hv)
  have b5 : Bk 42 w5 w1.heap.size (seg (bl (fourL fun _ => z4)) 0 (bl st)) := b5
  rw [seg_all (by rw [bl_len hl, bl_len (fourL_len _)])] at b5
  have hl5 := b5.ldA (i := 0) (n := 16) (by rw [bl_len hl]; decide)
  rw [List.drop_zero, List.take_of_length_le (by rw [bl_len hl]; decide)] at hl5
  refine ⟨w5, ?_, ((((u1.and0 u2).and0 u3).trans' u4 fun k hk e => by omega).trans' u5 fun k hk e => by omega)⟩
  unfold rijndael_state_block
  rw [n1, bnd_ok, n2, bnd_ok, n3, bnd_ok, hl1, Option.bind_some, a4, bnd_ok, hl4, Option.bind_some, if_pos (by rw [List.size_toArray, bl_len hl]), a5, Option.bind_some, hl5, Option.bind_some]

end Go.Sh

/- Package rijndael: a block goes through the rounds. -/
set_option linter.unusedVariables false
set_option maxRecDepth 100000
namespace Go.Sh
open Go.Fw Go.Gf Go.RowKit Go.Proofs.Tryd

def subW4 (f : Nat → Nat) (step : Nat) (st : List W4) (c : Nat) : W4 := ⟨f (byteW (st.getD c z4) 0), f (byteW (st.getD ((c + step) % 4) z4) 1), f (byteW (st.getD ((c + 2) % 4) z4) 2), f (byteW (st.getD ((c + 3 * step) % 4) z4) 3)⟩
def mcW (Y : W4) (x : W4) : W4 := (((W4.rr 0 (mulW x.a Y)).xor (W4.rr 1 (mulW x.b Y))).xor (W4.rr 2 (mulW x.c Y))).xor (W4.rr 3 (mulW x.d Y))
theorem imc_mc (x : W4) : imc x = mcW decY x := rfl
theorem mcW_ok {x : W4} (h : x.ok) (Y : W4) : (mcW Y x).ok := W4.ok_xor (W4.ok_xor (W4.ok_xor (W4.ok_rr (mulW_ok h.1 _) 0) (W4.ok_rr (mulW_ok h.2.1 _) 1)) (W4.ok_rr (mulW_ok h.2.2.1 _) 2)) (W4.ok_rr (mulW_ok h.2.2.2 _) 3)
theorem subW4_ok {f : Nat → Nat} (hf : ∀ i, i < 256 → f i < 256) {step : Nat} {st : List W4} (hs : ∀ x ∈ st, x.ok) (c : Nat) : (subW4 f step st c).ok :=
  ⟨hf _ (byteW_lt (getD_ok hs _) 0), hf _ (byteW_lt (getD_ok hs _) 1), hf _ (byteW_lt (getD_ok hs _) 2), hf _ (byteW_lt (getD_ok hs _) 3)⟩

def addK (st : List W4) (k : Nat → W4) : List W4 := fourL fun c => (st.getD c z4).xor (k c)
def rnd (W : List W4) (f : Nat → Nat) (Y : W4) (step : Nat) (r : Nat) (st : List W4) : List W4 := fourL fun c => (mcW Y (subW4 f step st c)).xor (W.getD (r + c) z4)
def rounds (W : List W4) (f : Nat → Nat) (Y : W4) (step : Nat) : Nat → Nat → List W4 → List W4
  | 0, _, st => st
  | d + 1, r, st => rounds W f Y step d (r + 4) (rnd W f Y step r st)
def lastR (W : List W4) (f : Nat → Nat) (step : Nat) (n : Nat) (st : List W4) : List W4 := fourL fun c => (subW4 f step st c).xor (W.getD (n + c) z4)
def throughF (W : List W4) (f : Nat → Nat) (Y : W4) (step : Nat) (st : List W4) : List W4 :=
  lastR W f step (W.length - 4) (rounds W f Y step ((W.length - 8) / 4) 4 (addK st fun c => W.getD c z4))

theorem addK_ok {st : List W4} {k : Nat → W4} (hs : ∀ x ∈ st, x.ok) (hk : ∀ c, c < 4 → (k c).ok) : ∀ x ∈ addK st k, x.ok := fourL_ok fun c hc => W4.ok_xor (getD_ok hs c) (hk c hc)
theorem rnd_ok {W : List W4} (hW : ∀ x ∈ W, x.ok) {f : Nat → Nat} (hf : ∀ i, i < 256 → f i < 256) (Y : W4) (step r : Nat) {st : List W4} (hs : ∀ x ∈ st, x.ok) : ∀ x ∈ rnd W f Y step r st, x.ok := fourL_ok fun c hc => W4.ok_xor (mcW_ok (subW4_ok hf hs c) Y) (getD_ok hW _)
theorem rnd_len (W : List W4) (f : Nat → Nat) (Y : W4) (step r : Nat) (st : List W4) : (rnd W f Y step r st).length = 4 := fourL_len _
theorem rounds_ok {W : List W4} (hW : ∀ x ∈ W, x.ok) {f : Nat → Nat} (hf : ∀ i, i < 256 → f i < 256) (Y : W4) (step : Nat) : ∀ (d r : Nat) {st : List W4}, (∀ x ∈ st, x.ok) → ∀ x ∈ rounds W f Y step d r st, x.ok
  | 0, _, _, h => h
  | d + 1, r, _, h => rounds_ok hW hf Y step d (r + 4) (rnd_ok hW hf Y step r h)
theorem rounds_len (W : List W4) (f : Nat → Nat) (Y : W4) (step : Nat) : ∀ (d r : Nat) {st : List W4}, st.length = 4 → (rounds W f Y step d r st).length = 4
  | 0, _, _, h => h
  | d + 1, r, st, _ => rounds_len W f Y step d (r + 4) (rnd_len W f Y step r st)
theorem lastR_ok {W : List W4} (hW : ∀ x ∈ W, x.ok) {f : Nat → Nat} (hf : ∀ i, i < 256 → f i < 256) (step n : Nat) {st : List W4} (hs : ∀ x ∈ st, x.ok) : ∀ x ∈ lastR W f step n st, x.ok := fourL_ok fun c hc => W4.ok_xor (subW4_ok hf hs c) (getD_ok hW _)
theorem throughF_ok {W : List W4} (hW : ∀ x ∈ W, x.ok) {f : Nat → Nat} (hf : ∀ i, i < 256 → f i < 256) (Y : W4) (step : Nat) {st : List W4} (hs : ∀ x ∈ st, x.ok) : ∀ x ∈ throughF W f Y step st, x.ok := lastR_ok hW hf step _ (rounds_ok hW hf Y step _ _ (addK_ok hs fun c _ => getD_ok hW c))
theorem throughF_len (W : List W4) (f : Nat → Nat) (Y : W4) (step : Nat) (st : List W4) : (throughF W f Y step st).length = 4 := fourL_len _

theorem wc_ld {w : World} {gw n : Nat} {W : List W4} (b : Bk 50 w gw (wc W n)) {i : Nat} (hi : i < W.length) : ldI .u32 ((⟨gw, 0, none⟩ : Addr).add (i * 1)) w = some (((W.getD i z4).n : Nat) : Int) := by
  rw [add_lit, Nat.mul_one, Nat.zero_add]; exact b.ldI (wc_get hi z4)
theorem wv_ld {w : World} {g : Nat} {L : List W4} (b : Bk 135 w g (wv L)) {i : Nat} (hi : i < L.length) : ldI .u32 ((⟨g, 0, none⟩ : Addr).add (i * 1)) w = some (((L.getD i z4).n : Nat) : Int) := by
  rw [add_lit, Nat.mul_one, Nat.zero_add]; exact b.ldI (wv_get hi)

theorem thr_l0 {K : Nat} {W : List W4} (hW : ∀ x ∈ W, x.ok) {n : Nat} (hn : W.length = n) (hn8 : 8 ≤ n) {gw : Nat} {t2 last : Option Addr} {stp : Int} {gs : Nat} {a10 : Addr} {st : List W4} (hs : ∀ x ∈ st, x.ok) (hne : gw ≠ gs) :
    ∀ (d i f : Nat) (w : World), d + i = 4 → d < f → Bk 50 w gw (wc W n) → Bk 135 w gs (wv (upL (fun c => (st.getD c z4).xor (W.getD c z4)) (fun c => st.getD c z4) i)) →
      ∃ w', rijndael_through_l0 K f ⟨some ⟨gw, 0, none⟩, n, n⟩ t2 last stp ⟨gs, 0, none⟩ a10 (i : Int) w = some ((), w') ∧ Bk 135 w' gs (wv (addK st fun c => W.getD c z4)) ∧ Upd (· = gs) w w' := by
  intro d
  induction d with
  | zero =>
    intro i f w hd hf bw b
    obtain ⟨f, rfl⟩ : ∃ m, f = m + 1 := ⟨f - 1, by omega⟩
    obtain rfl : i = 4 := by omega
    rw [upL_four] at b
    refine ⟨w, ?_, b, Upd.refl _ w⟩
    have eu : rijndael_through_l0 K (f + 1) = rijndael_through_l0_b K (rijndael_through_l0 K f) := rfl
    rw [eu]
    unfold rijndael_through_l0_b
    rw [if_neg (by decide)]
  | succ d ih =>
    intro i f w hd hf bw b
    obtain ⟨f, rfl⟩ : ∃ m, f = m + 1 := ⟨f - 1, by omega⟩
    have hi : i < 4 := by omega
    have l1 := wv_ld b.drew (i := i) (by rw [upL_len]; exact hi)
    rw [upL_get _ _ _ hi, if_neg (Nat.lt_irrefl i)] at l1
    have l2 := wc_ld bw.drew (i := i) (by omega)
    have ex := W4.xor_n (getD_ok hs i) (getD_ok hW i)
    obtain ⟨w1, c1, c2, c3⟩ := b.drew.stC (i := i) (by rw [wv_len, upL_len]; exact hi) (.int .u32 ((((st.getD i z4).xor (W.getD i z4)).n : Nat) : Int))
    rw [upL_set (f := fun c => (st.getD c z4).xor (W.getD c z4)) hi] at c2
    have c3 : Upd (· = gs) w w1 := c3.predrew
    obtain ⟨w2, g1, g2, g3⟩ := ih (i + 1) f w1 (by omega) (by omega) (bw.upd c3 hne) c2
    refine ⟨w2, ?_, g2, c3.trans' g3 fun _ _ e => e⟩
    have e1 : IntKind.i64.wrap ((i : Int) + 1) = ((i + 1 : Nat) : Int) := by rw [w64 (by omega) (by omega)]; rfl
    have c1' : stC ((⟨gs, 0, none⟩ : Addr).add (i * 1)) (.int .u32 ((((st.getD i z4).xor (W.getD i z4)).n : Nat) : Int)) w.drew = some w1 := by
      rw [add_lit, Nat.mul_one, Nat.zero_add]; exact c1
    have eu : rijndael_through_l0 K (f + 1) = rijndael_through_l0_b K (rijndael_through_l0 K f) := rfl
    rw [eu]
    unfold rijndael_through_l0_b
    rw [if_pos (decide_eq_true (by omega)), if_pos (nat_in hi), Option.bind_some, if_pos (nat_in (show i < n by omega)), Int.toNat_natCast, l1, Option.bind_some, l2, Option.bind_some, if_pos (nat_in hi), ex, c1', Option.bind_some, e1, g1]

theorem mod4_ok {i k : Nat} (hi : i < 4) (hk : k < 100) : Int.tmod (IntKind.i64.wrap ((i : Int) + (k : Int))) 4 = (((i + k) % 4 : Nat) : Int) := by
  have e : IntKind.i64.wrap ((i : Int) + (k : Int)) = ((i + k : Nat) : Int) := by rw [w64 (by omega) (by omega)]; omega
  rw [e]; exact tmod_nat (i + k) 4

theorem thr_l2 {K : Nat} {W : List W4} (hW : ∀ x ∈ W, x.ok) {n : Nat} (hn : W.length = n) (hn8 : 8 ≤ n) (hn1 : n ≤ 1000) {t gw : Nat} {step : Nat} (hstep : step ≤ 3) {f : Nat → Nat} (hf : ∀ i, i < 256 → f i < 256) {Y : W4} {o : Nat} (hT : ∀ {w : World}, Bk 130 w t tabsL → ∀ {r i : Nat}, r < 4 → i < 256 → ldI .u32 ((((⟨t, 0, none⟩ : Addr).add o).add (r * 256)).add (i * 1)) w = some (((W4.rr r (mulW (f i) Y)).n : Nat) : Int)) {last : Option Addr} {gs gx : Nat} {a10 : Addr} {nn : Int} {r : Nat} (hr : r + 4 ≤ n) {st : List W4} (hs : ∀ x ∈ st, x.ok) (hl : st.length = 4) (h1 : gw ≠ gx) (h2 : gs ≠ gx) (h3 : t ≠ gx) :
    ∀ (d i fu : Nat) (w : World), d + i = 4 → d < fu → Bk 50 w gw (wc W n) → Bk 130 w t tabsL → Bk 135 w gs (wv st) → Bk 135 w gx (wv (upL (fun c => (mcW Y (subW4 f step st c)).xor (W.getD (r + c) z4)) (fun _ => z4) i)) →
      ∃ w', rijndael_through_l2 K fu ⟨some ⟨gw, 0, none⟩, n, n⟩ (some ((⟨t, 0, none⟩ : Addr).add o)) last (step : Int) ⟨gs, 0, none⟩ a10 nn (r : Int) ⟨gx, 0, none⟩ (i : Int) w = some ((), w') ∧ Bk 135 w' gx (wv (rnd W f Y step r st)) ∧ Upd (· = gx) w w' := by
  intro d
  induction d with
  | zero =>
    intro i fu w hd hfu bw bt bs b
    obtain ⟨fu, rfl⟩ : ∃ m, fu = m + 1 := ⟨fu - 1, by omega⟩
    obtain rfl : i = 4 := by omega
    rw [upL_four] at b
    refine ⟨w, ?_, b, Upd.refl _ w⟩
    have eu : rijndael_through_l2 K (fu + 1) = rijndael_through_l2_b K (rijndael_through_l2 K fu) := rfl
    rw [eu]
    unfold rijndael_through_l2_b
    rw [if_neg (by decide)]
  | succ d ih =>
    intro i fu w hd hfu bw bt bs b
    obtain ⟨fu, rfl⟩ : ∃ m, fu = m + 1 := ⟨fu - 1, by omega⟩
    have hi : i < 4 := by omega
    have bsd := bs.drew
    have btd := bt.drew
    have k0 := getD_ok hs i
    have k1 := getD_ok hs ((i + step) % 4)
    have k2 := getD_ok hs ((i + 2) % 4)
    have k3 := getD_ok hs ((i + 3 * step) % 4)
    have m1 := mod4_ok (i := i) (k := step) hi (by omega)
    have m2 : Int.tmod (IntKind.i64.wrap ((i : Int) + 2)) 4 = (((i + 2) % 4 : Nat) : Int) := mod4_ok (i := i) (k := 2) hi (by omega)
    have e3s : IntKind.i64.wrap (3 * (step : Int)) = ((3 * step : Nat) : Int) := by rw [w64 (by omega) (by omega)]; omega
    have m3 := mod4_ok (i := i) (k := 3 * step) hi (by omega)
    have j1 : (i + step) % 4 < 4 := Nat.mod_lt _ (by decide)
    have j2 : (i + 2) % 4 < 4 := Nat.mod_lt _ (by decide)
    have j3 : (i + 3 * step) % 4 < 4 := Nat.mod_lt _ (by decide)
    have l0 := wv_ld bsd (i := i) (by omega)
    have l1 := wv_ld bsd (i := (i + step) % 4) (by omega)
    have l2 := wv_ld bsd (i := (i + 2) % 4) (by omega)
    have l3 := wv_ld bsd (i := (i + 3 * step) % 4) (by omega)
    have lk := wc_ld bw.drew (i := r + i) (by omega)
    have erk : IntKind.i64.wrap ((r : Int) + (i : Int)) = ((r + i : Nat) : Int) := by rw [w64 (by omega) (by omega)]; omega
    have p0 : Int.fdiv (((st.getD i z4).n : Nat) : Int) (2 ^ 24) = ((byteW (st.getD i z4) 0 : Nat) : Int) := pk_0 k0.2.1 k0.2.2.1 k0.2.2.2
    have p1 : bits .and .u32 (Int.fdiv (((st.getD ((i + step) % 4) z4).n : Nat) : Int) (2 ^ 16)) 255 = ((byteW (st.getD ((i + step) % 4) z4) 1 : Nat) : Int) := pk_1 k1.1 k1.2.1 k1.2.2.1 k1.2.2.2
    have p2 : bits .and .u32 (Int.fdiv (((st.getD ((i + 2) % 4) z4).n : Nat) : Int) (2 ^ 8)) 255 = ((byteW (st.getD ((i + 2) % 4) z4) 2 : Nat) : Int) := pk_2 k2.1 k2.2.1 k2.2.2.1 k2.2.2.2
    have p3 : bits .and .u32 (((st.getD ((i + 3 * step) % 4) z4).n : Nat) : Int) 255 = ((byteW (st.getD ((i + 3 * step) % 4) z4) 3 : Nat) : Int) := pk_3 k3.1 k3.2.1 k3.2.2.1 k3.2.2.2
    have q0 := byteW_lt k0 0
    have q1 := byteW_lt k1 1
    have q2 := byteW_lt k2 2
    have q3 := byteW_lt k3 3
    have t0 := hT btd (r := 0) (by decide) q0
    have t1 := hT btd (r := 1) (by decide) q1
    have t2 := hT btd (r := 2) (by decide) q2
    have t3 := hT btd (r := 3) (by decide) q3
    have o0 := W4.ok_rr (mulW_ok (hf _ q0) Y) 0
    have o1 := W4.ok_rr (mulW_ok (hf _ q1) Y) 1
    have o2 := W4.ok_rr (mulW_ok (hf _ q2) Y) 2
    have o3 := W4.ok_rr (mulW_ok (hf _ q3) Y) 3
    have x1 := W4.xor_n o0 o1
    have x2 := W4.xor_n (W4.ok_xor o0 o1) o2
    have x3 := W4.xor_n (W4.ok_xor (W4.ok_xor o0 o1) o2) o3
    have x4 := W4.xor_n (W4.ok_xor (W4.ok_xor (W4.ok_xor o0 o1) o2) o3) (getD_ok hW (r + i))
    obtain ⟨w1, c1, c2, c3⟩ := b.drew.stC (i := i) (by rw [wv_len, upL_len]; exact hi) (.int .u32 ((((mcW Y (subW4 f step st i)).xor (W.getD (r + i) z4)).n : Nat) : Int))
    rw [upL_set (f := fun c => (mcW Y (subW4 f step st c)).xor (W.getD (r + c) z4)) hi] at c2
    have c3 : Upd (· = gx) w w1 := c3.predrew
    obtain ⟨w2, g1, g2, g3⟩ := ih (i + 1) fu w1 (by omega) (by omega) (bw.upd c3 h1) (bt.upd c3 h3) (bs.upd c3 h2) c2
    refine ⟨w2, ?_, g2, c3.trans' g3 fun _ _ e => e⟩
    have e1 : IntKind.i64.wrap ((i : Int) + 1) = ((i + 1 : Nat) : Int) := by rw [w64 (by omega) (by omega)]; rfl
    have c1' : stC ((⟨gx, 0, none⟩ : Addr).add (i * 1)) (.int .u32 ((((mcW Y (subW4 f step st i)).xor (W.getD (r + i) z4)).n : Nat) : Int)) w.drew = some w1 := by
      rw [add_lit, Nat.mul_one, Nat.zero_add]; exact c1
    have eu : rijndael_through_l2 K (fu + 1) = rijndael_through_l2_b K (rijndael_through_l2 K fu) := rfl
    rw [eu]
    unfold rijndael_through_l2_b
    rw [if_pos (decide_eq_true (by omega)), if_pos (nat_in hi), Option.bind_some, m1, if_pos (nat_in j1), Option.bind_some, m2, if_pos (nat_in j2), Option.bind_some, e3s, m3, if_pos (nat_in j3), Option.bind_some, Option.bind_some, erk, if_pos (nat_in (show r + i < n by omega)), Int.toNat_natCast, Int.toNat_natCast, Int.toNat_natCast, Int.toNat_natCast, Int.toNat_natCast,
      l0, Option.bind_some, p0, if_pos (nat_in q0), Int.toNat_natCast, t0, Option.bind_some, l1, Option.bind_some, p1, if_pos (nat_in q1), Int.toNat_natCast, t1, Option.bind_some, l2, Option.bind_some, p2, if_pos (nat_in q2), Int.toNat_natCast, t2, Option.bind_some, l3, Option.bind_some, p3, if_pos (nat_in q3), Int.toNat_natCast, t3, Option.bind_some, lk, Option.bind_some, if_pos (nat_in hi), x1, x2, x3, x4]
    show (stC _ (.int .u32 ((((mcW Y (subW4 f step st i)).xor (W.getD (r + i) z4)).n : Nat) : Int)) w.drew).bind _ = _
    rw [c1', Option.bind_some, e1, g1]

theorem thr_l1 {K : Nat} {W : List W4} (hW : ∀ x ∈ W, x.ok) {n : Nat} (hn : W.length = n) (hn4 : n % 4 = 0) (hn8 : 8 ≤ n) (hn1 : n ≤ 1000) {t gw : Nat} {step : Nat} (hstep : step ≤ 3) {f : Nat → Nat} (hf : ∀ i, i < 256 → f i < 256) {Y : W4} {o : Nat} (hT : ∀ {w : World}, Bk 130 w t tabsL → ∀ {r i : Nat}, r < 4 → i < 256 → ldI .u32 ((((⟨t, 0, none⟩ : Addr).add o).add (r * 256)).add (i * 1)) w = some (((W4.rr r (mulW (f i) Y)).n : Nat) : Int)) (hK : 300 ≤ K) {last : Option Addr} {gs : Nat} {a10 : Addr} (h1 : gw ≠ gs) (h3 : t ≠ gs) :
    ∀ (d r fu : Nat) (w : World) (st : List W4), 4 * d + r = n - 4 → r % 4 = 0 → 4 ≤ r → d < fu → (∀ x ∈ st, x.ok) → st.length = 4 → Bk 50 w gw (wc W n) → Bk 130 w t tabsL → Bk 135 w gs (wv st) →
      ∃ w', rijndael_through_l1 K fu ⟨some ⟨gw, 0, none⟩, n, n⟩ (some ((⟨t, 0, none⟩ : Addr).add o)) last (step : Int) ⟨gs, 0, none⟩ a10 ((n - 4 : Nat) : Int) (r : Int) w = some ((), w') ∧ Bk 135 w' gs (wv (rounds W f Y step d r st)) ∧ Upd (· = gs) w w' := by
  intro d
  induction d with
  | zero =>
    intro r fu w st hd hr4 hr hfu hs hl bw bt bs
    obtain ⟨fu, rfl⟩ : ∃ m, fu = m + 1 := ⟨fu - 1, by omega⟩
    refine ⟨w, ?_, bs, Upd.refl _ w⟩
    have eu : rijndael_through_l1 K (fu + 1) = rijndael_through_l1_b K (rijndael_through_l1 K fu) := rfl
    rw [eu]
    unfold rijndael_through_l1_b
    rw [if_neg (fun e => by have := of_decide_eq_true e; omega)]
  | succ d ih =>
    intro r fu w st hd hr4 hr hfu hs hl bw bt bs
    obtain ⟨fu, rfl⟩ : ∃ m, fu = m + 1 := ⟨fu - 1, by omega⟩
    obtain ⟨w1, n1, b1, u1, z1⟩ := newB_ok z135 135 w
    have b1 : Bk 135 w1 w.heap.size (wv (fourL fun _ => z4)) := b1
    rw [← upL_zero (fun c => (mcW Y (subW4 f step st c)).xor (W.getD (r + c) z4))] at b1
    have hgw := bw.lt
    have hgt := bt.lt
    have hgs := bs.lt
    obtain ⟨w2, a2, b2, u2⟩ := thr_l2 (K := K) hW hn hn8 hn1 hstep hf hT (last := last) (gs := gs) (gx := w.heap.size) (a10 := a10) (nn := ((n - 4 : Nat) : Int)) (r := r) (by omega) hs hl (by omega) (by omega) (by omega) 4 0 K w1 rfl (by omega) (bw.upd0 u1) (bt.upd0 u1) (bs.upd0 u1) b1
    have a2 : rijndael_through_l2 K K ⟨some ⟨gw, 0, none⟩, n, n⟩ (some ((⟨t, 0, none⟩ : Addr).add o)) last (step : Int) ⟨gs, 0, none⟩ a10 ((n - 4 : Nat) : Int) (r : Int) ⟨w.heap.size, 0, none⟩ 0 w1 = _ := a2
    have q2 : Upd none_ w w2 := u1.trans' u2 fun k hk e => by omega
    have hl2 := b2.ldA (i := 0) (n := 4) (by rw [wv_len, rnd_len]; decide)
    rw [List.drop_zero, List.take_of_length_le (by rw [wv_len, rnd_len]; decide)] at hl2
    obtain ⟨w3, a3, b3, u3⟩ := (bs.upd0 q2).stA (o := 0) (vs := (wv (rnd W f Y step r st)).toArray) (by rw [List.size_toArray, wv_len, rnd_len, wv_len, hl]; decide) (fun v hv => wv_one _ v hv)
    have b3 : Bk 135 w3 gs (seg (wv st) 0 (wv (rnd W f Y step r st))) := b3
    rw [seg_all (by rw [wv_len, rnd_len, wv_len, hl])] at b3
    have u03 : Upd (· = gs) w w3 := (q2.mono (T := (· = gs)) fun _ _ e => e.elim).trans' u3 fun _ _ e => e
    obtain ⟨w4, g1, g2, g3⟩ := ih (r + 4) fu w3 _ (by omega) (by omega) (by omega) (by omega) (rnd_ok hW hf Y step r hs) (rnd_len _ _ _ _ _ _) (bw.upd u03 h1) (bt.upd u03 h3) b3
    refine ⟨w4, ?_, g2, u03.trans' g3 fun _ _ e => e⟩
    have e4 : IntKind.i64.wrap ((r : Int) + 4) = ((r + 4 : Nat) : Int) := by rw [w64 (by omega) (by omega)]; rfl
    have eu : rijndael_through_l1 K (fu + 1) = rijndael_through_l1_b K (rijndael_through_l1 K fu) := rfl
    rw [eu]
    unfold rijndael_through_l1_b
    rw [if_pos (decide_eq_true (by omega)), n1, bnd_ok, a2, bnd_ok, hl2, Option.bind_some, if_pos (by rw [List.size_toArray, wv_len, rnd_len]), a3, Option.bind_some, e4, g1]

theorem thr_l3 {K : Nat} {W : List W4} (hW : ∀ x ∈ W, x.ok) {n : Nat} (hn : W.length = n) (hn8 : 8 ≤ n) (hn1 : n ≤ 1000) {t gw : Nat} {step : Nat} (hstep : step ≤ 3) {f : Nat → Nat} (hf : ∀ i, i < 256 → f i < 256) {lo : Nat} (hL : ∀ {w : World}, Bk 130 w t tabsL → ∀ {i : Nat}, i < 256 → ldI .u8 (((⟨t, 0, none⟩ : Addr).add lo).add (i * 1)) w = some ((f i : Nat) : Int)) {gs gx : Nat} {a10 : Addr} {st : List W4} (hs : ∀ x ∈ st, x.ok) (hl : st.length = 4) (h1 : gw ≠ gx) (h2 : gs ≠ gx) (h3 : t ≠ gx) :
    ∀ (d i fu : Nat) (w : World), d + i = 4 → d < fu → Bk 50 w gw (wc W n) → Bk 130 w t tabsL → Bk 135 w gs (wv st) → Bk 135 w gx (wv (upL (fun c => (subW4 f step st c).xor (W.getD (n - 4 + c) z4)) (fun _ => z4) i)) →
      ∃ w', rijndael_through_l3 K fu ⟨some ⟨gw, 0, none⟩, n, n⟩ (some ((⟨t, 0, none⟩ : Addr).add lo)) (step : Int) ⟨gs, 0, none⟩ a10 ((n - 4 : Nat) : Int) ⟨gx, 0, none⟩ (i : Int) w = some ((), w') ∧ Bk 135 w' gx (wv (lastR W f step (n - 4) st)) ∧ Upd (· = gx) w w' := by
  intro d
  induction d with
  | zero =>
    intro i fu w hd hfu bw bt bs b
    obtain ⟨fu, rfl⟩ : ∃ m, fu = m + 1 := ⟨fu - 1, by omega⟩
    obtain rfl : i = 4 := by omega
    rw [upL_four] at b
    refine ⟨w, ?_, b, Upd.refl _ w⟩
    have eu : rijndael_through_l3 K (fu + 1) = rijndael_through_l3_b K (rijndael_through_l3 K fu) := rfl
    rw [eu]
    unfold rijndael_through_l3_b
    rw [if_neg (by decide)]
  | succ d ih =>
    intro i fu w hd hfu bw bt bs b
    obtain ⟨fu, rfl⟩ : ∃ m, fu = m + 1 := ⟨fu - 1, by omega⟩
    have hi : i < 4 := by omega
    have bsd := bs.drew
    have btd := bt.drew
    have k0 := getD_ok hs i
    have k1 := getD_ok hs ((i + step) % 4)
    have k2 := getD_ok hs ((i + 2) % 4)
    have k3 := getD_ok hs ((i + 3 * step) % 4)
    have m1 := mod4_ok (i := i) (k := step) hi (by omega)
    have m2 : Int.tmod (IntKind.i64.wrap ((i : Int) + 2)) 4 = (((i + 2) % 4 : Nat) : Int) := mod4_ok (i := i) (k := 2) hi (by omega)
    have e3s : IntKind.i64.wrap (3 * (step : Int)) = ((3 * step : Nat) : Int) := by rw [w64 (by omega) (by omega)]; omega
    have m3 := mod4_ok (i := i) (k := 3 * step) hi (by omega)
    have j1 : (i + step) % 4 < 4 := Nat.mod_lt _ (by decide)
    have j2 : (i + 2) % 4 < 4 := Nat.mod_lt _ (by decide)
    have j3 : (i + 3 * step) % 4 < 4 := Nat.mod_lt _ (by decide)
    have l0 := wv_ld bsd (i := i) (by omega)
    have l1 := wv_ld bsd (i := (i + step) % 4) (by omega)
    have l2 := wv_ld bsd (i := (i + 2) % 4) (by omega)
    have l3 := wv_ld bsd (i := (i + 3 * step) % 4) (by omega)
    have lk := wc_ld bw.drew (i := n - 4 + i) (by omega)
    have erk : IntKind.i64.wrap (((n - 4 : Nat) : Int) + (i : Int)) = ((n - 4 + i : Nat) : Int) := by rw [w64 (by omega) (by omega)]; omega
    have p0 : Int.fdiv (((st.getD i z4).n : Nat) : Int) (2 ^ 24) = ((byteW (st.getD i z4) 0 : Nat) : Int) := pk_0 k0.2.1 k0.2.2.1 k0.2.2.2
    have p1 : bits .and .u32 (Int.fdiv (((st.getD ((i + step) % 4) z4).n : Nat) : Int) (2 ^ 16)) 255 = ((byteW (st.getD ((i + step) % 4) z4) 1 : Nat) : Int) := pk_1 k1.1 k1.2.1 k1.2.2.1 k1.2.2.2
    have p2 : bits .and .u32 (Int.fdiv (((st.getD ((i + 2) % 4) z4).n : Nat) : Int) (2 ^ 8)) 255 = ((byteW (st.getD ((i + 2) % 4) z4) 2 : Nat) : Int) := pk_2 k2.1 k2.2.1 k2.2.2.1 k2.2.2.2
    have p3 : bits .and .u32 (((st.getD ((i + 3 * step) % 4) z4).n : Nat) : Int) 255 = ((byteW (st.getD ((i + 3 * step) % 4) z4) 3 : Nat) : Int) := pk_3 k3.1 k3.2.1 k3.2.2.1 k3.2.2.2
    have q0 := byteW_lt k0 0
    have q1 := byteW_lt k1 1
    have q2 := byteW_lt k2 2
    have q3 := byteW_lt k3 3
    have t0 := hL btd q0
    have t1 := hL btd q1
    have t2 := hL btd q2
    have t3 := hL btd q3
    have em := mk32 (hf _ q0) (hf _ q1) (hf _ q2) (hf _ q3)
    have ho : (subW4 f step st i).ok := subW4_ok hf hs i
    have x4 := W4.xor_n ho (getD_ok hW (n - 4 + i))
    obtain ⟨w1, c1, c2, c3⟩ := b.drew.stC (i := i) (by rw [wv_len, upL_len]; exact hi) (.int .u32 ((((subW4 f step st i).xor (W.getD (n - 4 + i) z4)).n : Nat) : Int))
    rw [upL_set (f := fun c => (subW4 f step st c).xor (W.getD (n - 4 + c) z4)) hi] at c2
    have c3 : Upd (· = gx) w w1 := c3.predrew
    obtain ⟨w2, g1, g2, g3⟩ := ih (i + 1) fu w1 (by omega) (by omega) (bw.upd c3 h1) (bt.upd c3 h3) (bs.upd c3 h2) c2
    refine ⟨w2, ?_, g2, c3.trans' g3 fun _ _ e => e⟩
    have e1 : IntKind.i64.wrap ((i : Int) + 1) = ((i + 1 : Nat) : Int) := by rw [w64 (by omega) (by omega)]; rfl
    have c1' : stC ((⟨gx, 0, none⟩ : Addr).add (i * 1)) (.int .u32 ((((subW4 f step st i).xor (W.getD (n - 4 + i) z4)).n : Nat) : Int)) w.drew = some w1 := by
      rw [add_lit, Nat.mul_one, Nat.zero_add]; exact c1
    have eu : rijndael_through_l3 K (fu + 1) = rijndael_through_l3_b K (rijndael_through_l3 K fu) := rfl
    rw [eu]
    unfold rijndael_through_l3_b
    rw [if_pos (decide_eq_true (by omega)), if_pos (nat_in hi), Option.bind_some, m1, if_pos (nat_in j1), Option.bind_some, m2, if_pos (nat_in j2), Option.bind_some, e3s, m3, if_pos (nat_in j3), Option.bind_some, Option.bind_some, erk, if_pos (nat_in (show n - 4 + i < n by omega)), Int.toNat_natCast, Int.toNat_natCast, Int.toNat_natCast, Int.toNat_natCast, Int.toNat_natCast,
      l0, Option.bind_some, p0, if_pos (nat_in q0), Int.toNat_natCast, t0, Option.bind_some, l1, Option.bind_some, p1, if_pos (nat_in q1), Int.toNat_natCast, t1, Option.bind_some, l2, Option.bind_some, p2, if_pos (nat_in q2), Int.toNat_natCast, t2, Option.bind_some, l3, Option.bind_some, p3, if_pos (nat_in q3), Int.toNat_natCast, t3, Option.bind_some, lk, Option.bind_some, if_pos (nat_in hi), em]
    show (stC _ (.int .u32 (bits .xor .u32 (((subW4 f step st i).n : Nat) : Int) (((W.getD (n - 4 + i) z4).n : Nat) : Int))) w.drew).bind _ = _
    rw [x4, c1', Option.bind_some, e1, g1]

theorem through_ok {K : Nat} {W : List W4} (hW : ∀ x ∈ W, x.ok) {n : Nat} (hn : W.length = n) (hn4 : n % 4 = 0) (hn8 : 8 ≤ n) (hn1 : n ≤ 1000) {t gw : Nat} {step : Nat} (hstep : step ≤ 3) {f : Nat → Nat} (hf : ∀ i, i < 256 → f i < 256) {Y : W4} {o lo : Nat} (hT : ∀ {w : World}, Bk 130 w t tabsL → ∀ {r i : Nat}, r < 4 → i < 256 → ldI .u32 ((((⟨t, 0, none⟩ : Addr).add o).add (r * 256)).add (i * 1)) w = some (((W4.rr r (mulW (f i) Y)).n : Nat) : Int)) (hL : ∀ {w : World}, Bk 130 w t tabsL → ∀ {i : Nat}, i < 256 → ldI .u8 (((⟨t, 0, none⟩ : Addr).add lo).add (i * 1)) w = some ((f i : Nat) : Int)) (hK : 300 ≤ K) {st : List W4} (hs : ∀ x ∈ st, x.ok) (hl : st.length = 4) {w : World} (bw : Bk 50 w gw (wc W n)) (bt : Bk 130 w t tabsL) :
    ∃ w', rijndael_through K (wv st).toArray ⟨some ⟨gw, 0, none⟩, n, n⟩ (some ((⟨t, 0, none⟩ : Addr).add o)) (some ((⟨t, 0, none⟩ : Addr).add lo)) (step : Int) w = some (((wv (throughF W f Y step st)).toArray, ()), w') ∧ Upd none_ w w' := by
  obtain ⟨w1, n1, b1, u1, z1⟩ := newB_ok (wv st).toArray 135 w
  obtain ⟨w2, n2, b2, u2, z2⟩ := newB_ok z135 135 w1
  have b1 : Bk 135 w1 w.heap.size (wv st) := b1
  have b2 : Bk 135 w2 w1.heap.size (wv (fourL fun _ => z4)) := b2
  have hgw := bw.lt
  have hgt := bt.lt
  have b12 := b1.upd0 u2
  have e0 : wv (upL (fun c => (st.getD c z4).xor (W.getD c z4)) (fun c => st.getD c z4) 0) = wv st := by rw [upL_zero, fourL_self hl]
  rw [← e0] at b12
  obtain ⟨w3, a3, b3, u3⟩ := thr_l0 (K := K) hW hn hn8 (t2 := some ((⟨t, 0, none⟩ : Addr).add o)) (last := some ((⟨t, 0, none⟩ : Addr).add lo)) (stp := (step : Int)) (gs := w.heap.size) (a10 := ⟨w1.heap.size, 0, none⟩) hs (by omega) 4 0 K w2 rfl (by omega) ((bw.upd0 u1).upd0 u2) b12
  have a3 : rijndael_through_l0 K K ⟨some ⟨gw, 0, none⟩, n, n⟩ (some ((⟨t, 0, none⟩ : Addr).add o)) (some ((⟨t, 0, none⟩ : Addr).add lo)) (step : Int) ⟨w.heap.size, 0, none⟩ ⟨w1.heap.size, 0, none⟩ 0 w2 = _ := a3
  have q3 : Upd none_ w w3 := (u1.and0 u2).trans' u3 fun k hk e => by omega
  have hz3 := u3.size
  obtain ⟨w4, a4, b4, u4⟩ := thr_l1 (K := K) hW hn hn4 hn8 hn1 hstep hf hT hK (last := some ((⟨t, 0, none⟩ : Addr).add lo)) (gs := w.heap.size) (a10 := ⟨w1.heap.size, 0, none⟩) (by omega) (by omega) ((n - 8) / 4) 4 K w3 _ (by omega) rfl (Nat.le_refl _) (by omega) (addK_ok hs fun c _ => getD_ok hW c) (fourL_len _) (bw.upd0 q3) (bt.upd0 q3) b3
  have a4 : rijndael_through_l1 K K ⟨some ⟨gw, 0, none⟩, n, n⟩ (some ((⟨t, 0, none⟩ : Addr).add o)) (some ((⟨t, 0, none⟩ : Addr).add lo)) (step : Int) ⟨w.heap.size, 0, none⟩ ⟨w1.heap.size, 0, none⟩ ((n - 4 : Nat) : Int) 4 w3 = _ := a4
  have q4 : Upd none_ w w4 := q3.trans' u4 fun k hk e => by omega
  have hz4 := u4.size
  obtain ⟨w5, n5, b5, u5, z5⟩ := newB_ok z135 135 w4
  have b5 : Bk 135 w5 w4.heap.size (wv (fourL fun _ => z4)) := b5
  obtain ⟨s2, hs2⟩ : ∃ s2, s2 = rounds W f Y step ((n - 8) / 4) 4 (addK st fun c => W.getD c z4) := ⟨_, rfl⟩
  have hs2o : ∀ x ∈ s2, x.ok := by rw [hs2]; exact rounds_ok hW hf Y step _ _ (addK_ok hs fun c _ => getD_ok hW c)
  have hs2l : s2.length = 4 := by rw [hs2]; exact rounds_len W f Y step _ _ (fourL_len _)
  rw [← hs2] at b4
  rw [← upL_zero (fun c => (subW4 f step s2 c).xor (W.getD (n - 4 + c) z4))] at b5
  have q5 := q4.and0 u5
  obtain ⟨w6, a6, b6, u6⟩ := thr_l3 (K := K) hW hn hn8 hn1 hstep hf hL (gs := w.heap.size) (gx := w4.heap.size) (a10 := ⟨w1.heap.size, 0, none⟩) hs2o hs2l (by omega) (by omega) (by omega) 4 0 K w5 rfl (by omega) (bw.upd0 q5) (bt.upd0 q5) (b4.upd0 u5) b5
  have a6 : rijndael_through_l3 K K ⟨some ⟨gw, 0, none⟩, n, n⟩ (some ((⟨t, 0, none⟩ : Addr).add lo)) (step : Int) ⟨w.heap.size, 0, none⟩ ⟨w1.heap.size, 0, none⟩ ((n - 4 : Nat) : Int) ⟨w4.heap.size, 0, none⟩ 0 w5 = _ := a6
  have q6 : Upd none_ w w6 := q5.trans' u6 fun k hk e => by omega
  have hF : lastR W f step (n - 4) s2 = throughF W f Y step st := by rw [hs2]; unfold throughF; rw [hn]
  rw [hF] at b6
  have hl6 := b6.ldA (i := 0) (n := 4) (by rw [wv_len, throughF_len]; decide)
  rw [List.drop_zero, List.take_of_length_le (by rw [wv_len, throughF_len]; decide)] at hl6
  have hz5 := u5.size
  have b26 : Bk 135 w6 w1.heap.size (wv (fourL fun _ => z4)) := (((b2.upd u3 (by omega)).upd u4 (by omega)).upd0 u5).upd u6 (by omega)
  obtain ⟨w7, a7, b7, u7⟩ := b26.stA (o := 0) (vs := (wv (throughF W f Y step st)).toArray) (by rw [List.size_toArray, wv_len, throughF_len, wv_len, fourL_len]; decide) (fun v hv => wv_one _ v hv)
  have b7 : Bk 135 w7 w1.heap.size (seg (wv (fourL fun _ => z4)) 0 (wv (throughF W f Y step st))) := b7
  rw [seg_all (by rw [wv_len, throughF_len, wv_len, fourL_len])] at b7
  have hl7 := b7.ldA (i := 0) (n := 4) (by rw [wv_len, throughF_len]; decide)
  rw [List.drop_zero, List.take_of_length_le (by rw [wv_len, throughF_len]; decide)] at hl7
  refine ⟨w7, ?_, q6.trans' u7 fun k hk e => by omega⟩
  have en : IntKind.i64.wrap (((n : Nat) : Int) - 4) = ((n - 4 : Nat) : Int) := by rw [w64 (by omega) (by omega)]; omega
  unfold rijndael_through
  rw [n1, bnd_ok, n2, bnd_ok, a3, bnd_ok, en, a4, bnd_ok, n5, bnd_ok, a6, bnd_ok, hl6, Option.bind_some, if_pos (by rw [List.size_toArray, wv_len, throughF_len]), a7, Option.bind_some, hl7, Option.bind_some]

/-- the cipher, and back -/
def encF (S st : List W4) : List W4 := throughF S sx encY 1 st
def decF (S st : List W4) : List W4 := throughF (backS S) ux decY 3 st

theorem encrypt_ok {K : Nat} (hK : 300 ≤ K) {w : World} {g t gw gb kl : Nat} {S : List W4} (k : KeyAt w g t gw gb kl S) {st : List W4} (hs : ∀ x ∈ st, x.ok) (hl : st.length = 4) :
    ∃ w', rijndael_tables_encrypt K (some ⟨t, 0, none⟩) ⟨some ⟨gw, 0, none⟩, S.length, S.length⟩ (bl st).toArray w = some (((bl (encF S st)).toArray, ()), w') ∧ Upd none_ w w' := by
  have hkl := k.len
  have hk := k.kl
  obtain ⟨w1, n1, b1, u1, z1⟩ := newB_ok (bl st).toArray 42 w
  obtain ⟨w2, n2, b2, u2, z2⟩ := newB_ok z42 42 w1
  have b1 : Bk 42 w1 w.heap.size (bl st) := b1
  have b2 : Bk 42 w2 w1.heap.size (bl (fourL fun _ => z4)) := b2
  have q2 : Upd none_ w w2.drew := (u1.and0 u2).drew
  have hl1 := (b1.upd0 u2).drew.ldA (i := 0) (n := 16) (by rw [bl_len hl]; decide)
  rw [List.drop_zero, List.take_of_length_le (by rw [bl_len hl]; decide)] at hl1
  obtain ⟨w3, a3, u3⟩ := load_ok hK hs hl w2.drew
  have q3 := q2.and0 u3
  obtain ⟨w4, a4, u4⟩ := through_ok (K := K) k.ok rfl (by omega) (by omega) (by omega) (t := t) (gw := gw) (step := 1) (by decide) (f := sx) (fun i hi => sx_lt hi) (Y := encY) (o := 512) (lo := 0) (fun b _ _ => tb_c b) (fun b _ => tb_s b) hK hs hl (k.bw.upd0 q3) (k.bt.upd0 q3)
  have q4 := q3.and0 u4
  have ho : ∀ x ∈ encF S st, x.ok := throughF_ok k.ok (fun i hi => sx_lt hi) encY 1 hs
  have hel : (encF S st).length = 4 := throughF_len _ _ _ _ _
  obtain ⟨w5, a5, u5⟩ := block_ok hK ho hel w4
  have u25 : Upd none_ w2 w5 := ((u3.predrew).and0 u4).and0 u5
  obtain ⟨w6, a6, b6, u6⟩ := (b2.upd0 u25).stA (o := 0) (vs := (bl (encF S st)).toArray) (by rw [List.size_toArray, bl_len hel, bl_len (fourL_len _)]; decide) (fun v hv => bl_one _ v hv)
  have b6 : Bk 42 w6 w1.heap.size (seg (bl (fourL fun _ => z4)) 0 (bl (encF S st))) := b6
  rw [seg_all (by rw [bl_len hel, bl_len (fourL_len _)])] at b6
  have hl6 := b6.ldA (i := 0) (n := 16) (by rw [bl_len hel]; decide)
  rw [List.drop_zero, List.take_of_length_le (by rw [bl_len hel]; decide)] at hl6
  refine ⟨w6, ?_, (q4.and0 u5).trans' u6 fun k hk e => by have := u1.size; omega⟩
  unfold rijndael_tables_encrypt
  rw [n1, bnd_ok, n2, bnd_ok, Option.bind_some, Option.bind_some, hl1, Option.bind_some, a3, bnd_ok]
  have a4 : rijndael_through K (wv st).toArray ⟨some ⟨gw, 0, none⟩, S.length, S.length⟩ (some ((⟨t, 0, none⟩ : Addr).add 512)) (some ((⟨t, 0, none⟩ : Addr).add 0)) 1 w3 = some (((wv (encF S st)).toArray, ()), w4) := a4
  rw [a4, bnd_ok, a5, bnd_ok, if_pos (by rw [List.size_toArray, bl_len hel]), a6, Option.bind_some, hl6, Option.bind_some]

theorem decrypt_ok {K : Nat} (hK : 300 ≤ K) {w : World} {g t gw gb kl : Nat} {S : List W4} (k : KeyAt w g t gw gb kl S) {st : List W4} (hs : ∀ x ∈ st, x.ok) (hl : st.length = 4) :
    ∃ w', rijndael_tables_decrypt K (some ⟨t, 0, none⟩) ⟨some ⟨gb, 0, none⟩, S.length, S.length⟩ (bl st).toArray w = some (((bl (decF S st)).toArray, ()), w') ∧ Upd none_ w w' := by
  have hkl := k.len
  have hk := k.kl
  obtain ⟨w1, n1, b1, u1, z1⟩ := newB_ok (bl st).toArray 42 w
  obtain ⟨w2, n2, b2, u2, z2⟩ := newB_ok z42 42 w1
  have b1 : Bk 42 w1 w.heap.size (bl st) := b1
  have b2 : Bk 42 w2 w1.heap.size (bl (fourL fun _ => z4)) := b2
  have q2 : Upd none_ w w2.drew := (u1.and0 u2).drew
  have hl1 := (b1.upd0 u2).drew.ldA (i := 0) (n := 16) (by rw [bl_len hl]; decide)
  rw [List.drop_zero, List.take_of_length_le (by rw [bl_len hl]; decide)] at hl1
  obtain ⟨w3, a3, u3⟩ := load_ok hK hs hl w2.drew
  have q3 := q2.and0 u3
  have hbo : ∀ x ∈ backS S, x.ok := fun x hx => by
    obtain ⟨j, _, rfl⟩ := List.mem_map.1 hx
    exact backV_ok k.ok j
  obtain ⟨w4, a4, u4⟩ := through_ok (K := K) hbo (backS_len S) (by omega) (by omega) (by omega) (t := t) (gw := gb) (step := 3) (by decide) (f := ux) (fun i hi => ux_lt hi) (Y := decY) (o := 1536) (lo := 256) (fun b _ _ => tb_d b) (fun b _ => tb_u b) hK hs hl (k.bb.upd0 q3) (k.bt.upd0 q3)
  have q4 := q3.and0 u4
  have ho : ∀ x ∈ decF S st, x.ok := throughF_ok hbo (fun i hi => ux_lt hi) decY 3 hs
  have hel : (decF S st).length = 4 := throughF_len _ _ _ _ _
  obtain ⟨w5, a5, u5⟩ := block_ok hK ho hel w4
  have u25 : Upd none_ w2 w5 := ((u3.predrew).and0 u4).and0 u5
  obtain ⟨w6, a6, b6, u6⟩ := (b2.upd0 u25).stA (o := 0) (vs := (bl (decF S st)).toArray) (by rw [List.size_toArray, bl_len hel, bl_len (fourL_len _)]; decide) (fun v hv => bl_one _ v hv)
  have b6 : Bk 42 w6 w1.heap.size (seg (bl (fourL fun _ => z4)) 0 (bl (decF S st))) := b6
  rw [seg_all (by rw [bl_len hel, bl_len (fourL_len _)])] at b6
  have hl6 := b6.ldA (i := 0) (n := 16) (by rw [bl_len hel]; decide)
  rw [List.drop_zero, List.take_of_length_le (by rw [bl_len hel]; decide)] at hl6
  refine ⟨w6, ?_, (q4.and0 u5).trans' u6 fun k hk e => by have := u1.size; omega⟩
  unfold rijndael_tables_decrypt
  rw [n1, bnd_ok, n2, bnd_ok, Option.bind_some, Option.bind_some, hl1, Option.bind_some, a3, bnd_ok]
  have a4 : rijndael_through K (wv st).toArray ⟨some ⟨gb, 0, none⟩, S.length, S.length⟩ (some ((⟨t, 0, none⟩ : Addr).add 1536)) (some ((⟨t, 0, none⟩ : Addr).add 256)) 3 w3 = some (((wv (decF S st)).toArray, ()), w4) := a4
  rw [a4, bnd_ok, a5, bnd_ok, if_pos (by rw [List.size_toArray, bl_len hel]), a6, Option.bind_some, hl6, Option.bind_some]

end Go.Sh

/- Package rijndael: a block of bytes under a key; blocks compared. -/
set_option linter.unusedVariables false
set_option maxRecDepth 100000
namespace Go.Sh
open Go.Fw Go.Gf Go.RowKit Go.Proofs.Tryd

/-- sixteen bytes -/
def B16 (B : List Int) : Prop := B.length = 16 ∧ ∀ z ∈ B, InK .u8 z
/-- a block of bytes as words -/
def wsB (B : List Int) : List W4 := keyS B 4
theorem wsB_ok {B : List Int} (h : B16 B) : ∀ x ∈ wsB B, x.ok := keyS_ok h.2 4
theorem wsB_len (B : List Int) : (wsB B).length = 4 := keyS_len B 4
theorem roundB_ws {B : List Int} (h : B16 B) : roundB (wsB B) = B := key_round h.2 h.1
def encB (S : List W4) (B : List Int) : List Int := roundB (encF S (wsB B))
def decB (S : List W4) (B : List Int) : List Int := roundB (decF S (wsB B))
theorem backS_ok {S : List W4} (h : ∀ x ∈ S, x.ok) : ∀ x ∈ backS S, x.ok := fun x hx => by
  obtain ⟨j, _, rfl⟩ := List.mem_map.1 hx
  exact backV_ok h j
theorem encB_16 {S : List W4} (hS : ∀ x ∈ S, x.ok) {B : List Int} (h : B16 B) : B16 (encB S B) :=
  ⟨by unfold encB encF; rw [roundB_len, throughF_len], roundB_in (throughF_ok hS (fun i hi => sx_lt hi) encY 1 (wsB_ok h))⟩
theorem decB_16 {S : List W4} (hS : ∀ x ∈ S, x.ok) {B : List Int} (h : B16 B) : B16 (decB S B) :=
  ⟨by unfold decB decF; rw [roundB_len, throughF_len], roundB_in (throughF_ok (backS_ok hS) (fun i hi => ux_lt hi) decY 3 (wsB_ok h))⟩

theorem encT_ok {K : Nat} (hK : 300 ≤ K) {w : World} {g t gw gb kl : Nat} {S : List W4} (k : KeyAt w g t gw gb kl S) {B : List Int} (h : B16 B) :
    ∃ w', rijndael_tables_encrypt K (some ⟨t, 0, none⟩) ⟨some ⟨gw, 0, none⟩, S.length, S.length⟩ (ints .u8 B).toArray w = some (((ints .u8 (encB S B)).toArray, ()), w') ∧ Upd none_ w w' := by
  have := encrypt_ok hK k (wsB_ok h) (wsB_len B)
  unfold bl at this
  rw [roundB_ws h] at this
  exact this
theorem decT_ok {K : Nat} (hK : 300 ≤ K) {w : World} {g t gw gb kl : Nat} {S : List W4} (k : KeyAt w g t gw gb kl S) {B : List Int} (h : B16 B) :
    ∃ w', rijndael_tables_decrypt K (some ⟨t, 0, none⟩) ⟨some ⟨gb, 0, none⟩, S.length, S.length⟩ (ints .u8 B).toArray w = some (((ints .u8 (decB S B)).toArray, ()), w') ∧ Upd none_ w w' := by
  have := decrypt_ok hK k (wsB_ok h) (wsB_len B)
  unfold bl at this
  rw [roundB_ws h] at this
  exact this

theorem KeyAt.ldT {w : World} {g t gw gb kl : Nat} {S : List W4} (k : KeyAt w g t gw gb kl S) : ldP ((⟨g, 0, none⟩ : Addr).add 7) w = some (some ⟨t, 0, none⟩) := by
  rw [add_lit]; exact k.b.ldP (i := 0 + 7) rfl

theorem ints16 {B : List Int} (h : B16 B) : (ints .u8 B).length = 16 := by rw [ints_length, h.1]
theorem size16 {B : List Int} (h : B16 B) : ((ints .u8 B).toArray).size = 16 := by rw [List.size_toArray, ints16 h]
theorem ldA16 {e : TypeId} {w : World} {g : Nat} {B : List Int} (b : Bk e w g (ints .u8 B)) (h : B16 B) : ldA 16 ⟨g, 0, none⟩ w = some (ints .u8 B).toArray := by
  have hl := b.ldA (i := 0) (n := 16) (by rw [ints16 h]; decide)
  rw [List.drop_zero, List.take_of_length_le (by rw [ints16 h]; decide)] at hl
  exact hl
theorem stA16 {e : TypeId} {w : World} {g : Nat} {cs : List Value} (b : Bk e w g cs) (hc : cs.length = 16) {B : List Int} (h : B16 B) :
    ∃ w', stA ⟨g, 0, none⟩ (ints .u8 B).toArray w = some w' ∧ Bk e w' g (ints .u8 B) ∧ Upd (· = g) w w' := by
  obtain ⟨w7, a7, b7, u7⟩ := b.stA (o := 0) (vs := (ints .u8 B).toArray) (by rw [size16 h, hc]; decide) (fun v hv => ints_one v hv)
  have b7 : Bk e w7 g (seg cs 0 (ints .u8 B)) := b7
  rw [seg_all (by rw [ints16 h, hc])] at b7
  exact ⟨w7, a7, b7, u7⟩
def zero16 : List Int := List.replicate 16 0
theorem zero16_ok : B16 zero16 := ⟨rfl, fun z hz => by rw [List.eq_of_mem_replicate hz]; exact ⟨by decide, by decide⟩⟩
theorem z42_zero : z42.toList = ints .u8 zero16 := rfl
theorem z42_len : z42.toList.length = 16 := rfl
theorem built42n : prog.built 42 [] = some (ints .u8 zero16).toArray := by kernel_rfl

theorem Encrypt_err {K : Nat} {k0 : Option Addr} {s : Sl} {e : Int} (he : e ≠ 0) {w : World} (hs : ∀ w', Upd none_ w w' → rijndael_Key_schedule k0 false w' = some ((s, e, ()), w')) {B : List Int} :
    ∃ w', rijndael_Key_Encrypt K k0 (ints .u8 B).toArray w = some (((ints .u8 zero16).toArray, e, ()), w') ∧ Upd none_ w w' := by
  obtain ⟨w1, n1, b1, u1, z1⟩ := newB_ok (ints .u8 B).toArray 42 w
  obtain ⟨w2, n2, b2, u2, z2⟩ := newB_ok z42 42 w1
  have q2 := u1.and0 u2
  obtain ⟨w3, a3, b3, u3⟩ := stA16 b2 z42_len zero16_ok
  refine ⟨w3, ?_, q2.trans' u3 fun k hk e => by have := u1.size; omega⟩
  unfold rijndael_Key_Encrypt
  rw [n1, bnd_ok, n2, bnd_ok, hs w2 q2, bnd_ok, if_pos (bne_iff_ne.2 he), built42n, Option.bind_some, if_pos (size16 zero16_ok), a3, Option.bind_some, ldA16 b3 zero16_ok, Option.bind_some]
theorem Decrypt_err {K : Nat} {k0 : Option Addr} {s : Sl} {e : Int} (he : e ≠ 0) {w : World} (hs : ∀ w', Upd none_ w w' → rijndael_Key_schedule k0 true w' = some ((s, e, ()), w')) {B : List Int} :
    ∃ w', rijndael_Key_Decrypt K k0 (ints .u8 B).toArray w = some (((ints .u8 zero16).toArray, e, ()), w') ∧ Upd none_ w w' := by
  obtain ⟨w1, n1, b1, u1, z1⟩ := newB_ok (ints .u8 B).toArray 42 w
  obtain ⟨w2, n2, b2, u2, z2⟩ := newB_ok z42 42 w1
  have q2 := u1.and0 u2
  obtain ⟨w3, a3, b3, u3⟩ := stA16 b2 z42_len zero16_ok
  refine ⟨w3, ?_, q2.trans' u3 fun k hk e => by have := u1.size; omega⟩
  unfold rijndael_Key_Decrypt
  rw [n1, bnd_ok, n2, bnd_ok, hs w2 q2, bnd_ok, if_pos (bne_iff_ne.2 he), built42n, Option.bind_some, if_pos (size16 zero16_ok), a3, Option.bind_some, ldA16 b3 zero16_ok, Option.bind_some]

theorem Encrypt_ok {K : Nat} (hK : 300 ≤ K) {w : World} {g t gw gb kl : Nat} {S : List W4} (k : KeyAt w g t gw gb kl S) {B : List Int} (h : B16 B) :
    ∃ w', rijndael_Key_Encrypt K (some ⟨g, 0, none⟩) (ints .u8 B).toArray w = some (((ints .u8 (encB S B)).toArray, 0, ()), w') ∧ Upd none_ w w' := by
  obtain ⟨w1, n1, b1, u1, z1⟩ := newB_ok (ints .u8 B).toArray 42 w
  obtain ⟨w2, n2, b2, u2, z2⟩ := newB_ok z42 42 w1
  have b1 : Bk 42 w1 w.heap.size (ints .u8 B) := b1
  have q2 := u1.and0 u2
  have k2 := k.upd0 q2
  have l1 := ldA16 (b1.upd0 u2).drew h
  have lt := (k.upd0 q2.drew).ldT
  obtain ⟨w3, a3, u3⟩ := encT_ok hK (k.upd0 q2.drew) h
  have ho := encB_16 k.ok h
  obtain ⟨w4, a4, b4, u4⟩ := stA16 (b2.upd0 u3.predrew) z42_len ho
  refine ⟨w4, ?_, (q2.drew.and0 u3).trans' u4 fun k hk e => by have := u1.size; omega⟩
  unfold rijndael_Key_Encrypt
  rw [n1, bnd_ok, n2, bnd_ok, sched_ok k2, bnd_ok, if_neg (show ¬ ((0 : Int) != 0) = true by decide), Option.bind_some, lt, Option.bind_some, l1, Option.bind_some]
  rw [if_neg (show ¬ false = true by decide), a3, bnd_ok, if_pos (size16 ho), a4, Option.bind_some, ldA16 b4 ho, Option.bind_some]

theorem Decrypt_ok {K : Nat} (hK : 300 ≤ K) {w : World} {g t gw gb kl : Nat} {S : List W4} (k : KeyAt w g t gw gb kl S) {B : List Int} (h : B16 B) :
    ∃ w', rijndael_Key_Decrypt K (some ⟨g, 0, none⟩) (ints .u8 B).toArray w = some (((ints .u8 (decB S B)).toArray, 0, ()), w') ∧ Upd none_ w w' := by
  obtain ⟨w1, n1, b1, u1, z1⟩ := newB_ok (ints .u8 B).toArray 42 w
  obtain ⟨w2, n2, b2, u2, z2⟩ := newB_ok z42 42 w1
  have b1 : Bk 42 w1 w.heap.size (ints .u8 B) := b1
  have q2 := u1.and0 u2
  have k2 := k.upd0 q2
  have l1 := ldA16 (b1.upd0 u2).drew h
  have lt := (k.upd0 q2.drew).ldT
  obtain ⟨w3, a3, u3⟩ := decT_ok hK (k.upd0 q2.drew) h
  have ho := decB_16 k.ok h
  obtain ⟨w4, a4, b4, u4⟩ := stA16 (b2.upd0 u3.predrew) z42_len ho
  refine ⟨w4, ?_, (q2.drew.and0 u3).trans' u4 fun k hk e => by have := u1.size; omega⟩
  unfold rijndael_Key_Decrypt
  rw [n1, bnd_ok, n2, bnd_ok, sched_ok k2, bnd_ok, if_neg (show ¬ ((0 : Int) != 0) = true by decide), Option.bind_some, lt, Option.bind_some, l1, Option.bind_some]
  rw [if_pos (show true = true from rfl), a3, bnd_ok, if_pos (size16 ho), a4, Option.bind_some, ldA16 b4 ho, Option.bind_some]

/-! ### blocks compared -/
theorem und42 : prog.underlying 42 = some (.array 16 5) := by kernel_rfl
theorem und5 : prog.underlying 5 = some (.int .u8) := by kernel_rfl
theorem cells5 : prog.cellsOf 5 = 1 := by kernel_rfl
theorem plain5 : prog.plainKey 5 = true := by kernel_rfl
theorem info5 : ∃ i, prog.info? 5 = some i := by
  obtain ⟨i, hi, _⟩ := sliceB.info
  exact ⟨i, hi⟩
theorem guard42 : prog.eqGuardType prog.depth 42 = false := by kernel_rfl

theorem eqItems_u8 {A B : List Int} (d : Nat) (w : World) : ∀ (is : List Nat), (∀ i ∈ is, i < A.length ∧ i < B.length) →
    (Op.eqItems (d + 1) 5 1 (ints .u8 A).toArray (ints .u8 B).toArray is).run prog w = .ok (is.all fun i => A.getD i 0 == B.getD i 0) w
  | [], _ => by simp [Op.eqItems]
  | i :: is, h => by
    have hi := h i (List.mem_cons_self ..)
    have ga : (ints .u8 A).toArray[i * 1]? = some (.int .u8 (A.getD i 0)) := by
      rw [Nat.mul_one, List.getElem?_toArray, List.getD_eq_getElem?_getD, List.getElem?_eq_getElem hi.1]; exact ints_get hi.1
    have gb : (ints .u8 B).toArray[i * 1]? = some (.int .u8 (B.getD i 0)) := by
      rw [Nat.mul_one, List.getElem?_toArray, List.getD_eq_getElem?_getD, List.getElem?_eq_getElem hi.2]; exact ints_get hi.2
    have ih := eqItems_u8 (A := A) (B := B) d w is fun j hj => h j (List.mem_cons_of_mem _ hj)
    have e1 := run_equalIn_int (P := prog) (w := w) d 5 .u8 .u8 (A.getD i 0) (B.getD i 0) und5
    unfold Op.eqItems
    rw [Sem.run_bind, run_part_plain w plain5 ga, Result.andThen_ok, Sem.run_bind, run_part_plain w plain5 gb, Result.andThen_ok, Sem.run_bind, e1, Result.andThen_ok, List.all_cons]
    cases A.getD i 0 == B.getD i 0 with
    | false => rw [if_pos (show (!false) = true from rfl), Sem.run_pure]; rfl
    | true => rw [if_neg (show ¬ (!true) = true by decide), ih]; rfl

theorem all16 {A B : List Int} (hA : A.length = 16) (hB : B.length = 16) : ((List.range 16).all fun i => A.getD i 0 == B.getD i 0) = decide (A = B) := by
  by_cases h : A = B
  · subst h; rw [decide_eq_true rfl, List.all_eq_true]; intro i _; exact beq_self_eq_true _
  · rw [decide_eq_false h]
    rw [Bool.eq_false_iff]
    intro e
    apply h
    rw [List.all_eq_true] at e
    apply List.ext_getElem (by omega)
    intro i h1 h2
    have := eq_of_beq (e i (List.mem_range.2 (by omega)))
    rw [List.getD_eq_getElem?_getD, List.getD_eq_getElem?_getD, List.getElem?_eq_getElem h1, List.getElem?_eq_getElem h2] at this
    exact this

theorem eq42 {A B : List Int} (hA : A.length = 16) (hB : B.length = 16) (ox oy : Operand) (w : World) :
    bop prog .eql 42 ox oy (.agg (ints .u8 A).toArray) (.agg (ints .u8 B).toArray) w = some (.bool (decide (A = B)), w) := by
  obtain ⟨i5, hi5⟩ := info5
  have h1 := eqItems_u8 (A := A) (B := B) 9998 w (List.range 16) fun i hi => by have := List.mem_range.1 hi; omega
  rw [all16 hA hB] at h1
  have h2 := run_equalIn_array (P := prog) w 9999 (t := 42) (e := 5) (n := 16) (ints .u8 A).toArray (ints .u8 B).toArray und42 hi5
  rw [cells5, h1] at h2
  unfold bop
  simp only [eqGuard, binOp, Op.equal, Op.maxDepth, Sem.run_bind, run_program, Result.andThen_ok, guard42, h2]
  simp [h2]

end Go.Sh

/- Package rijndael: a stream begins, a block as a number and n more, how much may be used. -/
set_option linter.unusedVariables false
set_option maxRecDepth 100000
namespace Go.Sh
open Go.Fw Go.Gf Go.RowKit Go.Proofs.Tryd

theorem Bk.apart {e e' : TypeId} (h : e ≠ e') {w : World} {g g' : Nat} {cs cs' : List Value} (b : Bk e w g cs) (b' : Bk e' w g' cs') : g ≠ g' := fun he => by
  subst he
  unfold Bk at b b'
  rw [b] at b'
  simp only [Option.some.injEq, Obj.cells.injEq] at b'
  exact h b'.2.1

/-! ### a stream's block -/
def streamC (g : Option Addr) (B : List Int) (a : Nat) : List Value := .pointer g :: (ints .u8 B ++ [.int .u64 ((a : Nat) : Int)])
theorem streamC_len {g : Option Addr} {B : List Int} (h : B16 B) (a : Nat) : (streamC g B a).length = 18 := by
  unfold streamC; rw [List.length_cons, List.length_append, ints16 h]; rfl
theorem streamC_at {g : Option Addr} {B : List Int} (h : B16 B) (a : Nat) : (streamC g B a)[17]? = some (.int .u64 ((a : Nat) : Int)) := by
  unfold streamC
  rw [List.getElem?_cons_succ, List.getElem?_append_right (by rw [ints16 h]; decide), ints16 h]; rfl
theorem streamC_set {g : Option Addr} {B : List Int} (h : B16 B) (a b : Nat) : (streamC g B a).set 17 (.int .u64 ((b : Nat) : Int)) = streamC g B b := by
  unfold streamC
  rw [List.set_cons_succ, List.set_append_right _ _ (by rw [ints16 h]; decide), ints16 h]; rfl
theorem streamC_start {g : Option Addr} {B : List Int} (h : B16 B) (a : Nat) : ((streamC g B a).drop 1).take 16 = ints .u8 B := by
  unfold streamC
  rw [List.drop_succ_cons, List.drop_zero, List.take_append_of_le_length (by rw [ints16 h]; decide), List.take_of_length_le (by rw [ints16 h]; decide)]
theorem st_key {w : World} {s : Nat} {g : Option Addr} {B : List Int} {a : Nat} (b : Bk 107 w s (streamC g B a)) : ldP ((⟨s, 0, none⟩ : Addr).add 0) w = some g := by rw [add_lit]; exact b.ldP (i := 0 + 0) rfl
theorem st_at {w : World} {s : Nat} {g : Option Addr} {B : List Int} {a : Nat} (b : Bk 107 w s (streamC g B a)) (h : B16 B) : ldI .u64 ((⟨s, 0, none⟩ : Addr).add 17) w = some ((a : Nat) : Int) := by rw [add_lit]; exact b.ldI (i := 0 + 17) (streamC_at h a)
theorem st_start {w : World} {s : Nat} {g : Option Addr} {B : List Int} {a : Nat} (b : Bk 107 w s (streamC g B a)) (h : B16 B) : ldA 16 ((⟨s, 0, none⟩ : Addr).add 1) w = some (ints .u8 B).toArray := by
  rw [add_lit]
  have := b.ldA (i := 0 + 1) (n := 16) (by rw [streamC_len h]; decide)
  rw [Nat.zero_add, streamC_start h] at this
  exact this
theorem st_set {w : World} {s : Nat} {g : Option Addr} {B : List Int} {a : Nat} (b : Bk 107 w s (streamC g B a)) (h : B16 B) (a' : Nat) :
    ∃ w', stC ((⟨s, 0, none⟩ : Addr).add 17) (.int .u64 ((a' : Nat) : Int)) w = some w' ∧ Bk 107 w' s (streamC g B a') ∧ Upd (· = s) w w' := by
  obtain ⟨w1, c1, c2, c3⟩ := b.stC (i := 17) (by rw [streamC_len h]; decide) (.int .u64 ((a' : Nat) : Int))
  rw [streamC_set h] at c2
  exact ⟨w1, by rw [add_lit, Nat.zero_add]; exact c1, c2, c3⟩

theorem built107 (k0 : Option Addr) (a b c d e f g h i j k l m n o p : Value) :
    prog.built 107 [(0, (.pointer k0)), (1, (.agg #[a, b, c, d, e, f, g, h, i, j, k, l, m, n, o, p]))] = some #[.pointer k0, a, b, c, d, e, f, g, h, i, j, k, l, m, n, o, p, .int .u64 0] := by kernel_rfl
theorem built107B (k0 : Option Addr) {B : List Int} (h : B16 B) : prog.built 107 [(0, (.pointer k0)), (1, (.agg (ints .u8 B).toArray))] = some (streamC k0 B 0).toArray := by
  obtain ⟨hl, _⟩ := h
  match B, hl with
  | [a, b, c, d, e, f, g, h, i, j, k, l, m, n, o, p], _ => exact built107 k0 _ _ _ _ _ _ _ _ _ _ _ _ _ _ _ _

theorem Stream_new {k0 : Option Addr} {w : World} {ws : Sl} (hs : ∀ w', Upd none_ w w' → rijndael_Key_schedule k0 false w' = some ((ws, 0, ()), w')) {B : List Int} (h : B16 B) :
    ∃ s w', rijndael_Key_Stream k0 (ints .u8 B).toArray w = some ((some ⟨s, 0, none⟩, 0, ()), w') ∧ Bk 107 w' s (streamC k0 B 0) ∧ w.heap.size ≤ s ∧ Upd none_ w w' := by
  obtain ⟨w1, n1, b1, u1, z1⟩ := newB_ok (ints .u8 B).toArray 42 w
  have b1 : Bk 42 w1 w.heap.size (ints .u8 B) := b1
  obtain ⟨w2, n2, b2, u2, z2⟩ := newB_ok (streamC k0 B 0).toArray 107 w1
  refine ⟨w1.heap.size, w2, ?_, b2, by omega, u1.and0 u2⟩
  unfold rijndael_Key_Stream
  rw [n1, bnd_ok, hs w1 u1, bnd_ok, if_neg (show ¬ ((0 : Int) != 0) = true by decide), ldA16 b1 h, Option.bind_some, built107B k0 h, Option.bind_some, n2, bnd_ok]
theorem Stream_err {k0 : Option Addr} {w : World} {ws : Sl} {e : Int} (he : e ≠ 0) (hs : ∀ w', Upd none_ w w' → rijndael_Key_schedule k0 false w' = some ((ws, e, ()), w')) {B : List Int} :
    ∃ w', rijndael_Key_Stream k0 (ints .u8 B).toArray w = some ((none, e, ()), w') ∧ Upd none_ w w' := by
  obtain ⟨w1, n1, b1, u1, z1⟩ := newB_ok (ints .u8 B).toArray 42 w
  refine ⟨w1, ?_, u1⟩
  unfold rijndael_Key_Stream
  rw [n1, bnd_ok, hs w1 u1, bnd_ok, if_pos (bne_iff_ne.2 he)]

/-! ### how much may be used -/
theorem further_nil (n : Int) (w : World) : rijndael_Stream_further none n w = some ((⟨none, 0, 0⟩, 1, ()), w) := rfl
theorem further_err {k0 : Option Addr} {w : World} {ws : Sl} {e : Int} (he : e ≠ 0) (hs : rijndael_Key_schedule k0 false w = some ((ws, e, ()), w)) {s : Nat} {B : List Int} {a : Nat} (b : Bk 107 w s (streamC k0 B a)) (n : Int) :
    rijndael_Stream_further (some ⟨s, 0, none⟩) n w = some ((ws, e, ()), w) := by
  have e0 : rijndael_Stream_further_s0 (some ⟨s, 0, none⟩) n e w = some ((false, ()), w) := by
    unfold rijndael_Stream_further_s0
    rw [if_neg (fun h => he (eq_of_beq h))]
  unfold rijndael_Stream_further
  rw [if_neg (show ¬ (some (⟨s, 0, none⟩ : Addr)).isNone = true from Bool.noConfusion), Option.bind_some, st_key b, Option.bind_some, hs, bnd_ok, e0, bnd_ok]
  rfl
theorem further_ok {k0 : Option Addr} {w : World} {ws : Sl} (hs : rijndael_Key_schedule k0 false w = some ((ws, 0, ()), w)) {s : Nat} {B : List Int} (h : B16 B) {a : Nat} (b : Bk 107 w s (streamC k0 B a)) (ha : a ≤ 1099511627776) {n : Nat} :
    rijndael_Stream_further (some ⟨s, 0, none⟩) (n : Int) w = some ((if n ≤ 1099511627776 - a then ws else ⟨none, 0, 0⟩, if n ≤ 1099511627776 - a then 0 else 4, ()), w) := by
  have ew : IntKind.u64.wrap (1099511627776 - ((a : Nat) : Int)) = ((1099511627776 - a : Nat) : Int) := by rw [IntKind.wrap_u64]; omega
  have e0 : rijndael_Stream_further_s0 (some ⟨s, 0, none⟩) (n : Int) 0 w = some ((decide ((n : Int) > ((1099511627776 - a : Nat) : Int)), ()), w) := by
    unfold rijndael_Stream_further_s0
    rw [if_pos (show ((0 : Int) == 0) = true from rfl), Option.bind_some, st_at b h, Option.bind_some, ew]
  unfold rijndael_Stream_further
  rw [if_neg (show ¬ (some (⟨s, 0, none⟩ : Addr)).isNone = true from Bool.noConfusion), Option.bind_some, st_key b, Option.bind_some, hs, bnd_ok, e0, bnd_ok]
  by_cases c : n ≤ 1099511627776 - a
  · rw [if_neg (fun e => by have := of_decide_eq_true e; omega), if_pos c, if_pos c]
  · rw [if_pos (decide_eq_true (by omega)), if_neg c, if_neg c]

/-! ### a block as a number, and n more -/
def loB (B : List Int) (n : Nat) : Nat := (numN (B.drop 8) + n) % 18446744073709551616
def hiB (B : List Int) (n : Nat) : Nat := if loB B n < numN (B.drop 8) then (numN (B.take 8) + 1) % 18446744073709551616 else numN (B.take 8)
def plusB (B : List Int) (n : Nat) : List Int := layB 8 (hiB B n) ++ layB 8 (loB B n)
theorem layB_in (size n : Nat) : ∀ z ∈ layB size n, InK .u8 z := fun z hz => by
  obtain ⟨i, _, rfl⟩ := List.mem_map.1 hz
  exact InK.of_nat (k := .u8) (Nat.mod_lt _ (by decide))
theorem plusB_16 (B : List Int) (n : Nat) : B16 (plusB B n) := ⟨by unfold plusB; rw [List.length_append, layB_len, layB_len], fun z hz => by
  rcases List.mem_append.1 hz with h | h
  · exact layB_in _ _ z h
  · exact layB_in _ _ z h⟩

theorem numN8 {zs : List Int} (h : ∀ z ∈ zs, InK .u8 z) (hl : zs.length = 8) : numN zs < 18446744073709551616 := by
  have := numN_lt h; rw [hl] at this; exact this

theorem seg8 {B : List Int} (h : B.length = 16) {Y : List Int} (hy : Y.length = 8) : seg (ints .u8 B) 8 (ints .u8 Y) = ints .u8 (B.take 8 ++ Y) := by
  unfold seg
  rw [ints_length, hy, List.drop_eq_nil_of_le (by rw [ints_length, h]; decide), List.append_nil, ints_take, ints_append]
theorem seg0 {X Z Y : List Int} (hx : X.length = 8) (hy : Y.length = 8) : seg (ints .u8 (X ++ Z)) 0 (ints .u8 Y) = ints .u8 (Y ++ Z) := by
  unfold seg
  rw [ints_length, hy, List.take_zero, List.nil_append, Nat.zero_add, ints_append, List.drop_append_of_le_length (by rw [ints_length, hx]; decide), List.drop_eq_nil_of_le (by rw [ints_length, hx]; decide), List.nil_append, ints_append]

theorem sl8 {w : World} {e : TypeId} {g : Nat} {B : List Int} (b : Bk e w g (ints .u8 B)) (h : B16 B) : RdS .u8 w ⟨some ⟨g, 0, none⟩, 16, 16⟩ B :=
  ⟨h.1.symm, Nat.le_refl _, .inr ⟨_, rfl, b.rd 0 _ fun i v hv => by rw [Nat.zero_add]; exact hv⟩⟩
theorem at8 (g : Nat) : sla (some (⟨g, 0, none⟩ : Addr)) 8 16 1 = some ⟨g, 8, none⟩ := rfl
theorem at0 (g : Nat) : sla (some (⟨g, 0, none⟩ : Addr)) 0 16 1 = some ⟨g, 0, none⟩ := rfl

/-- the last eight bytes of a block as a number, and the first -/
theorem number_lo {K : Nat} (hK : 300 ≤ K) {w : World} {e : TypeId} {g : Nat} {B : List Int} (b : Bk e w g (ints .u8 B)) (h : B16 B) : rijndael_number K ⟨sla (some ⟨g, 0, none⟩) 8 16 1, 16 - 8, 16 - 8⟩ 8 w = some (((numN (B.drop 8) : Nat) : Int), ()) := by
  have r := (sl8 b h).sub (lo := 8) (hi := 16) (by decide) (by rw [h.1]; decide)
  rw [List.take_of_length_le (by rw [h.1]; decide)] at r
  have := number_ok hK r (fun z hz => h.2 z (List.mem_of_mem_drop hz)) (n := 8) (by rw [List.length_drop, h.1]; decide) (by decide)
  rw [List.take_of_length_le (by rw [List.length_drop, h.1]; decide)] at this
  exact this
theorem number_hi {K : Nat} (hK : 300 ≤ K) {w : World} {e : TypeId} {g : Nat} {B : List Int} (b : Bk e w g (ints .u8 B)) (h : B16 B) {len cap : Nat} (hl : 8 ≤ len) (hl2 : len ≤ 16) (hc : cap = 16) : rijndael_number K ⟨sla (some ⟨g, 0, none⟩) 0 16 1, len, cap⟩ 8 w = some (((numN (B.take 8) : Nat) : Int), ()) := by
  subst hc
  have r := (sl8 b h).sub (lo := 0) (hi := len) (by omega) (by rw [h.1]; exact hl2)
  rw [List.drop_zero] at r
  have := number_ok hK r (fun z hz => h.2 z (List.mem_of_mem_take hz)) (n := 8) (by rw [List.length_take, h.1]; omega) (by decide)
  rw [List.take_take, Nat.min_eq_left hl] at this
  exact this

theorem plus_ok {K : Nat} (hK : 300 ≤ K) {B : List Int} (h : B16 B) {n : Nat} (hn : n < 18446744073709551616) (w : World) :
    ∃ w', rijndael_plus K (ints .u8 B).toArray (n : Int) w = some (((ints .u8 (plusB B n)).toArray, ()), w') ∧ Upd none_ w w' := by
  obtain ⟨w1, n1, b1, u1, z1⟩ := newB_ok (ints .u8 B).toArray 42 w
  obtain ⟨w2, n2, b2, u2, z2⟩ := newB_ok z42 42 w1
  have b1 : Bk 42 w1 w.heap.size (ints .u8 B) := b1
  have b12 := b1.upd0 u2
  have lo := number_lo hK b12 h
  have hi := number_hi hK b12 h (len := 8 - 0) (cap := 16 - 0) (by decide) (by decide) rfl
  have hlo : numN (B.drop 8) < 18446744073709551616 := numN8 (fun z hz => h.2 z (List.mem_of_mem_drop hz)) (by rw [List.length_drop, h.1])
  have hhi : numN (B.take 8) < 18446744073709551616 := numN8 (fun z hz => h.2 z (List.mem_of_mem_take hz)) (by rw [List.length_take, h.1]; rfl)
  have hl2 : loB B n < 18446744073709551616 := Nat.mod_lt _ (by decide)
  have hh2 : hiB B n < 18446744073709551616 := by
    unfold hiB; split
    · exact Nat.mod_lt _ (by decide)
    · exact hhi
  have ew : IntKind.u64.wrap (((numN (B.drop 8) : Nat) : Int) + (n : Int)) = ((loB B n : Nat) : Int) := by rw [IntKind.wrap_u64]; unfold loB; omega
  have es : rijndael_plus_s0 K ((numN (B.take 8) : Nat) : Int) (decide (((loB B n : Nat) : Int) < ((numN (B.drop 8) : Nat) : Int))) w2 = some ((((hiB B n : Nat) : Int), ()), w2) := by
    unfold rijndael_plus_s0 hiB
    by_cases c : loB B n < numN (B.drop 8)
    · rw [if_pos (decide_eq_true (by omega)), if_pos c, IntKind.wrap_u64]
      have : (((numN (B.take 8) : Nat) : Int) + 1) % 18446744073709551616 = (((numN (B.take 8) + 1) % 18446744073709551616 : Nat) : Int) := by omega
      rw [← this]
    · rw [if_neg (fun e => by have := of_decide_eq_true e; omega), if_neg c]
  obtain ⟨w3, a3, b3, u3⟩ := lay_ok hK (e := 42) (g := w.heap.size) (o := 8) (size := 8) (n := loB B n) (len := 16 - 8) (cap := 16 - 8) (by decide) (by decide) (by rw [ints16 h]; decide) hl2 b12
  rw [seg8 h.1 (layB_len _ _)] at b3
  obtain ⟨w4, a4, b4, u4⟩ := lay_ok hK (e := 42) (g := w.heap.size) (o := 0) (size := 8) (n := hiB B n) (len := 8 - 0) (cap := 16 - 0) (by decide) (by decide) (by rw [ints_length, List.length_append, layB_len, List.length_take, h.1]; decide) hh2 b3
  rw [seg0 (by rw [List.length_take, h.1]; rfl) (layB_len _ _)] at b4
  have b4 : Bk 42 w4 w.heap.size (ints .u8 (plusB B n)) := b4
  have a3 : rijndael_lay K ⟨some ⟨w.heap.size, 8, none⟩, 16 - 8, 16 - 8⟩ 8 ((loB B n : Nat) : Int) w2 = some ((), w3) := a3
  have a4 : rijndael_lay K ⟨some ⟨w.heap.size, 0, none⟩, 8 - 0, 16 - 0⟩ 8 ((hiB B n : Nat) : Int) w3 = some ((), w4) := a4
  have hp := plusB_16 B n
  obtain ⟨w5, a5, b5, u5⟩ := stA16 ((b2.upd u3 (by omega)).upd u4 (by omega)) z42_len hp
  refine ⟨w5, ?_, (((u1.and0 u2).trans' u3 fun k hk e => by omega).trans' u4 fun k hk e => by omega).trans' u5 fun k hk e => by omega⟩
  unfold rijndael_plus
  rw [n1, bnd_ok, n2, bnd_ok, lo, Option.bind_some, hi, Option.bind_some, ew, es, bnd_ok, at8, a3, bnd_ok, at0, a4, bnd_ok, ldA16 b4 hp, Option.bind_some, if_pos (size16 hp), a5, Option.bind_some, ldA16 b5 hp, Option.bind_some]

end Go.Sh

/- What the helpers of the package cofferbook do. YtfilmbfijaeclaaDoor, Tryd, 22, 5 are filled in for a seat (book.sh). -/
set_option linter.unusedVariables false
namespace Go.Sh
open Go.Fw Go.RowKit Go.Proofs.Tryd

/-! ### Bytes -/

def marks : List Int := (List.range 70).map fun i => (((181 + i) % 256 : Nat) : Int)

theorem marks_len : marks.length = 70 := rfl

theorem mark_at (i : Nat) (hi : i < 70) : IntKind.u8.wrap (IntKind.i64.wrap (181 + (i : Int))) = marks[i]'(by rw [marks_len]; exact hi) := by
  rw [w64 (by omega) (by omega), IntKind.wrap_u8]
  simp [marks]

theorem Bytes_loop (K B : Nat) (l : Sl) :
    ∀ (d i n : Nat) (w : World) (s : Sl) (xs : List Int), i + d = 70 → d < n → Own 5 w s (ints .u8 xs) → s.len + d ≤ 140737488355328 → B ≤ w.heap.size → Fresh B s →
      ∃ s' w', book_Bytes_l0 K n l s (i : Int) w = some ((s', ()), w') ∧ Own 5 w' s' (ints .u8 (xs ++ marks.drop i)) ∧ Below B w w' ∧ Fresh B s' := by
  intro d
  induction d with
  | zero =>
    intro i n w s xs hi hn ho hs hB hf
    obtain ⟨n, rfl⟩ : ∃ m, n = m + 1 := ⟨n - 1, by omega⟩
    have : i = 70 := by omega
    subst this
    refine ⟨s, w, ?_, ?_, Below.refl B w, hf⟩
    · show book_Bytes_l0_b K (book_Bytes_l0 K n) l s ((70 : Nat) : Int) w = _
      simp [book_Bytes_l0_b]
    · have : marks.drop 70 = [] := rfl
      rw [this, List.append_nil]; exact ho
  | succ d ih =>
    intro i n w s xs hi hn ho hs hB hf
    obtain ⟨n, rfl⟩ : ∃ m, n = m + 1 := ⟨n - 1, by omega⟩
    have hi70 : i < 70 := by omega
    obtain ⟨w1, h1, ho1, u1, hz1⟩ := bldS1_ok sliceB (.int .u8 (marks[i]'(by rw [marks_len]; exact hi70))) rfl w
    have hfr : ∀ k, s.blk = some k → ¬ (none_ k) := fun _ _ => id
    obtain ⟨s2, w2, h2, l2, ho2, u2, b2⟩ := apd_ok sliceB (ho.upd0 u1) (ho1.src (by simp [Value.oneCell'])) (by show (s.len + 1) * 1 ≤ _; omega)
    have bl1 : Below B w w1 := u1.below hB fun _ _ => id
    have bl2 : Below B w w2 := below_upd bl1 u2 (by omega) fun k hk e => by have := hf k e; omega
    have hf2 : Fresh B s2 := by
      intro k hk
      rcases b2 with e | e
      · exact hf k (e ▸ hk)
      · rw [e] at hk; have := Option.some.inj hk; omega
    obtain ⟨s3, w3, h3, ho3, bl3, hf3⟩ := ih (i + 1) n w2 s2 (xs ++ [marks[i]'(by rw [marks_len]; exact hi70)]) (by omega) (by omega) (by simpa using ho2) (by rw [l2]; show s.len + 1 + d ≤ _; omega) (by have := bl2.size; omega) hf2
    refine ⟨s3, w3, ?_, ?_, bl2.trans bl3, hf3⟩
    · show book_Bytes_l0_b K (book_Bytes_l0 K n) l s (i : Int) w = _
      have hw : IntKind.i64.wrap ((i : Int) + 1) = ((i + 1 : Nat) : Int) := by rw [w64 (by omega) (by omega)]; rfl
      have hd : decide ((i : Int) < 70) = true := by simp; omega
      simp only [book_Bytes_l0_b, hd, if_true, mark_at i hi70, h1, bnd_ok, h2, hw, h3]
    · have e : marks.drop i = marks[i]'(by rw [marks_len]; exact hi70) :: marks.drop (i + 1) := List.drop_eq_getElem_cons (by rw [marks_len]; exact hi70)
      rw [e]
      simpa using ho3

/-- Bytes: a copy, the marks behind it. -/
theorem Bytes_ok {K : Nat} (hK : 18446744073709551616 ≤ K) {l : Sl} {bs : List Int} {w : World} (hl : Src w l (ints .u8 bs)) (hb : bs.length ≤ 140737488351232) :
    ∃ g cap w', book_Bytes K l w = some ((⟨some ⟨g, 0, none⟩, bs.length, cap⟩, ()), w') ∧ Own 5 w' ⟨some ⟨g, 0, none⟩, bs.length + 70, cap⟩ (ints .u8 (bs ++ marks)) ∧ w.heap.size ≤ g ∧ Upd none_ w w' := by
  have hlen : l.len = bs.length := by simpa using hl.len
  obtain ⟨s1, w1, h1, l1, ho1, u1, b1⟩ := apd_ok sliceB (Own.nil 5 w) hl (by show (0 + l.len) * 1 ≤ _; omega)
  have bl1 : Below w.heap.size w w1 := u1.below (Nat.le_refl _) fun k _ e => by cases e
  have hf1 : Fresh w.heap.size s1 := by
    intro k hk
    rcases b1 with e | e
    · rw [e] at hk; cases hk
    · rw [e] at hk; have := Option.some.inj hk; omega
  obtain ⟨s2, w2, h2, ho2, bl2, hf2⟩ := Bytes_loop K w.heap.size l 70 0 K w1 s1 bs (by omega) (by omega) ho1 (by rw [l1]; show 0 + l.len + 70 ≤ _; omega) bl1.size hf1
  have h2' : book_Bytes_l0 K K l s1 0 w1 = _ := h2
  have ho2 : Own 5 w2 s2 (ints .u8 (bs ++ marks)) := ho2
  have hl2 : s2.len = bs.length + 70 := by rw [ho2.len]; simp [marks_len]
  obtain ⟨g, hg⟩ : ∃ g, s2.a = some ⟨g, 0, none⟩ := by
    rcases ho2.2 with ⟨a1, a2, _⟩ | ⟨g, cur, a1, _⟩
    · omega
    · exact ⟨g, a1⟩
  refine ⟨g, s2.cap, w2, ?_, ?_, hf2 g (by simp [Sl.blk, hg]), Upd.of_below (bl1.trans bl2)⟩
  · have hc := ho2.cap.1
    have hi : (0 : Int) ≤ ((l.len : Nat) : Int) ∧ ((l.len : Nat) : Int) ≤ ((s2.cap : Nat) : Int) := by omega
    have h1' : apd prog 22 22 (.slice none 0 0) (.slice l.a l.len l.cap) w = some (s1, w1) := h1
    simp only [book_Bytes, h1', bnd_ok, h2', hi, and_self, if_true, sla_zero, hg, Int.toNat_natCast, Nat.sub_zero]
    rw [hlen]
  · have : s2 = ⟨some ⟨g, 0, none⟩, bs.length + 70, s2.cap⟩ := by cases s2; simp_all
    rw [← this]; exact ho2

end Go.Sh

/- Package rijndael: the bytes of a stream are added. -/
set_option linter.unusedVariables false
set_option maxRecDepth 100000
namespace Go.Sh
open Go.Fw Go.Gf Go.RowKit Go.Proofs.Tryd

def padQ (S : List W4) (B : List Int) (q : Nat) : List Int := encB S (plusB B q)
def xorI (S : List W4) (B : List Int) (a : Nat) (D : List Int) (i : Nat) : Int := bits .xor .u8 (D.getD i 0) ((padQ S B ((a + i) / 16)).getD ((a + i) % 16) 0)
def xorL (S : List W4) (B : List Int) (a : Nat) (D : List Int) : List Int := (List.range D.length).map (xorI S B a D)
theorem xorL_len (S : List W4) (B : List Int) (a : Nat) (D : List Int) : (xorL S B a D).length = D.length := by simp [xorL]
theorem padQ_16 {S : List W4} (hS : ∀ x ∈ S, x.ok) (B : List Int) (q : Nat) : B16 (padQ S B q) := encB_16 hS (plusB_16 B q)

theorem _root_.Go.Fw.RdS.upd' {κ : IntKind} {S : Nat → Prop} {w w' : World} {s : Sl} {zs : List Int} (h : RdS κ w s zs) (u : Upd S w w') (hn : zs ≠ [] → ∀ p, s.a = some p → ¬ S p.block) : RdS κ w' s zs := by
  by_cases e : zs = []
  · exact ⟨h.len, h.cap, .inl e⟩
  · exact h.upd u (hn e)
theorem _root_.Go.Fw.RdS.lt' {κ : IntKind} {w : World} {s : Sl} {zs : List Int} (h : RdS κ w s zs) (hne : zs ≠ []) : ∀ p, s.a = some p → p.block < w.heap.size := fun p hp => by
  rcases h.rd with e | ⟨q, e, hr⟩
  · exact absurd e hne
  · rw [e] at hp; cases hp
    exact hr.lt (fun e => hne (List.map_eq_nil_iff.1 e))

theorem sameK_self {β : Type} (v : Value) (k : Option β) : sameK v v k = k := by unfold sameK; rw [if_pos rfl]

theorem set_snoc {f : Nat → Int} {i n : Nat} (h : i < n) : ((List.range i).map f ++ List.replicate (n - i) 0).set i (f i) = (List.range (i + 1)).map f ++ List.replicate (n - (i + 1)) 0 := by
  have e : List.replicate (n - i) (0 : Int) = 0 :: List.replicate (n - (i + 1)) 0 := by rw [show n - i = (n - (i + 1)) + 1 by omega]; rfl
  have hl : ((List.range i).map f).length = i := by simp
  rw [e, List.set_append_right _ _ (by omega), hl, Nat.sub_self, List.set_cons_zero, List.range_succ, List.map_append, List.append_assoc]
  rfl

theorem mkB_full (w : World) {n : Nat} (hn : n ≤ 1099511627776) :
    ∃ w', mkS prog 22 (.int .i64 (n : Int)) (.int .i64 (n : Int)) w = some (⟨some ⟨w.heap.size, 0, none⟩, n, n⟩, w') ∧ Own 5 w' ⟨some ⟨w.heap.size, 0, none⟩, n, n⟩ (ints .u8 (List.replicate n 0)) ∧ Upd none_ w w' := by
  obtain ⟨i, hi, hsz, hz, hby⟩ := sliceB.info
  obtain ⟨w', hr, ho, hg⟩ := run_make_full (P := prog) w 0 22 5 i (.int .u8 0) 1 sliceB.ht hi hz hsz .i64 .i64 n (by rw [hby]; omega) (by simp only [maxLen]; omega) (Nat.zero_le _)
  obtain ⟨s, h1, h2, h3⟩ := Own.of_row ho
  have hs : s = ⟨some ⟨w.heap.size, 0, none⟩, n, n⟩ := by
    cases s
    simp only [Value.slice.injEq] at h1
    simp [← h1.1, ← h1.2.1, ← h1.2.2]
  have hc : (madeCells (Value.int .u8 0).cells (n * 1)).toList = ints .u8 (List.replicate n 0) := by
    apply List.ext_getElem
    · simp [madeCells]
    · intro k h1 h2; simp [madeCells, Nat.mod_one, Value.cells]
  rw [hs, hc] at h3
  refine ⟨w', ?_, h3, (Upd.of_grown hg).mono fun k _ e => by cases e⟩
  unfold mkS
  rw [hr]

theorem xor_s5 {K : Nat} (hK : 300 ≤ K) {w : World} {g t gw gb kl : Nat} {S : List W4} (k : KeyAt w g t gw gb kl S) {s gp : Nat} {B P : List Int} (hB : B16 B) (hP : B16 P) {c : Nat} (hc : c < 18446744073709551616) (b : Bk 107 w s (streamC (some ⟨g, 0, none⟩) B c)) (bp : Bk 42 w gp (ints .u8 P)) :
    ∃ w', rijndael_Stream_XOR_s5 K (some ⟨s, 0, none⟩) ⟨some ⟨gw, 0, none⟩, S.length, S.length⟩ ⟨gp, 0, none⟩ w = some ((), w') ∧ Bk 42 w' gp (ints .u8 (padQ S B (c / 16))) ∧ Upd (· = gp) w w' := by
  have ns : s ≠ gp := Bk.apart (by decide) b bp
  have ng : g ≠ gp := Bk.apart (by decide) k.b bp
  obtain ⟨w1, a1, u1⟩ := plus_ok hK hB (n := c / 16) (by omega) w.drew
  have q1 : Upd none_ w w1 := u1.predrew
  obtain ⟨w2, a2, u2⟩ := encT_ok hK (k.upd0 q1) (plusB_16 B (c / 16))
  have q2 := q1.and0 u2
  have hp := padQ_16 k.ok B (c / 16)
  obtain ⟨w3, a3, b3, u3⟩ := stA16 (bp.upd0 q2) (ints16 hP) hp
  have b1 := b.upd0 q1
  have b2 := b.upd0 q2
  have b4 := b2.upd u3 ns
  have l7 : ldP ((⟨g, 0, none⟩ : Addr).add 7) w3 = some (some ⟨t, 0, none⟩) := by rw [add_lit]; exact ((k.upd0 q2).b.upd u3 ng).ldP (i := 0 + 7) rfl
  refine ⟨w3, ?_, b3, (q2.mono fun _ _ e => e.elim).trans' u3 fun _ _ e => e⟩
  have e16 : IntKind.u64.wrap (Int.tdiv ((c : Nat) : Int) 16) = ((c / 16 : Nat) : Int) := by
    have : Int.tdiv ((c : Nat) : Int) 16 = ((c / 16 : Nat) : Int) := tdiv_nat c 16
    rw [this, wru64 (by omega)]
  unfold rijndael_Stream_XOR_s5
  have a3 : stA ⟨gp, 0, none⟩ (ints .u8 (encB S (plusB B (c / 16)))).toArray w2 = some w3 := a3
  have hp' : (ints .u8 (encB S (plusB B (c / 16)))).toArray.size = 16 := size16 hp
  simp only [Option.bind_some, st_key b.drew, (k.upd0 (Upd.refl none_ w).drew).ldT, st_start b.drew hB, st_at b.drew hB, e16, a1, bnd_ok, st_at b1 hB, sameK_self, st_start b1 hB, (k.upd0 q1).ldT, st_key b1, a2, st_at b2 hB, st_start b2 hB, (k.upd0 q2).ldT, st_key b2, hp', if_true, a3, st_at b4 hB, st_start b4 hB, l7, st_key b4]

theorem xor_s34 {K : Nat} (hK : 300 ≤ K) {w : World} {g t gw gb kl : Nat} {S : List W4} (k : KeyAt w g t gw gb kl S) {s gp : Nat} {B P : List Int} (hB : B16 B) (hP : B16 P) {a i : Nat} (hc : a + i < 18446744073709551616) (b : Bk 107 w s (streamC (some ⟨g, 0, none⟩) B (a + i))) (bp : Bk 42 w gp (ints .u8 P)) (hq : i ≠ 0 → (a + i) % 16 ≠ 0 → P = padQ S B ((a + i) / 16)) :
    ∃ m w', rijndael_Stream_XOR_s3 K (some ⟨s, 0, none⟩) (i : Int) w = some ((m, ()), w) ∧ rijndael_Stream_XOR_s4 K (some ⟨s, 0, none⟩) ⟨some ⟨gw, 0, none⟩, S.length, S.length⟩ ⟨gp, 0, none⟩ m w = some ((), w') ∧ Bk 42 w' gp (ints .u8 (padQ S B ((a + i) / 16))) ∧ Upd (· = gp) w w' := by
  obtain ⟨w1, a1, b1, u1⟩ := xor_s5 hK k hB hP hc b bp
  have e4 : rijndael_Stream_XOR_s4 K (some ⟨s, 0, none⟩) ⟨some ⟨gw, 0, none⟩, S.length, S.length⟩ ⟨gp, 0, none⟩ true w = some ((), w1) := by
    unfold rijndael_Stream_XOR_s4
    rw [if_pos rfl, a1, bnd_ok]
  by_cases h0 : i = 0
  · refine ⟨true, w1, ?_, e4, b1, u1⟩
    unfold rijndael_Stream_XOR_s3
    rw [h0, if_pos (show (((0 : Nat) : Int) == 0) = true from rfl)]
  · have e16 : Int.tmod (((a + i : Nat)) : Int) 16 = (((a + i) % 16 : Nat) : Int) := tmod_nat (a + i) 16
    have e3 : rijndael_Stream_XOR_s3 K (some ⟨s, 0, none⟩) (i : Int) w = some (((((((a + i) % 16 : Nat) : Int)) == 0), ()), w) := by
      unfold rijndael_Stream_XOR_s3
      rw [if_neg (fun e => h0 (by have := eq_of_beq e; omega)), Option.bind_some, st_at b hB, Option.bind_some, e16]
    by_cases h1 : (a + i) % 16 = 0
    · refine ⟨true, w1, ?_, e4, b1, u1⟩
      rw [e3, h1]; rfl
    · refine ⟨false, w, ?_, ?_, ?_, Upd.refl _ w⟩
      · rw [e3]
        have : ((((a + i) % 16 : Nat) : Int) == 0) = false := by rw [beq_eq_false_iff_ne]; omega
        rw [this]
      · unfold rijndael_Stream_XOR_s4
        rw [if_neg (show ¬ false = true by decide)]
      · rw [← hq h0 h1]; exact bp

theorem xor_loop {K : Nat} (hK : 300 ≤ K) {g t gw gb kl : Nat} {S : List W4} {s gp go : Nat} {B : List Int} (hB : B16 B) {a : Nat} {data : Sl} {D : List Int} (hD : ∀ z ∈ D, InK .u8 z) {n : Nat} (hn : D.length = n) (han : a + n < 18446744073709551616) (hn2 : n ≤ 1099511627776)
    (hd : D ≠ [] → ∀ p, data.a = some p → p.block ≠ gp ∧ p.block ≠ s ∧ p.block ≠ go) (h1 : go ≠ gp) (h2 : go ≠ s) (hgo : go ≠ g ∧ go ≠ t ∧ go ≠ gw ∧ go ≠ gb) :
    ∀ (d i f : Nat) (w : World) (P : List Int), d + i = n → d < f → KeyAt w g t gw gb kl S → Bk 107 w s (streamC (some ⟨g, 0, none⟩) B (a + i)) → Bk 42 w gp (ints .u8 P) → B16 P → (i ≠ 0 → (a + i) % 16 ≠ 0 → P = padQ S B ((a + i) / 16)) → RdS .u8 w data D → Own 5 w ⟨some ⟨go, 0, none⟩, n, n⟩ (ints .u8 ((List.range i).map (xorI S B a D) ++ List.replicate (n - i) 0)) →
      ∃ w', rijndael_Stream_XOR_l2 K f (some ⟨s, 0, none⟩) ⟨some ⟨gw, 0, none⟩, S.length, S.length⟩ ⟨some ⟨go, 0, none⟩, n, n⟩ ⟨gp, 0, none⟩ data (n : Int) (i : Int) w = some ((), w') ∧ Bk 107 w' s (streamC (some ⟨g, 0, none⟩) B (a + n)) ∧ Own 5 w' ⟨some ⟨go, 0, none⟩, n, n⟩ (ints .u8 (xorL S B a D)) ∧ Upd (fun k => k = gp ∨ k = s ∨ k = go) w w' := by
  intro d
  induction d with
  | zero =>
    intro i f w P hdi hf k b bp hP hq r o
    obtain ⟨f, rfl⟩ : ∃ m, f = m + 1 := ⟨f - 1, by omega⟩
    obtain rfl : i = n := by omega
    rw [Nat.sub_self, List.replicate_zero, List.append_nil] at o
    refine ⟨w, ?_, b, by unfold xorL; rw [hn]; exact o, Upd.refl _ w⟩
    have eu : rijndael_Stream_XOR_l2 K (f + 1) = rijndael_Stream_XOR_l2_b K (rijndael_Stream_XOR_l2 K f) := rfl
    rw [eu]
    unfold rijndael_Stream_XOR_l2_b
    rw [if_neg (fun e => by have := of_decide_eq_true e; omega)]
  | succ d ih =>
    intro i f w P hdi hf k b bp hP hq r o
    obtain ⟨f, rfl⟩ : ∃ m, f = m + 1 := ⟨f - 1, by omega⟩
    have hi : i < n := by omega
    have hlen := r.len
    have hai : a + i < 18446744073709551616 := by omega
    have hai1 : a + i + 1 < 18446744073709551616 := by omega
    have hm16 : (a + i) % 16 < 16 := Nat.mod_lt _ (by decide)
    obtain ⟨p, hp, hld⟩ := r.ld
    have hpa := hp (by intro e; rw [e] at hn; simp at hn; omega)
    have l1 := hld i (by omega)
    obtain ⟨m, w1, a3, a4, b1, u1⟩ := xor_s34 hK k hB hP hai b bp hq
    have ns : s ≠ gp := Bk.apart (by decide) b bp
    have bs1 := b.upd u1 ns
    have ho1 := o.upd u1 (fun k hk e => by
      have : go = k := Option.some.inj hk
      omega)
    have hpad := padQ_16 k.ok B ((a + i) / 16)
    have lp : ldI .u8 ((⟨gp, 0, none⟩ : Addr).add ((a + i) % 16 * 1)) w1 = some ((padQ S B ((a + i) / 16)).getD ((a + i) % 16) 0) := by
      rw [add_lit, Nat.mul_one, Nat.zero_add]
      refine b1.ldI ?_
      rw [ints_get (by rw [hpad.1]; exact hm16), List.getD_eq_getElem?_getD, List.getElem?_eq_getElem (by rw [hpad.1]; exact hm16)]
      rfl
    obtain ⟨q, w2, hq2, c2, o2, u2⟩ := ho1.st (i := i) hi (.int .u8 (xorI S B a D i))
    rw [ints_set_, set_snoc hi] at o2
    have u2 : Upd (· = go) w1 w2 := u2.mono fun k _ e => (Option.some.inj e).symm
    have bs2 := bs1.upd u2 (fun e => h2 e.symm)
    obtain ⟨w3, c3, bs3, u3⟩ := st_set bs2 hB (a + (i + 1))
    have g1 : g ≠ gp := Bk.apart (by decide) k.b bp
    have g2 : t ≠ gp := Bk.apart (by decide) k.bt bp
    have g3 : gw ≠ gp := Bk.apart (by decide) k.bw bp
    have g4 : gb ≠ gp := Bk.apart (by decide) k.bb bp
    have g5 : g ≠ s := Bk.apart (by decide) k.b b
    have g6 : t ≠ s := Bk.apart (by decide) k.bt b
    have g7 : gw ≠ s := Bk.apart (by decide) k.bw b
    have g8 : gb ≠ s := Bk.apart (by decide) k.bb b
    obtain ⟨g9, g10, g11, g12⟩ := hgo
    have k3 := ((k.upd u1 g1 g2 g3 g4).upd u2 (Ne.symm g9) (Ne.symm g10) (Ne.symm g11) (Ne.symm g12)).upd u3 g5 g6 g7 g8
    have bp3 := (b1.upd u2 (Ne.symm h1)).upd u3 (Ne.symm ns)
    have r3 := ((r.upd' u1 fun hz p hp => (hd hz p hp).1).upd' u2 fun hz p hp => (hd hz p hp).2.2).upd' u3 fun hz p hp => (hd hz p hp).2.1
    have o3 := o2.upd u3 (fun k hk e => h2 (by have : go = k := Option.some.inj hk; omega))
    obtain ⟨w4, f1, f2, f3, f4⟩ := ih (i + 1) f w3 (padQ S B ((a + i) / 16)) (by omega) (by omega) k3 bs3 bp3 hpad (fun _ hne => by
      have : (a + i) / 16 = (a + (i + 1)) / 16 := by omega
      rw [this]) r3 o3
    refine ⟨w4, ?_, f2, f3, (((u1.mono fun _ _ e => .inl e).trans' (u2.mono fun _ _ e => .inr (.inr e)) fun _ _ e => e).trans' (u3.mono fun _ _ e => .inr (.inl e)) fun _ _ e => e).trans' f4 fun _ _ e => e⟩
    have e1 : IntKind.i64.wrap ((i : Int) + 1) = ((i + 1 : Nat) : Int) := by rw [w64 (by omega) (by omega)]; rfl
    have e16 : Int.tmod (((a + i : Nat)) : Int) 16 = (((a + i) % 16 : Nat) : Int) := tmod_nat (a + i) 16
    have e2 : IntKind.u64.wrap (((a + i : Nat) : Int) + 1) = ((a + (i + 1) : Nat) : Int) := by rw [IntKind.wrap_u64]; omega
    have l1' : ldI .u8 (p.add (i * 1)) w = some (D.getD i 0) := by
      rw [Nat.mul_one, l1, List.getD_eq_getElem?_getD, List.getElem?_eq_getElem (by omega)]; rfl
    have hq3 : q = ⟨go, 0, none⟩ := (Option.some.inj hq2).symm
    have c2' : stC ((⟨go, 0, none⟩ : Addr).add (i * 1)) (.int .u8 (bits .xor .u8 (D.getD i 0) ((padQ S B ((a + i) / 16)).getD ((a + i) % 16) 0))) w1 = some w2 := by
      rw [Nat.mul_one, ← hq3]; exact c2
    have eu : rijndael_Stream_XOR_l2 K (f + 1) = rijndael_Stream_XOR_l2_b K (rijndael_Stream_XOR_l2 K f) := rfl
    rw [eu]
    unfold rijndael_Stream_XOR_l2_b
    rw [if_pos (decide_eq_true (by omega)), hpa, Option.bind_some, if_pos (nat_in (show i < data.len by omega)), Int.toNat_natCast, l1', Option.bind_some, a3, bnd_ok, a4, bnd_ok, Option.bind_some, st_at bs1 hB, Option.bind_some, e16, if_pos (nat_in hm16), Int.toNat_natCast, lp, Option.bind_some, Option.bind_some, if_pos (nat_in hi), c2', Option.bind_some, Option.bind_some, st_at bs2 hB, Option.bind_some, Option.bind_some, e2, c3, Option.bind_some, e1, f1]

theorem XOR_ok {K : Nat} (hK : 18446744073709551616 ≤ K) {w : World} {g t gw gb kl : Nat} {S : List W4} (k : KeyAt w g t gw gb kl S) {s : Nat} {B : List Int} (hB : B16 B) {a : Nat} (b : Bk 107 w s (streamC (some ⟨g, 0, none⟩) B a)) {data : Sl} {D : List Int} (hD : ∀ z ∈ D, InK .u8 z) (r : RdS .u8 w data D) (hb : D ≠ [] → ∀ p, data.a = some p → p.block ≠ s) (h20 : D.length ≤ 1048576) (ha : a + D.length ≤ 1099511627776) :
    ∃ go w', rijndael_Stream_XOR K (some ⟨s, 0, none⟩) data w = some ((⟨some ⟨go, 0, none⟩, D.length, D.length⟩, 0, ()), w') ∧ Own 5 w' ⟨some ⟨go, 0, none⟩, D.length, D.length⟩ (ints .u8 (xorL S B a D)) ∧ Bk 107 w' s (streamC (some ⟨g, 0, none⟩) B (a + D.length)) ∧ w.heap.size ≤ go ∧ Upd (· = s) w w' := by
  obtain ⟨n, hn⟩ : ∃ n, D.length = n := ⟨_, rfl⟩
  rw [hn] at h20 ha ⊢
  have hlen := r.len
  rw [hn] at hlen
  have hsch : rijndael_Key_schedule (some ⟨g, 0, none⟩) false w = some ((⟨some ⟨gw, 0, none⟩, S.length, S.length⟩, 0, ()), w) := sched_ok k false
  have ef := further_ok hsch hB b (by omega) (n := n)
  rw [if_pos (show n ≤ 1099511627776 - a by omega), if_pos (show n ≤ 1099511627776 - a by omega)] at ef
  obtain ⟨w1, c1, o1, u1⟩ := mkB_full w (n := n) (by omega)
  obtain ⟨w2, n2, b2, u2, z2⟩ := newB_ok z42 42 w1
  have hz1 := u1.size
  have hlto : w.heap.size < w1.heap.size := o1.lt rfl
  have e0 : n - 0 = n := Nat.sub_zero n
  have o2 : Own 5 w2 ⟨some ⟨w.heap.size, 0, none⟩, n, n⟩ (ints .u8 ((List.range 0).map (xorI S B a D) ++ List.replicate (n - 0) 0)) := o1.upd0 u2
  have q2 := u1.and0 u2
  have hsl := b.lt
  have k1 := k.b.lt
  have k2 := k.bt.lt
  have k3 := k.bw.lt
  have k4 := k.bb.lt
  obtain ⟨w3, f1, f2, f3, f4⟩ := xor_loop (K := K) (by omega) (g := g) (t := t) (gw := gw) (gb := gb) (kl := kl) (S := S) (s := s) (gp := w1.heap.size) (go := w.heap.size) hB (a := a) (data := data) hD hn (by omega) (by omega) (fun hz p hp => by have := hb hz p hp; have := r.lt' hz p hp; omega) (by omega) (by omega) ⟨by omega, by omega, by omega, by omega⟩ n 0 K w2 zero16 rfl (by omega) (k.upd0 q2) (b.upd0 q2) b2 zero16_ok (fun e => absurd rfl e) (r.upd0 q2) o2
  have f1 : rijndael_Stream_XOR_l2 K K (some ⟨s, 0, none⟩) ⟨some ⟨gw, 0, none⟩, S.length, S.length⟩ ⟨some ⟨w.heap.size, 0, none⟩, n, n⟩ ⟨w1.heap.size, 0, none⟩ data (n : Int) 0 w2 = _ := f1
  refine ⟨w.heap.size, w3, ?_, f3, f2, Nat.le_refl _, (q2.mono fun _ _ e => e.elim).trans' f4 fun k hk e => by omega⟩
  have es0 : rijndael_Stream_XOR_s0 K data 0 w = some ((false, ()), w) := by
    unfold rijndael_Stream_XOR_s0
    rw [if_pos (show ((0 : Int) == 0) = true from rfl), decide_eq_false (by omega)]
  have es1 : rijndael_Stream_XOR_s1 K 0 false w = some ((0, ()), w) := rfl
  unfold rijndael_Stream_XOR
  rw [hlen, wru64 (show n < 18446744073709551616 by omega), ef, bnd_ok, es0, bnd_ok, es1, bnd_ok, if_neg (show ¬ ((0 : Int) != 0) = true by decide), c1, bnd_ok, n2, bnd_ok, f1, bnd_ok]

theorem XOR_err {K : Nat} {s0 : Option Addr} {data : Sl} {w : World} {ws : Sl} {e : Int} (he : e ≠ 0) (hf : rijndael_Stream_further s0 (IntKind.u64.wrap ((data.len : Nat) : Int)) w = some ((ws, e, ()), w)) :
    rijndael_Stream_XOR K s0 data w = some ((⟨none, 0, 0⟩, e, ()), w) := by
  have es0 : rijndael_Stream_XOR_s0 K data e w = some ((false, ()), w) := by
    unfold rijndael_Stream_XOR_s0
    rw [if_neg (fun h => he (eq_of_beq h))]
  have es1 : rijndael_Stream_XOR_s1 K e false w = some ((e, ()), w) := rfl
  unfold rijndael_Stream_XOR
  rw [hf, bnd_ok, es0, bnd_ok, es1, bnd_ok, if_pos (bne_iff_ne.2 he)]
theorem XOR_long {K : Nat} {s0 : Option Addr} {data : Sl} {w : World} {ws : Sl} (hl : 1048576 < data.len) (hf : rijndael_Stream_further s0 (IntKind.u64.wrap ((data.len : Nat) : Int)) w = some ((ws, 0, ()), w)) :
    rijndael_Stream_XOR K s0 data w = some ((⟨none, 0, 0⟩, 4, ()), w) := by
  have es0 : rijndael_Stream_XOR_s0 K data 0 w = some ((true, ()), w) := by
    unfold rijndael_Stream_XOR_s0
    rw [if_pos (show ((0 : Int) == 0) = true from rfl), decide_eq_true (by omega)]
  have es1 : rijndael_Stream_XOR_s1 K 0 true w = some ((4, ()), w) := rfl
  unfold rijndael_Stream_XOR
  rw [hf, bnd_ok, es0, bnd_ok, es1, bnd_ok, if_pos (show ((4 : Int) != 0) = true by decide)]

end Go.Sh

/- Package rijndael: bytes of a stream are left out; a stream in pieces. -/
set_option linter.unusedVariables false
set_option maxRecDepth 100000
namespace Go.Sh
open Go.Fw Go.Gf Go.RowKit Go.Proofs.Tryd

theorem schedF {w : World} {g t gw gb kl : Nat} {S : List W4} (k : KeyAt w g t gw gb kl S) : rijndael_Key_schedule (some ⟨g, 0, none⟩) false w = some ((⟨some ⟨gw, 0, none⟩, S.length, S.length⟩, 0, ()), w) := sched_ok k false

theorem At_ok {w : World} {s : Nat} {k0 : Option Addr} {B : List Int} {a : Nat} (hB : B16 B) (b : Bk 107 w s (streamC k0 B a)) : rijndael_Stream_At (some ⟨s, 0, none⟩) w = some ((a : Int), ()) := by
  unfold rijndael_Stream_At
  rw [if_neg (show ¬ (some (⟨s, 0, none⟩ : Addr)).isNone = true from Bool.noConfusion), Option.bind_some, st_at b hB, Option.bind_some]
theorem At_nil (w : World) : rijndael_Stream_At none w = some (0, ()) := rfl

theorem Skip_ok {k0 : Option Addr} {w : World} {ws : Sl} (hs : rijndael_Key_schedule k0 false w = some ((ws, 0, ()), w)) {s : Nat} {B : List Int} (h : B16 B) {a : Nat} (b : Bk 107 w s (streamC k0 B a)) (ha : a ≤ 1099511627776) {n : Nat} (hn : n ≤ 1099511627776 - a) :
    ∃ w', rijndael_Stream_Skip (some ⟨s, 0, none⟩) (n : Int) w = some ((0, ()), w') ∧ Bk 107 w' s (streamC k0 B (a + n)) ∧ Upd (· = s) w w' := by
  have ef := further_ok hs h b ha (n := n)
  rw [if_pos hn, if_pos hn] at ef
  obtain ⟨w1, c1, c2, c3⟩ := st_set b h (a + n)
  refine ⟨w1, ?_, c2, c3⟩
  have e2 : IntKind.u64.wrap (((a : Nat) : Int) + (n : Int)) = ((a + n : Nat) : Int) := by rw [IntKind.wrap_u64]; omega
  unfold rijndael_Stream_Skip
  rw [ef, bnd_ok, if_neg (show ¬ ((0 : Int) != 0) = true by decide), Option.bind_some, st_at b h, Option.bind_some, Option.bind_some, e2, c1, Option.bind_some]
theorem Skip_err {s0 : Option Addr} {n : Int} {w : World} {ws : Sl} {e : Int} (he : e ≠ 0) (hf : rijndael_Stream_further s0 n w = some ((ws, e, ()), w)) : rijndael_Stream_Skip s0 n w = some ((e, ()), w) := by
  unfold rijndael_Stream_Skip
  rw [hf, bnd_ok, if_pos (bne_iff_ne.2 he)]

theorem xorL_piece (S : List W4) (B : List Int) {n from_ size : Nat} (h : from_ + n ≤ size) : ((xorL S B 0 (List.replicate size 0)).take (from_ + n)).drop from_ = xorL S B from_ (List.replicate n 0) := by
  apply List.ext_getElem?
  intro j
  unfold xorL
  rw [List.length_replicate, List.length_replicate, List.getElem?_drop, List.getElem?_take]
  by_cases hj : j < n
  · rw [if_pos (by omega), List.getElem?_map, List.getElem?_map, List.getElem?_range (by omega), List.getElem?_range hj]
    show some _ = some _
    have e0 : ∀ m i, (List.replicate m (0 : Int)).getD i 0 = 0 := fun m i => by
      rw [List.getD_eq_getElem?_getD, List.getElem?_replicate]; split <;> rfl
    unfold xorI
    rw [e0, e0, Nat.zero_add]
  · rw [if_neg (by omega), List.getElem?_eq_none (by simp; omega)]

theorem zeros_in (n : Nat) : ∀ z ∈ List.replicate n (0 : Int), InK .u8 z := fun z hz => by rw [List.eq_of_mem_replicate hz]; exact ⟨by decide, by decide⟩

end Go.Sh

/- The document's examples: counted bytes, blocks of them, a key that does and undoes. -/
set_option linter.unusedVariables false
set_option maxRecDepth 100000
namespace Go.Sh
open Go.Fw Go.Gf Go.RowKit Go.Proofs.Tryd

def cntL (n step : Nat) : List Int := (List.range n).map fun i => ((i * step % 256 : Nat) : Int)
theorem cntL_len (n step : Nat) : (cntL n step).length = n := by simp [cntL]
theorem cntL_succ (n step : Nat) : cntL (n + 1) step = cntL n step ++ [((n * step % 256 : Nat) : Int)] := by simp [cntL, List.range_succ]
theorem cntL_in (n step : Nat) : ∀ z ∈ cntL n step, InK .u8 z := fun z hz => by
  obtain ⟨i, _, rfl⟩ := List.mem_map.1 hz
  exact InK.of_nat (k := .u8) (Nat.mod_lt _ (by decide))

theorem counted_loop (K B : Nat) {n step : Nat} (hn : n ≤ 1000) (hst : step ≤ 1000) :
    ∀ (d i f : Nat) (w : World) (s : Sl), i + d = n → d < f → Own 5 w s (ints .u8 (cntL i step)) → B ≤ w.heap.size → Fresh B s →
      ∃ s' w', law02_counted_l0 K f (n : Int) (step : Int) s (i : Int) w = some ((s', ()), w') ∧ Own 5 w' s' (ints .u8 (cntL n step)) ∧ Below B w w' ∧ Fresh B s' := by
  intro d
  induction d with
  | zero =>
    intro i f w s hi hf ho hB hfr
    obtain ⟨f, rfl⟩ : ∃ m, f = m + 1 := ⟨f - 1, by omega⟩
    obtain rfl : i = n := by omega
    refine ⟨s, w, ?_, ho, Below.refl B w, hfr⟩
    have eu : law02_counted_l0 K (f + 1) = law02_counted_l0_b K (law02_counted_l0 K f) := rfl
    rw [eu]
    unfold law02_counted_l0_b
    rw [if_neg (fun e => by have := of_decide_eq_true e; omega)]
  | succ d ih =>
    intro i f w s hi hf ho hB hfr
    obtain ⟨f, rfl⟩ : ∃ m, f = m + 1 := ⟨f - 1, by omega⟩
    have hin : i < n := by omega
    have hm : i * step ≤ 1000 * 1000 := Nat.mul_le_mul (by omega) hst
    have hsl := ho.len
    rw [ints_length, cntL_len] at hsl
    obtain ⟨w1, h1, ho1, u1, hz1⟩ := bldS1_ok sliceB (.int .u8 ((i * step % 256 : Nat) : Int)) rfl w
    obtain ⟨s2, w2, h2, l2, ho2, u2, b2⟩ := apd_ok sliceB (ho.upd0 u1) (ho1.src (by simp [Value.oneCell'])) (by show (s.len + 1) * 1 ≤ _; omega)
    have bl1 : Below B w w1 := u1.below hB fun _ _ => id
    have bl2 : Below B w w2 := below_upd bl1 u2 (by omega) fun k hk e => by have := hfr k e; omega
    have hf2 : Fresh B s2 := by
      intro k hk
      rcases b2 with e | e
      · exact hfr k (e ▸ hk)
      · rw [e] at hk; have := Option.some.inj hk; omega
    have ho2 : Own 5 w2 s2 (ints .u8 (cntL (i + 1) step)) := by
      rw [cntL_succ, ints_append]; exact ho2
    obtain ⟨s3, w3, h3, ho3, bl3, hf3⟩ := ih (i + 1) f w2 s2 (by omega) (by omega) ho2 (by have := bl2.size; omega) hf2
    refine ⟨s3, w3, ?_, ho3, bl2.trans bl3, hf3⟩
    have e1 : IntKind.i64.wrap ((i : Int) + 1) = ((i + 1 : Nat) : Int) := by rw [w64 (by omega) (by omega)]; rfl
    have e2 : IntKind.u8.wrap (IntKind.i64.wrap ((i : Int) * (step : Int))) = ((i * step % 256 : Nat) : Int) := by
      have : (i : Int) * (step : Int) = ((i * step : Nat) : Int) := by rw [Int.natCast_mul]
      rw [this, w64 (by omega) (by omega), IntKind.wrap_u8]; omega
    have eu : law02_counted_l0 K (f + 1) = law02_counted_l0_b K (law02_counted_l0 K f) := rfl
    rw [eu]
    unfold law02_counted_l0_b
    rw [if_pos (decide_eq_true (by omega)), e2, h1, bnd_ok, h2, bnd_ok, e1, h3]

theorem counted_ok {K : Nat} (hK : 2000 ≤ K) {n step : Nat} (hn : n ≤ 1000) (hst : step ≤ 1000) (w : World) :
    ∃ s w', law02_counted K (n : Int) (step : Int) w = some ((s, ()), w') ∧ Own 5 w' s (ints .u8 (cntL n step)) ∧ Fresh w.heap.size s ∧ Upd none_ w w' := by
  obtain ⟨s, w', h1, h2, h3, h4⟩ := counted_loop K w.heap.size hn hst n 0 K w ⟨none, 0, 0⟩ (by omega) (by omega) (Own.nil 5 w) (Nat.le_refl _) (fun k hk => by cases hk)
  refine ⟨s, w', ?_, h2, h4, Upd.of_below h3⟩
  have h1 : law02_counted_l0 K K (n : Int) (step : Int) ⟨none, 0, 0⟩ 0 w = _ := h1
  unfold law02_counted
  rw [h1, bnd_ok]

/-- the first i bytes of L, noughts behind -/
theorem setTake {L : List Int} {i : Nat} (hi : i < L.length) (hi16 : i < 16) : (ints .u8 (L.take i ++ List.replicate (16 - i) 0)).set i (.int .u8 L[i]) = ints .u8 (L.take (i + 1) ++ List.replicate (16 - (i + 1)) 0) := by
  have e : List.replicate (16 - i) (0 : Int) = 0 :: List.replicate (16 - (i + 1)) 0 := by rw [show 16 - i = (16 - (i + 1)) + 1 by omega]; rfl
  have ht : (L.take i).length = i := by rw [List.length_take]; omega
  rw [ints_set_, e, List.set_append_right _ _ (by omega), ht, Nat.sub_self, List.set_cons_zero, List.take_add_one, List.getElem?_eq_getElem hi, List.append_assoc]
  rfl

theorem blockOf_loop (K : Nat) {l : Sl} {L : List Int} (hl : L.length = 16) {gb : Nat} (hlb : ∀ p, l.a = some p → p.block ≠ gb) {a2 : Addr} :
    ∀ (d i f : Nat) (w : World), d + i = 16 → d < f → RdS .u8 w l L → Bk 42 w gb (ints .u8 (L.take i ++ List.replicate (16 - i) 0)) →
      ∃ w', law02_blockOf_l0 K f l a2 ⟨gb, 0, none⟩ (i : Int) w = some ((), w') ∧ Bk 42 w' gb (ints .u8 L) ∧ Upd (· = gb) w w' := by
  intro d
  induction d with
  | zero =>
    intro i f w hd hf r b
    obtain ⟨f, rfl⟩ : ∃ m, f = m + 1 := ⟨f - 1, by omega⟩
    obtain rfl : i = 16 := by omega
    rw [List.take_of_length_le (by omega), Nat.sub_self, List.replicate_zero, List.append_nil] at b
    refine ⟨w, ?_, b, Upd.refl _ w⟩
    have eu : law02_blockOf_l0 K (f + 1) = law02_blockOf_l0_b K (law02_blockOf_l0 K f) := rfl
    rw [eu]
    unfold law02_blockOf_l0_b law02_blockOf_s1
    rw [if_neg (by decide), bnd_ok, if_neg (by decide)]
  | succ d ih =>
    intro i f w hd hf r b
    obtain ⟨f, rfl⟩ : ∃ m, f = m + 1 := ⟨f - 1, by omega⟩
    have hi : i < 16 := by omega
    have hlen := r.len
    obtain ⟨p, hp, hld⟩ := r.ld
    have hpa := hp (by intro e; rw [e] at hl; cases hl)
    have l1 := hld i (by omega)
    obtain ⟨w1, c1, c2, c3⟩ := b.stC (i := i) (by rw [ints_length, List.length_append, List.length_take, List.length_replicate]; omega) (.int .u8 (L[i]'(by omega)))
    rw [setTake (by omega) hi] at c2
    obtain ⟨w2, g1, g2, g3⟩ := ih (i + 1) f w1 (by omega) (by omega) (r.upd c3 hlb) c2
    refine ⟨w2, ?_, g2, c3.trans' g3 fun _ _ e => e⟩
    have e1 : IntKind.i64.wrap ((i : Int) + 1) = ((i + 1 : Nat) : Int) := by rw [w64 (by omega) (by omega)]; rfl
    have c1' : stC ((⟨gb, 0, none⟩ : Addr).add (i * 1)) (.int .u8 (L[i]'(by omega))) w = some w1 := by rw [add_lit, Nat.mul_one, Nat.zero_add]; exact c1
    have l1' : ldI .u8 (p.add (i * 1)) w = some (L[i]'(by omega)) := by rw [Nat.mul_one]; exact l1
    have eu : law02_blockOf_l0 K (f + 1) = law02_blockOf_l0_b K (law02_blockOf_l0 K f) := rfl
    rw [eu]
    unfold law02_blockOf_l0_b law02_blockOf_s1
    rw [if_pos (decide_eq_true (by omega)), bnd_ok, if_pos (decide_eq_true (by omega)), hpa, Option.bind_some, if_pos (nat_in (show i < l.len by omega)), Int.toNat_natCast, l1', Option.bind_some, if_pos (nat_in hi), c1', Option.bind_some, e1, g1]

theorem blockOf_ok {K : Nat} (hK : 300 ≤ K) {l : Sl} {L : List Int} (h : B16 L) {w : World} (r : RdS .u8 w l L) :
    ∃ w', law02_blockOf K l w = some (((ints .u8 L).toArray, ()), w') ∧ Upd none_ w w' := by
  obtain ⟨w1, n1, b1, u1, z1⟩ := newB_ok z42 42 w
  obtain ⟨w2, n2, b2, u2, z2⟩ := newB_ok z42 42 w1
  have b2 : Bk 42 w2 w1.heap.size (ints .u8 (L.take 0 ++ List.replicate (16 - 0) 0)) := b2
  have hlt : ∀ p, l.a = some p → p.block < w.heap.size := fun p hp => by
    rcases r.rd with e | ⟨q, e, hr⟩
    · have := h.1; rw [e] at this; cases this
    · rw [e] at hp; cases hp
      exact hr.lt (fun e => by have := congrArg List.length e; rw [ints_length, h.1] at this; cases this)
  obtain ⟨w3, a3, b3, u3⟩ := blockOf_loop K h.1 (gb := w1.heap.size) (fun p hp => by have := hlt p hp; omega) (a2 := ⟨w.heap.size, 0, none⟩) 16 0 K w2 rfl (by omega) ((r.upd0 u1).upd0 u2) b2
  have a3 : law02_blockOf_l0 K K l ⟨w.heap.size, 0, none⟩ ⟨w1.heap.size, 0, none⟩ 0 w2 = _ := a3
  obtain ⟨w4, a4, b4, u4⟩ := stA16 ((b1.upd0 u2).upd u3 (by omega)) z42_len h
  refine ⟨w4, ?_, ((u1.and0 u2).trans' u3 fun k hk e => by omega).trans' u4 fun k hk e => by omega⟩
  unfold law02_blockOf
  rw [n1, bnd_ok, n2, bnd_ok, a3, bnd_ok, ldA16 b3 h, Option.bind_some, if_pos (size16 h), a4, Option.bind_some, ldA16 b4 h, Option.bind_some]

theorem num_re (e : Int) : law02_num e = some (e, ()) := rfl

theorem does_ok {K : Nat} (hK : 300 ≤ K) {key : Sl} {ks : List Int} {w : World} (rc : Rc w) (hks : ∀ z ∈ ks, InK .u8 z) (r : RdS .u8 w key ks) (hb : ∀ p, key.a = some p → p.block < w.heap.size) (hl : ks.length = 16 ∨ ks.length = 24 ∨ ks.length = 32)
    {A C : List Int} (hA : B16 A) (hC : B16 C) (h1 : encB (schedS ks) A = C) (h2 : decB (schedS ks) C = A) :
    ∃ w', law02_does K key (ints .u8 A).toArray (ints .u8 C).toArray w = some ((true, ()), w') ∧ Upd none_ w w' := by
  obtain ⟨w1, n1, b1, u1, z1⟩ := newB_ok (ints .u8 A).toArray 42 w
  obtain ⟨w2, n2, b2, u2, z2⟩ := newB_ok (ints .u8 C).toArray 42 w1
  have q2 := u1.and0 u2
  have b1 : Bk 42 w1 w.heap.size (ints .u8 A) := b1
  have b2 : Bk 42 w2 w1.heap.size (ints .u8 C) := b2
  obtain ⟨g, t, gw, gb, w3, a3, k3, hg, ht, hgw, hgb, u3⟩ := New_ok hK (Rd.upd rc q2 fun _ => id) hks (r.upd0 q2) (fun p hp => by have := hb p hp; omega) hl
  obtain ⟨w4, a4, u4⟩ := Encrypt_ok hK k3 hA
  rw [h1] at a4
  obtain ⟨w5, n5, b5, u5, z5⟩ := newB_ok z42 42 w4
  obtain ⟨w6, a6, b6, u6⟩ := stA16 b5 z42_len hC
  have u46 : Upd none_ w4 w6 := u5.trans' u6 fun k hk e => by omega
  obtain ⟨w7, a7, u7⟩ := Decrypt_ok hK ((k3.upd0 u4).upd0 u46) hC
  rw [h2] at a7
  obtain ⟨w8, n8, b8, u8, z8⟩ := newB_ok z42 42 w7
  obtain ⟨w9, a9, b9, u9⟩ := stA16 b8 z42_len hA
  have hz6 := u6.size
  have hz7 := u7.size
  have u79 : Upd none_ w7 w9 := u8.trans' u9 fun k hk e => by omega
  have b6' := (b6.upd0 u7).upd0 u79
  have q9 := ((u3.and0 u4).and0 u46).and0 (u7.and0 u79)
  have b1' := (b1.upd0 u2).upd0 q9
  have b2' := b2.upd0 q9
  have b1'' := (b1.upd0 u2).upd0 u3
  refine ⟨w9, ?_, q2.and0 q9⟩
  have s0 : law02_does_s0 K (some ⟨g, 0, none⟩) 0 w3 = some ((false, ()), w3) := rfl
  unfold law02_does
  rw [n1, bnd_ok, n2, bnd_ok, a3, bnd_ok, s0, bnd_ok, if_neg (show ¬ false = true by decide), ldA16 b1'' hA, Option.bind_some, a4, bnd_ok, n5, bnd_ok, if_pos (size16 hC), a6, Option.bind_some, ldA16 b6 hC, Option.bind_some, a7, bnd_ok, n8, bnd_ok, if_pos (size16 hA), a9, Option.bind_some, num_re, Option.bind_some, if_pos (show ((0 : Int) == 0) = true from rfl), Option.bind_some, if_pos (show ((0 : Int) == 0) = true from rfl),
    ldA16 b6' hC, Option.bind_some, ldA16 b2' hC, Option.bind_some, eq42 hC.1 hC.1, bnd_ok, decide_eq_true rfl]
  have hB : ∀ b : Bool, asB (.bool b) = some b := fun _ => rfl
  rw [hB, Option.bind_some, if_pos rfl, ldA16 b9 hA, Option.bind_some, ldA16 b1' hA, Option.bind_some, eq42 hA.1 hA.1, bnd_ok, decide_eq_true rfl]
  rfl

end Go.Sh

/- Package rijndael: bytes are copied; a key is wrapped. -/
set_option linter.unusedVariables false
set_option maxRecDepth 100000
namespace Go.Sh
open Go.Fw Go.Gf Go.RowKit Go.Proofs.Tryd

theorem size5 : (prog.info? 5).map (·.size) = some 1 := by kernel_rfl

theorem cpyB {w : World} {b : Sl} {vs : List Value} (hx : Src w b vs) {e : TypeId} {g o dLen dCap : Nat} {cs : List Value} (hb : Bk e w g cs) (hl : o + min b.len dLen ≤ cs.length) :
    ∃ w', cpy prog 22 22 (.slice (some ⟨g, o, none⟩) dLen dCap) (.slice b.a b.len b.cap) w = some (((min b.len dLen : Nat) : Int), w') ∧ Bk e w' g (seg cs o (vs.take (min b.len dLen))) ∧ Upd (· = g) w w' := by
  have hlen := hx.len
  rcases hx.rd with ⟨h1, h2, h3⟩ | ⟨p, h1, h2⟩
  · have h0 : b.len = 0 := by rw [hlen, h3]; rfl
    have hr := run_copy_nil (P := prog) w 22 22 0 5 ⟨g, o, none⟩ dLen dCap sliceB.ht (by rw [size5]; rfl)
    refine ⟨w, ?_, ?_, Upd.refl _ _⟩
    · unfold cpy
      rw [h1, h0, h2, hr]
      simp [goInt]
    · rw [h3]; simpa [seg] using hb
  · have hr := run_copy_row (P := prog) w 22 22 0 5 g o dLen dCap p b.len b.cap cs.toArray e (vs.take (min b.len dLen)) sliceB.ht size5 hb (by simp [hlen])
      (fun j v hv => h2 j v (by
        rw [List.getElem?_take] at hv
        split at hv
        · exact hv
        · cases hv)) (by simp [hlen] at hl ⊢; omega) (fun v hv => hx.one v (List.mem_of_mem_take hv))
    refine ⟨w.setRow g (cs.take o ++ vs.take (min b.len dLen) ++ cs.drop (o + (vs.take (min b.len dLen)).length)).toArray, ?_, ?_, Upd.setRow w g _⟩
    · unfold cpy
      rw [h1, hr]
      have : (vs.take (min b.len dLen)).length = min b.len dLen := by simp [hlen]
      simp only [goInt, this]
    · have := hb.setRow (cs.take o ++ vs.take (min b.len dLen) ++ cs.drop (o + (vs.take (min b.len dLen)).length)).toArray
      simpa [seg] using this

theorem RdS.src {w : World} {s : Sl} {zs : List Int} (h : RdS .u8 w s zs) (hne : zs ≠ []) : Src w s (ints .u8 zs) := by
  rcases h.rd with e | ⟨p, e, hr⟩
  · exact absurd e hne
  · exact ⟨by rw [ints_length]; exact h.len, h.cap, .inr ⟨p, e, hr⟩, ints_one⟩

/-- eight bytes of a list -/
def cut8 (L : List Int) (j : Nat) : List Int := (L.drop j).take 8
theorem cut8_len {L : List Int} {j : Nat} (h : j + 8 ≤ L.length) : (cut8 L j).length = 8 := by unfold cut8; rw [List.length_take, List.length_drop]; omega
theorem cut8_in {L : List Int} (h : ∀ z ∈ L, InK .u8 z) (j : Nat) : ∀ z ∈ cut8 L j, InK .u8 z := fun z hz => h z (List.mem_of_mem_drop (List.mem_of_mem_take hz))
/-- eight bytes put in their place -/
def put8 (L : List Int) (j : Nat) (Y : List Int) : List Int := L.take j ++ Y ++ L.drop (j + 8)
theorem put8_len {L Y : List Int} {j : Nat} (h : j + 8 ≤ L.length) (hy : Y.length = 8) : (put8 L j Y).length = L.length := by unfold put8; rw [List.length_append, List.length_append, List.length_take, List.length_drop, hy]; omega
theorem put8_in {L Y : List Int} (h : ∀ z ∈ L, InK .u8 z) (hy : ∀ z ∈ Y, InK .u8 z) (j : Nat) : ∀ z ∈ put8 L j Y, InK .u8 z := fun z hz => by
  rcases List.mem_append.1 hz with h1 | h1
  · rcases List.mem_append.1 h1 with h2 | h2
    · exact h z (List.mem_of_mem_take h2)
    · exact hy z h2
  · exact h z (List.mem_of_mem_drop h1)

/-- eight bytes of a slice copied to a block's end -/
theorem cpy_out {w : World} {rs : Sl} {R : List Int} (o : Own 5 w rs (ints .u8 R)) {j : Nat} (hj : j + 8 ≤ R.length) {gb : Nat} {X Z : List Int} (b : Bk 42 w gb (ints .u8 (X ++ Z))) (hx : X.length = 8) (hz : Z.length = 8) :
    ∃ w', cpy prog 22 22 (.slice (sla (some ⟨gb, 0, none⟩) 8 16 1) (16 - 8) (16 - 8)) (.slice (sla rs.a j rs.cap 1) (rs.len - j) (rs.cap - j)) w = some (8, w') ∧ Bk 42 w' gb (ints .u8 (X ++ cut8 R j)) ∧ Upd (· = gb) w w' := by
  have hrl := o.len
  rw [ints_length] at hrl
  have r := o.rd.sub (lo := j) (hi := R.length) (by omega) (Nat.le_refl _)
  rw [List.take_length] at r
  have hs := RdS.src r (by intro e; have := congrArg List.length e; rw [List.length_drop] at this; simp at this; omega)
  have hm : min (R.length - j) 8 = 8 := by omega
  obtain ⟨w', a1, a2, a3⟩ := cpyB hs (e := 42) (g := gb) (o := 8) (dLen := 16 - 8) (dCap := 16 - 8) b (by
    show 8 + min (R.length - j) 8 ≤ _
    rw [hm, ints_length, List.length_append, hx, hz]; decide)
  refine ⟨w', ?_, ?_, a3⟩
  · rw [hrl, at8]
    have a1 : cpy prog 22 22 (.slice (some ⟨gb, 8, none⟩) (16 - 8) (16 - 8)) (.slice (sla rs.a j rs.cap 1) (R.length - j) (rs.cap - j)) w = some (((min (R.length - j) 8 : Nat) : Int), w') := a1
    rw [hm] at a1
    exact a1
  · have a2 : Bk 42 w' gb (seg (ints .u8 (X ++ Z)) 8 ((ints .u8 (R.drop j)).take (min (R.length - j) 8))) := a2
    rw [hm, ints_take] at a2
    have e8 := seg8 (B := X ++ Z) (by rw [List.length_append, hx, hz]) (cut8_len hj)
    rw [List.take_append_of_le_length (by omega), List.take_of_length_le (by omega)] at e8
    rw [← e8]; exact a2

/-- a block's last eight bytes copied into a slice -/
theorem cpy_in {w : World} {rs : Sl} {R : List Int} (o : Own 5 w rs (ints .u8 R)) {j : Nat} (hj : j + 8 ≤ R.length) {gb : Nat} {B : List Int} (b : Bk 42 w gb (ints .u8 B)) (hB : B16 B) {n : Nat} (hn : n = 8) :
    ∃ w', cpy prog 22 22 (.slice (sla rs.a j rs.cap 1) n (rs.cap - j)) (.slice (sla (some ⟨gb, 0, none⟩) 8 16 1) (16 - 8) (16 - 8)) w = some (8, w') ∧ Own 5 w' rs (ints .u8 (put8 R j (B.drop 8))) ∧ Upd (fun k => rs.blk = some k) w w' := by
  subst hn
  have hrl := o.len
  rw [ints_length] at hrl
  obtain ⟨g, cs, a1, a2, a3, a4, a5, a6⟩ := o.bk (by intro e; have := congrArg List.length e; rw [ints_length, List.length_nil] at this; omega)
  have r := (sl8 b hB).sub (lo := 8) (hi := 16) (by decide) (by rw [hB.1]; decide)
  rw [List.take_of_length_le (by rw [hB.1]; decide)] at r
  have hl8 : (B.drop 8).length = 8 := by rw [List.length_drop, hB.1]
  have hs := RdS.src r (by intro e; rw [e] at hl8; cases hl8)
  obtain ⟨w', c1, c2, c3⟩ := cpyB hs (e := 5) (g := g) (o := j) (dLen := 8) (dCap := rs.cap - j) a2 (by
    show j + min 8 8 ≤ _
    rw [Nat.min_self]; omega)
  refine ⟨w', ?_, ?_, c3.mono fun k _ hk => by simp [Sl.blk, a1, hk]⟩
  · have es : sla rs.a j rs.cap 1 = some ⟨g, j, none⟩ := by rw [a1, sla_some (by omega), add_lit, Nat.mul_one, Nat.zero_add]
    rw [es]; exact c1
  · have c2 : Bk 5 w' g (seg cs j ((ints .u8 (B.drop 8)).take 8)) := c2
    rw [List.take_of_length_le (by rw [ints_length, hl8]; decide)] at c2
    have ho := Own.of_bk c2 a3 a4 (by rw [seg_length (by rw [ints_length, hl8]; omega)]; exact a5)
    have hs : rs = ⟨some ⟨g, 0, none⟩, rs.len, rs.cap⟩ := by cases rs; simp_all
    rw [hs]
    have : ints .u8 (put8 R j (B.drop 8)) = (seg cs j (ints .u8 (B.drop 8))).take rs.len := by
      have hcs : cs.take j = ints .u8 (R.take j) := by rw [← ints_take, ← a6, List.take_take, Nat.min_eq_left (by omega)]
      have hcd : (cs.drop (j + 8)).take (rs.len - (j + 8)) = ints .u8 (R.drop (j + 8)) := by
        have : ints .u8 (R.drop (j + 8)) = (ints .u8 R).drop (j + 8) := by simp [ints, List.map_drop]
        rw [this, ← a6, List.drop_take]
      unfold put8 seg
      rw [ints_append, ints_append, ints_length, hl8, List.take_append, List.length_append, ints_length, hl8, List.length_take, Nat.min_eq_left (by omega), hcd, List.take_of_length_le (l := cs.take j ++ ints .u8 (B.drop 8)) (i := rs.len) (by rw [List.length_append, ints_length, hl8, List.length_take]; omega), hcs]
    rw [this]; exact ho

theorem mkB_room (w : World) {l c : Nat} (hl : l ≤ c) (hc : c ≤ 1099511627776) :
    ∃ w', mkS prog 22 (.int .i64 (l : Int)) (.int .i64 (c : Int)) w = some (⟨some ⟨w.heap.size, 0, none⟩, l, c⟩, w') ∧ Own 5 w' ⟨some ⟨w.heap.size, 0, none⟩, l, c⟩ (ints .u8 (List.replicate l 0)) ∧ Upd none_ w w' := by
  obtain ⟨i, hi, hsz, hz, hby⟩ := sliceB.info
  have hb' : (i.bytes : Int) * (c : Int) ≤ 281474976710656 := by rw [hby]; omega
  have hr := run_make (P := prog) w 22 5 i (.int .u8 0) sliceB.ht hi hz .i64 .i64 l c (by omega) (by omega) hb' (by omega)
  simp only [Int.toNat_natCast, hsz] at hr
  have hb := Bk.new w (madeCells (Value.int .u8 0).cells (c * 1)) 5
  have hcs : (madeCells (Value.int .u8 0).cells (c * 1)).toList = ints .u8 (List.replicate c 0) := by
    apply List.ext_getElem
    · simp [madeCells]
    · intro k h1 h2; simp [madeCells, Nat.mod_one, Value.cells]
  rw [hcs] at hb
  have ho := Own.of_bk hb hl (by simp only [maxLen]; omega) (by rw [ints_length, List.length_replicate])
  rw [ints_take, List.take_replicate, Nat.min_eq_left hl] at ho
  refine ⟨_, ?_, ho, Upd.alloc _ _ _⟩
  unfold mkS
  rw [hr]

/-! ### Wrap -/
def wStep (S : List W4) (n t : Nat) (st : Nat × List Int) : Nat × List Int :=
  (numN ((encB S (layB 8 st.1 ++ cut8 st.2 (t % n * 8))).take 8) ^^^ (t + 1), put8 st.2 (t % n * 8) ((encB S (layB 8 st.1 ++ cut8 st.2 (t % n * 8))).drop 8))
def wRun (S : List W4) (D : List Int) : Nat → Nat × List Int
  | 0 => (12008468691120727718, D)
  | t + 1 => wStep S (D.length / 8) t (wRun S D t)
def wrapL (S : List W4) (D : List Int) : List Int := layB 8 (wRun S D (6 * (D.length / 8))).1 ++ (wRun S D (6 * (D.length / 8))).2

theorem lay_cut {a : Nat} {R : List Int} (hR : ∀ z ∈ R, InK .u8 z) {j : Nat} (hj : j + 8 ≤ R.length) : B16 (layB 8 a ++ cut8 R j) :=
  ⟨by rw [List.length_append, layB_len, cut8_len hj], fun z hz => by
    rcases List.mem_append.1 hz with h | h
    · exact layB_in _ _ z h
    · exact cut8_in hR j z h⟩
theorem B16.hi_lt {B : List Int} (h : B16 B) : numN (B.take 8) < 18446744073709551616 := numN8 (fun z hz => h.2 z (List.mem_of_mem_take hz)) (by rw [List.length_take, h.1]; rfl)
theorem B16.lo_len {B : List Int} (h : B16 B) : (B.drop 8).length = 8 := by rw [List.length_drop, h.1]
theorem B16.lo_in {B : List Int} (h : B16 B) : ∀ z ∈ B.drop 8, InK .u8 z := fun z hz => h.2 z (List.mem_of_mem_drop hz)

theorem mod8_le {n t len : Nat} (hn : 0 < n) (hl : len = 8 * n) : t % n * 8 + 8 ≤ len := by
  have := Nat.mod_lt t hn; omega

theorem wRun_ok {S : List W4} (hS : ∀ x ∈ S, x.ok) {D : List Int} (hD : ∀ z ∈ D, InK .u8 z) {n : Nat} (hn : 0 < n) (hl : D.length = 8 * n) :
    ∀ t, t ≤ 100000 → (wRun S D t).1 < 18446744073709551616 ∧ (wRun S D t).2.length = 8 * n ∧ ∀ z ∈ (wRun S D t).2, InK .u8 z
  | 0, _ => ⟨by show 12008468691120727718 < _; decide, hl, hD⟩
  | t + 1, ht => by
    obtain ⟨h1, h2, h3⟩ := wRun_ok hS hD hn hl t (by omega)
    have hn8 : D.length / 8 = n := by omega
    have hj := mod8_le (t := t) hn h2
    have hb := encB_16 hS (lay_cut (a := (wRun S D t).1) h3 hj)
    refine ⟨?_, ?_, ?_⟩
    · show numN ((encB S (layB 8 (wRun S D t).1 ++ cut8 (wRun S D t).2 (t % (D.length / 8) * 8))).take 8) ^^^ (t + 1) < _
      rw [hn8]
      exact Nat.xor_lt_two_pow (n := 64) hb.hi_lt (by omega)
    · show (put8 _ (t % (D.length / 8) * 8) _).length = _
      rw [hn8, put8_len hj hb.lo_len, h2]
    · show ∀ z ∈ put8 _ (t % (D.length / 8) * 8) _, InK .u8 z
      rw [hn8]; exact put8_in h3 hb.lo_in _

theorem xorN64 {a b : Nat} (ha : a < 18446744073709551616) (hb : b < 18446744073709551616) : bits .xor .u64 (a : Int) (b : Int) = ((a ^^^ b : Nat) : Int) := (bits_nats (k := .u64) rfl ha hb).2.2

def regC (a : Nat) (rs : Sl) : List Value := [.int .u64 (a : Int), slV rs]
theorem rg_a {w : World} {g a : Nat} {rs : Sl} (b : Bk 111 w g (regC a rs)) : ldI .u64 ((⟨g, 0, none⟩ : Addr).add 0) w = some (a : Int) := by rw [add_lit]; exact b.ldI (i := 0 + 0) rfl
theorem rg_r {w : World} {g a : Nat} {rs : Sl} (b : Bk 111 w g (regC a rs)) : ldS ((⟨g, 0, none⟩ : Addr).add 1) w = some rs := by rw [add_lit]; exact b.ldS (i := 0 + 1) rfl
theorem rg_set {w : World} {g a : Nat} {rs : Sl} (b : Bk 111 w g (regC a rs)) (a' : Nat) : ∃ w', stC ((⟨g, 0, none⟩ : Addr).add 0) (.int .u64 (a' : Int)) w = some w' ∧ Bk 111 w' g (regC a' rs) ∧ Upd (· = g) w w' := by
  rw [add_lit]; exact b.stC (i := 0) (by show 0 < 2; decide) _

theorem i64n {n : Nat} (h : n < 9223372036854775808) : IntKind.i64.wrap (n : Int) = (n : Int) := w64 (by omega) (by omega)

theorem wrap_loop {K : Nat} (hK : 300 ≤ K) {g t gw gb kl : Nat} {S : List W4} {D : List Int} (hD : ∀ z ∈ D, InK .u8 z) {n : Nat} (hn : 0 < n) (hl : D.length = 8 * n) (hn2 : n ≤ 512) {s8 : Nat} {rs : Sl}
    (hrs : ∀ k, rs.blk = some k → k ≠ s8 ∧ k ≠ g ∧ k ≠ t ∧ k ≠ gw ∧ k ≠ gb) :
    ∀ (d i f : Nat) (w : World), d + i = 6 * n → d < f → KeyAt w g t gw gb kl S → Bk 111 w s8 (regC (wRun S D i).1 rs) → Own 5 w rs (ints .u8 (wRun S D i).2) →
      ∃ w', rijndael_Wrap_l2 K f (some ⟨g, 0, none⟩) ⟨some ⟨gw, 0, none⟩, S.length, S.length⟩ ⟨s8, 0, none⟩ (n : Int) ((6 * n : Nat) : Int) (i : Int) w = some ((), w') ∧ Bk 111 w' s8 (regC (wRun S D (6 * n)).1 rs) ∧ Own 5 w' rs (ints .u8 (wRun S D (6 * n)).2) ∧ Upd (fun k => k = s8 ∨ rs.blk = some k) w w' := by
  intro d
  induction d with
  | zero =>
    intro i f w hd hf k b o
    obtain ⟨f, rfl⟩ : ∃ m, f = m + 1 := ⟨f - 1, by omega⟩
    obtain rfl : i = 6 * n := by omega
    refine ⟨w, ?_, b, o, Upd.refl _ w⟩
    have eu : rijndael_Wrap_l2 K (f + 1) = rijndael_Wrap_l2_b K (rijndael_Wrap_l2 K f) := rfl
    rw [eu]
    unfold rijndael_Wrap_l2_b
    rw [if_neg (fun e => by have := of_decide_eq_true e; omega)]
  | succ d ih =>
    intro i f w hd hf k b o
    obtain ⟨f, rfl⟩ : ∃ m, f = m + 1 := ⟨f - 1, by omega⟩
    have hS := k.ok
    have hi : i < 6 * n := by omega
    have hi5 : i < 100000 := by omega
    obtain ⟨h1, h2, h3⟩ := wRun_ok hS hD hn hl i (by omega)
    have hn8 : D.length / 8 = n := by omega
    have hj := mod8_le (t := i) hn h2
    have hmod : i % n < n := Nat.mod_lt i hn
    obtain ⟨a, ha⟩ : ∃ a, a = (wRun S D i).1 := ⟨_, rfl⟩
    obtain ⟨R, hR⟩ : ∃ R, R = (wRun S D i).2 := ⟨_, rfl⟩
    rw [← ha] at b h1
    rw [← hR] at o h2 h3 hj
    have hnext : wRun S D (i + 1) = (numN ((encB S (layB 8 a ++ cut8 R (i % n * 8))).take 8) ^^^ (i + 1), put8 R (i % n * 8) ((encB S (layB 8 a ++ cut8 R (i % n * 8))).drop 8)) := by
      show wStep S (D.length / 8) i (wRun S D i) = _
      unfold wStep
      rw [hn8, ← ha, ← hR]
    obtain ⟨j, hjd⟩ : ∃ j, j = i % n * 8 := ⟨_, rfl⟩
    rw [← hjd] at hj hnext
    have hj5 : j < 5000 := by omega
    have hIn := lay_cut (a := a) h3 hj
    have hE := encB_16 hS hIn
    obtain ⟨E, hEd⟩ : ∃ E, E = encB S (layB 8 a ++ cut8 R j) := ⟨_, rfl⟩
    rw [← hEd] at hE hnext
    -- the steps
    obtain ⟨w1, n1, b1, u1, z1⟩ := newB_ok z42 42 w
    have b1 : Bk 42 w1.drew w.heap.size (ints .u8 (List.replicate 8 0 ++ List.replicate 8 0)) := b1
    have q1 : Upd none_ w w1.drew := u1.drew
    obtain ⟨w2, a2, b2, u2⟩ := lay_ok hK (e := 42) (g := w.heap.size) (o := 0) (size := 8) (n := a) (len := 16 - 0) (cap := 16 - 0) (by decide) (by decide) (by decide) h1 b1
    rw [seg0 (by rw [List.length_replicate]) (layB_len _ _)] at b2
    have a2 : rijndael_lay K ⟨some ⟨w.heap.size, 0, none⟩, 16 - 0, 16 - 0⟩ 8 (a : Int) w1.drew = some ((), w2) := a2
    have q2 : Upd none_ w w2 := q1.trans' u2 fun k hk e => by omega
    have hrl := o.len
    rw [ints_length] at hrl
    obtain ⟨w3, a3, b3, u3⟩ := cpy_out (w := w2.drew) (o.upd0 q2).drew hj b2 (layB_len _ _) List.length_replicate
    have u3 : Upd (· = w.heap.size) w2 w3 := u3.predrew
    have q3 : Upd none_ w w3 := q2.trans' u3 fun k hk e => by omega
    have k3 := k.upd0 q3
    obtain ⟨w4, a4, u4⟩ := encT_ok hK (w := w3.drew) (k3.upd0 (Upd.refl none_ w3).drew) hIn
    rw [← hEd] at a4
    have u4 : Upd none_ w3 w4 := u4.predrew
    obtain ⟨w5, a5, b5, u5⟩ := stA16 (b3.upd0 u4) (ints16 hIn) hE
    have q5 : Upd none_ w w5 := (q3.and0 u4).trans' u5 fun k hk e => by omega
    have hnum := number_hi hK b5 hE (len := 16 - 0) (cap := 16 - 0) (by decide) (by decide) rfl
    have hElt := hE.hi_lt
    obtain ⟨w6, a6, b6, u6⟩ := rg_set (b.upd0 q5) (numN (E.take 8) ^^^ (i + 1))
    have hs8 := b.lt
    have o6 := (o.upd0 q5).upd u6 (fun k hk e => by have := (hrs k hk).1; omega)
    have b56 : Bk 42 w6 w.heap.size (ints .u8 E) := b5.upd u6 (by show ¬ w.heap.size = s8; omega)
    obtain ⟨w7, a7, o7, u7⟩ := cpy_in (w := w6.drew) o6.drew hj b56.drew hE (n := j + 8 - j) (by omega)
    have u7 : Upd (fun k => rs.blk = some k) w6 w7 := u7.predrew
    have q7 : Upd (fun k => k = s8 ∨ rs.blk = some k) w w7 := ((q5.mono fun _ _ e => e.elim).trans' (u6.mono fun _ _ e => .inl e) fun _ _ e => e).trans' (u7.mono fun _ _ e => .inr e) fun _ _ e => e
    have b7 := b6.upd u7 (fun e => (hrs _ e).1 rfl)
    have k0 := k.b
    have x1 : g ≠ s8 := Bk.apart (by decide) k.b b
    have x2 : t ≠ s8 := Bk.apart (by decide) k.bt b
    have x3 : gw ≠ s8 := Bk.apart (by decide) k.bw b
    have x4 : gb ≠ s8 := Bk.apart (by decide) k.bb b
    have k7 := k.upd q7 (fun e => e.elim x1 fun e => (hrs _ e).2.1 rfl) (fun e => e.elim x2 fun e => (hrs _ e).2.2.1 rfl) (fun e => e.elim x3 fun e => (hrs _ e).2.2.2.1 rfl) (fun e => e.elim x4 fun e => (hrs _ e).2.2.2.2 rfl)
    have e1st : (wRun S D (i + 1)).1 = numN (E.take 8) ^^^ (i + 1) := by rw [hnext]
    have e2nd : (wRun S D (i + 1)).2 = put8 R j (E.drop 8) := by rw [hnext]
    obtain ⟨w8, g1, g2, g3, g4⟩ := ih (i + 1) f w7 (by omega) (by omega) k7 (by rw [e1st]; exact b7) (by rw [e2nd]; exact o7)
    refine ⟨w8, ?_, g2, g3, q7.trans' g4 fun _ _ e => e⟩
    have e1 : IntKind.i64.wrap ((i : Int) + 1) = ((i + 1 : Nat) : Int) := by rw [w64 (by omega) (by omega)]; rfl
    have ej : IntKind.i64.wrap (Int.tmod (i : Int) (n : Int) * 8) = (j : Int) := by
      have : Int.tmod (i : Int) (n : Int) = ((i % n : Nat) : Int) := tmod_nat i n
      rw [this, w64 (by omega) (by omega), hjd]; omega
    have ej8 : IntKind.i64.wrap ((j : Int) + 8) = ((j + 8 : Nat) : Int) := by rw [w64 (by omega) (by omega)]; omega
    have eu : rijndael_Wrap_l2 K (f + 1) = rijndael_Wrap_l2_b K (rijndael_Wrap_l2 K f) := rfl
    have hcap := o.cap
    have lT : ldP ((⟨g, 0, none⟩ : Addr).add 7) w3.drew = some (some ⟨t, 0, none⟩) := (k3.upd0 (Upd.refl none_ w3).drew).ldT
    have l16 : ldA 16 ⟨w.heap.size, 0, none⟩ w3.drew = some (ints .u8 (layB 8 a ++ cut8 R j)).toArray := ldA16 b3.drew hIn
    have exor : bits .xor .u64 ((numN (E.take 8) : Nat) : Int) (IntKind.u64.wrap ((i + 1 : Nat) : Int)) = ((numN (E.take 8) ^^^ (i + 1) : Nat) : Int) := by
      rw [wru64 (by omega), xorN64 hElt (by omega)]
    rw [eu]
    unfold rijndael_Wrap_l2_b
    rw [if_pos (decide_eq_true (by omega)), if_pos (show (n : Int) ≠ 0 by omega), n1, bnd_ok, rg_a (b.upd0 q1), Option.bind_some, at0, a2, bnd_ok, rg_r (b.upd0 q2).drew, Option.bind_some, ej, if_pos ⟨by omega, by omega⟩, Int.toNat_natCast, a3, bnd_ok, Option.bind_some, lT, Option.bind_some, l16, Option.bind_some, a4, bnd_ok, if_pos (size16 hE), a5, Option.bind_some]
    rw [at0] at hnum
    rw [hnum, Option.bind_some, e1]
    show ((stC _ (.int .u64 (bits .xor .u64 ((numN (E.take 8) : Nat) : Int) (IntKind.u64.wrap ((i + 1 : Nat) : Int)))) w5).bind _) = _
    rw [exor, a6, Option.bind_some, rg_r b6.drew, Option.bind_some, ej8, if_pos ⟨by omega, by omega⟩, Int.toNat_natCast, if_pos ⟨by omega, by omega⟩, a7, bnd_ok, g1]

theorem built111 (s : Sl) : prog.built 111 [(0, (.int .u64 12008468691120727718)), (1, (.slice s.a s.len s.cap))] = some #[.int .u64 12008468691120727718, .slice s.a s.len s.cap] := by kernel_rfl
theorem z111_len : z111.toList.length = 2 := rfl

theorem Wrap_s0_ok {K : Nat} {plain : Sl} {n : Nat} (hl : plain.len = 8 * n) (hn : 2 ≤ n) (hn2 : n ≤ 512) (w : World) : rijndael_Wrap_s0 K plain 0 w = some (.norm (), w) := by
  have e8 : Int.tmod ((8 * n : Nat) : Int) 8 = 0 := by
    have : Int.tmod ((8 * n : Nat) : Int) 8 = ((8 * n % 8 : Nat) : Int) := tmod_nat (8 * n) 8
    rw [this]; omega
  have e1 : rijndael_Wrap_s1 K plain w = some ((false, ()), w) := by
    unfold rijndael_Wrap_s1
    rw [hl, if_neg (fun e => by have := of_decide_eq_true e; omega), e8]; rfl
  unfold rijndael_Wrap_s0
  rw [if_neg (show ¬ ((0 : Int) != 0) = true by decide), e1, bnd_ok, if_neg (show ¬ false = true by decide), hl, if_neg (fun e => by have := of_decide_eq_true e; omega)]

theorem Wrap_ok {K : Nat} (hK : 18446744073709551616 ≤ K) {w : World} {g t gw gb kl : Nat} {S : List W4} (k : KeyAt w g t gw gb kl S) {plain : Sl} {D : List Int} (hD : ∀ z ∈ D, InK .u8 z) (r : RdS .u8 w plain D) {n : Nat} (hl : D.length = 8 * n) (hn : 2 ≤ n) (hn2 : n ≤ 512) :
    ∃ s w', rijndael_Wrap K (some ⟨g, 0, none⟩) plain w = some ((s, 0, ()), w') ∧ Own 5 w' s (ints .u8 (wrapL S D)) ∧ Fresh w.heap.size s ∧ Upd none_ w w' := by
  have hlen := r.len
  rw [hl] at hlen
  have hne : D ≠ [] := fun e => by rw [e] at hl; simp at hl; omega
  obtain ⟨rs, w1, a1, l1, o1, u1, f1⟩ := apd_ok sliceB (Own.nil 5 w) (RdS.src r hne) (by show (0 + plain.len) * 1 ≤ _; omega)
  rw [List.nil_append] at o1
  have u1 : Upd none_ w w1 := u1.mono fun x _ e => by cases e
  have hb1 : rs.blk = some w.heap.size := by
    rcases f1 with e | e
    · exfalso
      rcases o1.2 with ⟨x, y, z⟩ | ⟨g1, cur, x, _⟩
      · have : rs.len = 0 + plain.len := l1
        omega
      · have e : rs.blk = none := e
        simp [Sl.blk, x] at e
    · exact e
  have hlt1 := o1.lt hb1
  obtain ⟨w2, n2, b2, u2, z2⟩ := newB_ok z111 111 w1
  obtain ⟨w3, a3, b3, u3⟩ := b2.stA (o := 0) (vs := #[.int .u64 12008468691120727718, .slice rs.a rs.len rs.cap]) (by rw [z111_len]; exact Nat.le_refl 2) (fun v hv => by
    rcases List.mem_cons.1 hv with e | hv
    · rw [e]; rfl
    · rcases List.mem_cons.1 hv with e | hv
      · rw [e]; rfl
      · cases hv)
  rw [seg_all (by rw [z111_len]; rfl)] at b3
  have b3 : Bk 111 w3 w1.heap.size (regC (wRun S D 0).1 rs) := b3
  have q3 : Upd none_ w w3 := (u1.and0 u2).trans' u3 fun k hk e => by have := u1.size; omega
  have q13 : Upd none_ w1 w3 := u2.trans' u3 fun k hk e => by omega
  have k1 := k.b.lt
  have k2 := k.bt.lt
  have k4 := k.bw.lt
  have k5 := k.bb.lt
  obtain ⟨w4, c1, c2, c3, c4⟩ := wrap_loop (K := K) (by omega) (g := g) (t := t) (gw := gw) (gb := gb) (kl := kl) (S := S) hD (n := n) (by omega) hl hn2 (s8 := w1.heap.size) (rs := rs) (fun x hx => by
    rw [hb1] at hx
    have := Option.some.inj hx
    omega) (6 * n) 0 K w3 rfl (by omega) (k.upd0 q3) b3 (o1.upd0 q13)
  have c1 : rijndael_Wrap_l2 K K (some ⟨g, 0, none⟩) ⟨some ⟨gw, 0, none⟩, S.length, S.length⟩ ⟨w1.heap.size, 0, none⟩ (n : Int) ((6 * n : Nat) : Int) 0 w3 = _ := c1
  have q4 : Upd none_ w w4 := q3.trans' c4 fun x hx e => by
    rcases e with e | e
    · have := u1.size; omega
    · rw [hb1] at e; have := Option.some.inj e; omega
  obtain ⟨hr1, hr2, hr3⟩ := wRun_ok k.ok hD (show 0 < n by omega) hl (6 * n) (by omega)
  have hrl := c3.len
  rw [ints_length, hr2] at hrl
  obtain ⟨w5, a5, o5, u5⟩ := mkB_room w4 (l := 8) (c := 8 + 8 * n) (by omega) (by omega)
  have hbk5 := o5.bk (by intro e; cases e)
  obtain ⟨g6, cs6, x1, x2, x3, x4, x5, x6⟩ := hbk5
  obtain rfl : w4.heap.size = g6 := by
    have := Option.some.inj x1
    exact congrArg Addr.block this
  have x3 : 8 ≤ 8 + 8 * n := x3
  have x5 : cs6.length = 8 + 8 * n := x5
  obtain ⟨w6, a6, b6, u6⟩ := lay_ok (K := K) (by omega) (e := 5) (g := w4.heap.size) (o := 0) (size := 8) (n := (wRun S D (6 * n)).1) (len := 8) (cap := 8 + 8 * n) (by decide) (by decide) (by omega) hr1 x2
  have a6 : rijndael_lay K ⟨some ⟨w4.heap.size, 0, none⟩, 8, 8 + 8 * n⟩ 8 (((wRun S D (6 * n)).1 : Nat) : Int) w5 = some ((), w6) := a6
  have o6 : Own 5 w6 ⟨some ⟨w4.heap.size, 0, none⟩, 8, 8 + 8 * n⟩ (ints .u8 (layB 8 (wRun S D (6 * n)).1)) := by
    have := Own.of_bk (len := 8) (cap := 8 + 8 * n) b6 (by omega) (by simp only [maxLen]; omega) (by rw [seg_length (by rw [ints_length, layB_len]; omega)]; exact x5)
    have e : (seg cs6 0 (ints .u8 (layB 8 (wRun S D (6 * n)).1))).take 8 = ints .u8 (layB 8 (wRun S D (6 * n)).1) := by
      unfold seg
      rw [List.take_zero, List.nil_append, List.take_append_of_le_length (by rw [ints_length, layB_len]; decide), List.take_of_length_le (by rw [ints_length, layB_len]; decide)]
    rw [e] at this; exact this
  have hz4 := q4.size
  have hblt := c3.lt hb1
  have o6r := (c3.upd0 u5).upd u6 (fun x hx e => by rw [hb1] at hx; have := Option.some.inj hx; omega)
  obtain ⟨s7, w7, a7, l7, o7, u7, f7⟩ := apd_ok sliceB o6 (o6r.src ints_one) (by show (8 + rs.len) * 1 ≤ _; omega)
  have q6 : Upd none_ w w6 := (q4.and0 u5).trans' u6 fun x hx e => by omega
  refine ⟨s7, w7, ?_, ?_, ?_, q6.trans' u7 fun x hx e => by
    have : w4.heap.size = x := Option.some.inj e
    omega⟩
  · have hsch : rijndael_Key_schedule (some ⟨g, 0, none⟩) false w = some ((⟨some ⟨gw, 0, none⟩, S.length, S.length⟩, 0, ()), w) := sched_ok k false
    have e1 : IntKind.i64.wrap (Int.tdiv ((plain.len : Nat) : Int) 8) = (n : Int) := by
      have : Int.tdiv ((plain.len : Nat) : Int) 8 = ((plain.len / 8 : Nat) : Int) := tdiv_nat plain.len 8
      rw [this, i64n (by omega)]; omega
    have e2 : IntKind.i64.wrap (6 * (n : Int)) = ((6 * n : Nat) : Int) := by rw [w64 (by omega) (by omega)]; omega
    have e3 : IntKind.i64.wrap (8 + ((rs.len : Nat) : Int)) = ((8 + 8 * n : Nat) : Int) := by rw [hrl, w64 (by omega) (by omega)]; omega
    have hb111 := built111 rs
    have a1 : apd prog 22 22 (.slice none 0 0) (.slice plain.a plain.len plain.cap) w = some (rs, w1) := a1
    have a5 : mkS prog 22 (.int .i64 8) (.int .i64 ((8 + 8 * n : Nat) : Int)) w4 = some (⟨some ⟨w4.heap.size, 0, none⟩, 8, 8 + 8 * n⟩, w5) := a5
    have a7 : apd prog 22 22 (.slice (some ⟨w4.heap.size, 0, none⟩) 8 (8 + 8 * n)) (.slice rs.a rs.len rs.cap) w6 = some (s7, w7) := a7
    unfold rijndael_Wrap
    rw [hsch, bnd_ok, Wrap_s0_ok hlen hn hn2, bnd_ok]
    dsimp only
    rw [a1, bnd_ok, hb111, Option.bind_some, n2, bnd_ok, if_pos (show (#[Value.int .u64 12008468691120727718, Value.slice rs.a rs.len rs.cap] : Array Value).size = 2 from rfl), a3, Option.bind_some, e1, e2, c1, bnd_ok, rg_r c2, Option.bind_some, e3, a5, bnd_ok, rg_a (c2.upd0 u5), Option.bind_some, a6, bnd_ok, rg_r ((c2.upd0 u5).upd u6 (by have := u1.size; have := c2.lt; omega)), Option.bind_some, a7, bnd_ok]
  · unfold wrapL
    have : D.length / 8 = n := by omega
    rw [this, ints_append]; exact o7
  · intro x hx
    rcases f7 with e | e
    · rw [e] at hx
      have : w4.heap.size = x := Option.some.inj hx
      omega
    · rw [e] at hx
      have := Option.some.inj hx
      have := q6.size
      omega

end Go.Sh

/- The published examples: what the cipher answers, by the kernel. -/
set_option linter.unusedVariables false
set_option maxRecDepth 100000
namespace Go.Sh
open Go.Fw Go.Gf Go.RowKit Go.Proofs.Tryd

def vC1 : List Int := [105, 196, 224, 216, 106, 123, 4, 48, 216, 205, 183, 128, 112, 180, 197, 90]
def vC2 : List Int := [221, 169, 124, 164, 134, 76, 223, 224, 110, 175, 112, 160, 236, 13, 113, 145]
def vC3 : List Int := [142, 162, 183, 202, 81, 103, 69, 191, 234, 252, 73, 144, 75, 73, 96, 137]
theorem vE1 : encB (schedS (cntL 16 1)) (cntL 16 17) = vC1 := by decide +kernel
theorem vE2 : encB (schedS (cntL 24 1)) (cntL 16 17) = vC2 := by decide +kernel
theorem vE3 : encB (schedS (cntL 32 1)) (cntL 16 17) = vC3 := by decide +kernel
theorem vD1 : decB (schedS (cntL 16 1)) vC1 = cntL 16 17 := by decide +kernel
theorem vD2 : decB (schedS (cntL 24 1)) vC2 = cntL 16 17 := by decide +kernel
theorem vD3 : decB (schedS (cntL 32 1)) vC3 = cntL 16 17 := by decide +kernel
def vK : List Int := [43, 126, 21, 22, 40, 174, 210, 166, 171, 247, 21, 136, 9, 207, 79, 60]
theorem vW4 : (wN (schedS vK)).getD 4 0 = 2700803607 := by decide +kernel
theorem vW43 : (wN (schedS vK)).getD 43 0 = 3059944614 := by decide +kernel
def vS : List Int := (List.range 16).map fun i => ((240 + i : Nat) : Int)
def vI : List Int := [107, 193, 190, 226, 46, 64, 159, 150, 233, 61, 126, 17, 115, 147, 23, 42]
def vO : List Int := [135, 77, 97, 145, 182, 32, 227, 38, 27, 239, 104, 100, 153, 13, 182, 206]
theorem vX : xorL (schedS vK) vS 0 vI = vO := by decide +kernel
def vP : List Int := cntL 16 17 ++ cntL 16 1
def vU1 : List Int := [31, 166, 139, 10, 129, 18, 180, 71, 174, 243, 75, 216, 251, 90, 123, 130, 157, 62, 134, 35, 113, 210, 207, 229]
def vU2 : List Int := [40, 201, 244, 4, 196, 184, 16, 244, 203, 204, 179, 92, 251, 135, 248, 38, 63, 87, 134, 226, 216, 14, 211, 38, 203, 199, 240, 231, 26, 153, 244, 59, 251, 152, 139, 155, 122, 2, 221, 33]
theorem vU2_ok : wrapL (schedS (cntL 32 1)) vP = vU2 := by decide +kernel
theorem vU1_ok : wrapL (schedS (cntL 16 1)) (cntL 16 17) = vU1 := by decide +kernel
end Go.Sh

/- RijndaelVectors: the whole of it. -/
set_option linter.unusedVariables false
set_option maxRecDepth 100000
namespace Go.Sh
open Go.Fw Go.Gf Go.RowKit Go.Proofs.Tryd

theorem sched_f {w : World} {g t gw gb kl : Nat} {S : List W4} (k : KeyAt w g t gw gb kl S) : rijndael_Key_schedule (some ⟨g, 0, none⟩) false w = some ((⟨some ⟨gw, 0, none⟩, S.length, S.length⟩, 0, ()), w) := sched_ok k false

theorem own_b {w : World} {s : Sl} {xs : List Value} (o : Own 5 w s xs) : ∀ p, s.a = some p → p.block < w.heap.size := fun p hp => o.lt (by simp [Sl.blk, hp])
theorem fresh_b {w : World} {s : Sl} (f : Fresh w.heap.size s) : ∀ p, s.a = some p → w.heap.size ≤ p.block := fun p hp => f _ (by simp [Sl.blk, hp])

theorem ks16 : (cntL 16 1).length = 16 ∨ (cntL 16 1).length = 24 ∨ (cntL 16 1).length = 32 := .inl (cntL_len _ _)
theorem ks24 : (cntL 24 1).length = 16 ∨ (cntL 24 1).length = 24 ∨ (cntL 24 1).length = 32 := .inr (.inl (cntL_len _ _))
theorem ks32 : (cntL 32 1).length = 16 ∨ (cntL 32 1).length = 24 ∨ (cntL 32 1).length = 32 := .inr (.inr (cntL_len _ _))
theorem A16 : B16 (cntL 16 17) := ⟨cntL_len _ _, cntL_in _ _⟩
def allIn (L : List Int) : Bool := L.all fun z => decide (0 ≤ z ∧ z ≤ 255)
theorem allIn_ok {L : List Int} (h : allIn L = true) : ∀ z ∈ L, InK .u8 z := fun z hz => by
  have := of_decide_eq_true (List.all_eq_true.1 h z hz)
  exact ⟨this.1, by show z < 256; omega⟩
theorem C1 : B16 vC1 := ⟨rfl, allIn_ok (by decide)⟩
theorem C2 : B16 vC2 := ⟨rfl, allIn_ok (by decide)⟩
theorem C3 : B16 vC3 := ⟨rfl, allIn_ok (by decide)⟩

/-- a key of counted bytes, and a list of literal bytes -/
theorem litB (L : List Int) (hp : 0 < L.length) (hs : L.length ≤ 1000) (w : World) :
    ∃ s w', bldS prog 22 L.length ((ints .u8 L).zipIdx.map fun p => (p.2, p.1)).toArray w = some (s, w') ∧ Own 5 w' s (ints .u8 L) ∧ Fresh w.heap.size s ∧ Upd none_ w w' := by
  have hl : (ints .u8 L).length = L.length := ints_length L
  obtain ⟨w', h1, h2, h3, h4⟩ := bldS_ok sliceB (ints .u8 L) (fun v hv => by obtain ⟨x, _, rfl⟩ := List.mem_map.1 hv; rfl) (by omega) (by omega) w
  rw [hl] at h1 h2
  exact ⟨_, w', h1, h2, fun k hk => by have : w.heap.size = k := Option.some.inj hk; omega, h3⟩

theorem keyC_ok {K : Nat} (hK : 18446744073709551616 ≤ K) {n : Nat} (hn : n ≤ 1000) (hl : (cntL n 1).length = 16 ∨ (cntL n 1).length = 24 ∨ (cntL n 1).length = 32) {w : World} (rc : Rc w) :
    ∃ s w1 g t gw gb w', law02_counted K (n : Int) 1 w = some ((s, ()), w1) ∧ rijndael_New K s w1 = some ((some ⟨g, 0, none⟩, 0, ()), w') ∧ KeyAt w' g t gw gb (cntL n 1).length (schedS (cntL n 1)) ∧ w.heap.size ≤ g ∧ w.heap.size ≤ t ∧ w.heap.size ≤ gw ∧ w.heap.size ≤ gb ∧ Upd none_ w w' := by
  obtain ⟨s, w1, a1, o1, f1, u1⟩ := counted_ok (K := K) (by omega) hn (step := 1) (by decide) w
  obtain ⟨g, t, gw, gb, w2, a2, k2, h1, h2, h3, h4, u2⟩ := New_ok (K := K) (by omega) (Rd.upd rc u1 fun _ => id) (cntL_in n 1) o1.rd (own_b o1) hl
  have := u1.size
  exact ⟨s, w1, g, t, gw, gb, w2, a1, a2, k2, by omega, by omega, by omega, by omega, u1.and0 u2⟩

theorem wrapC_s1 {K : Nat} (hK : 18446744073709551616 ≤ K) {s : Sl} {w : World} (o : Own 5 w s (ints .u8 vU1)) : ∃ w', law02_wraps_s1 K 0 s w = some ((false, ()), w') ∧ Upd none_ w w' := by
  obtain ⟨s2, w1, a1, o1, f1, u1⟩ := litB vU1 (by decide) (by decide) w
  obtain ⟨w2, a2, u2⟩ := SameBytes_ok hK (o.upd0 u1).rd o1.rd (by decide)
  rw [decide_eq_true rfl] at a2
  refine ⟨w2, ?_, u1.and0 u2⟩
  have a1 : bldS prog 22 24 #[(0, (.int .u8 31)), (1, (.int .u8 166)), (2, (.int .u8 139)), (3, (.int .u8 10)), (4, (.int .u8 129)), (5, (.int .u8 18)), (6, (.int .u8 180)), (7, (.int .u8 71)), (8, (.int .u8 174)), (9, (.int .u8 243)), (10, (.int .u8 75)), (11, (.int .u8 216)), (12, (.int .u8 251)), (13, (.int .u8 90)), (14, (.int .u8 123)), (15, (.int .u8 130)), (16, (.int .u8 157)), (17, (.int .u8 62)), (18, (.int .u8 134)), (19, (.int .u8 35)), (20, (.int .u8 113)), (21, (.int .u8 210)), (22, (.int .u8 207)), (23, (.int .u8 229))] w = some (s2, w1) := a1
  unfold law02_wraps_s1
  rw [num_re, Option.bind_some, if_neg (show ¬ ((0 : Int) != 0) = true by decide), a1, bnd_ok, a2, bnd_ok]
  rfl

theorem wraps_ok {K : Nat} (hK : 18446744073709551616 ≤ K) {w : World} (rc : Rc w) : ∃ w', law02_wraps K w = some ((true, ()), w') ∧ Upd none_ w w' := by
  obtain ⟨s1, w1, g, t, gw, gb, w2, a1, a2, k, x1, x2, x3, x4, u2⟩ := keyC_ok hK (n := 16) (by decide) ks16 rc
  obtain ⟨s3, w3, h, t', hw, hb, w4, a3, a4, m, y1, y2, y3, y4, u4⟩ := keyC_ok hK (n := 32) (by decide) ks32 (Rd.upd rc u2 fun _ => id)
  obtain ⟨s5, w5, a5, o5, f5, u5⟩ := counted_ok (K := K) (by omega) (n := 16) (step := 17) (by decide) (by decide) w4
  obtain ⟨s6, w6, a6, o6, f6, u6⟩ := Wrap_ok hK ((k.upd0 u4).upd0 u5) (cntL_in 16 17) o5.rd (n := 2) (cntL_len _ _) (by decide) (by decide)
  rw [vU1_ok] at o6
  obtain ⟨w7, a7, u7⟩ := wrapC_s1 hK o6
  obtain ⟨s8, w8, a8, o8, f8, u8⟩ := counted_ok (K := K) (by omega) (n := 16) (step := 17) (by decide) (by decide) w7
  obtain ⟨s9, w9, a9, o9, f9, u9⟩ := counted_ok (K := K) (by omega) (n := 16) (step := 1) (by decide) (by decide) w8
  have hl8 := o8.len
  have hl9 := o9.len
  rw [ints_length, cntL_len] at hl8 hl9
  obtain ⟨s10, w10, a10, l10, o10, u10, f10⟩ := apd_ok sliceB (o8.upd0 u9) (o9.src ints_one) (by rw [hl8, hl9]; decide)
  rw [← ints_append] at o10
  have hz7 := u7.size
  have hz8 := u8.size
  have q8 : Upd none_ w4 w8 := (((u5.and0 u6).and0 u7).and0 u8)
  have q10 : Upd none_ w4 w10 := (q8.and0 u9).trans' u10 fun x hx e => by have := f8 x e; have := u5.size; have := u6.size; omega
  obtain ⟨s11, w11, a11, o11, f11, u11⟩ := Wrap_ok hK (m.upd0 q10) (D := cntL 16 17 ++ cntL 16 1) (fun z hz => by
    rcases List.mem_append.1 hz with e | e
    · exact cntL_in _ _ z e
    · exact cntL_in _ _ z e) o10.rd (n := 4) (by rw [List.length_append, cntL_len, cntL_len]) (by decide) (by decide)
  have e2 : wrapL (schedS (cntL 32 1)) (cntL 16 17 ++ cntL 16 1) = vU2 := vU2_ok
  rw [e2] at o11
  obtain ⟨s12, w12, a12, o12, f12, u12⟩ := litB vU2 (by decide) (by decide) w11
  obtain ⟨w13, a13, u13⟩ := SameBytes_ok hK (o11.upd0 u12).rd o12.rd (by decide)
  rw [decide_eq_true rfl] at a13
  refine ⟨w13, ?_, ((((u2.and0 u4).and0 q10).and0 u11).and0 u12).and0 u13⟩
  have a12 : bldS prog 22 40 #[(0, (.int .u8 40)), (1, (.int .u8 201)), (2, (.int .u8 244)), (3, (.int .u8 4)), (4, (.int .u8 196)), (5, (.int .u8 184)), (6, (.int .u8 16)), (7, (.int .u8 244)), (8, (.int .u8 203)), (9, (.int .u8 204)), (10, (.int .u8 179)), (11, (.int .u8 92)), (12, (.int .u8 251)), (13, (.int .u8 135)), (14, (.int .u8 248)), (15, (.int .u8 38)), (16, (.int .u8 63)), (17, (.int .u8 87)), (18, (.int .u8 134)), (19, (.int .u8 226)), (20, (.int .u8 216)), (21, (.int .u8 14)), (22, (.int .u8 211)), (23, (.int .u8 38)), (24, (.int .u8 203)), (25, (.int .u8 199)), (26, (.int .u8 240)), (27, (.int .u8 231)), (28, (.int .u8 26)), (29, (.int .u8 153)), (30, (.int .u8 244)), (31, (.int .u8 59)), (32, (.int .u8 251)), (33, (.int .u8 152)), (34, (.int .u8 139)), (35, (.int .u8 155)), (36, (.int .u8 122)), (37, (.int .u8 2)), (38, (.int .u8 221)), (39, (.int .u8 33))] w11 = some (s12, w12) := a12
  have a1 : law02_counted K 16 1 w = _ := a1
  have a3 : law02_counted K 32 1 w2 = _ := a3
  have a5 : law02_counted K 16 17 w4 = _ := a5
  have a8 : law02_counted K 16 17 w7 = _ := a8
  have a9 : law02_counted K 16 1 w8 = _ := a9
  have s0 : law02_wraps_s0 K (some ⟨g, 0, none⟩) 0 (some ⟨h, 0, none⟩) 0 w4 = some ((false, ()), w4) := rfl
  unfold law02_wraps
  rw [a1, bnd_ok, a2, bnd_ok, a3, bnd_ok, a4, bnd_ok, s0, bnd_ok, if_neg (show ¬ false = true by decide), a5, bnd_ok, a6, bnd_ok, a7, bnd_ok, if_neg (show ¬ false = true by decide), a8, bnd_ok, a9, bnd_ok, a10, bnd_ok, a11, bnd_ok, num_re, Option.bind_some, if_pos (show ((0 : Int) == 0) = true from rfl), a12, bnd_ok, a13, bnd_ok]

/-- the start of the example's stream -/
theorem start_loop (K : Nat) {k3 : Option Addr} {gs : Nat} : ∀ (d i f : Nat) (w : World), d + i = 16 → d < f → Bk 42 w gs (ints .u8 ((List.range i).map (fun i => ((240 + i : Nat) : Int)) ++ List.replicate (16 - i) 0)) →
    ∃ w', law02_RijndaelVectors_l2 K f k3 ⟨gs, 0, none⟩ (i : Int) w = some ((), w') ∧ Bk 42 w' gs (ints .u8 vS) ∧ Upd (· = gs) w w' := by
  intro d
  induction d with
  | zero =>
    intro i f w hd hf b
    obtain ⟨f, rfl⟩ : ∃ m, f = m + 1 := ⟨f - 1, by omega⟩
    obtain rfl : i = 16 := by omega
    rw [Nat.sub_self, List.replicate_zero, List.append_nil] at b
    refine ⟨w, ?_, b, Upd.refl _ w⟩
    have eu : law02_RijndaelVectors_l2 K (f + 1) = law02_RijndaelVectors_l2_b K (law02_RijndaelVectors_l2 K f) := rfl
    rw [eu]
    unfold law02_RijndaelVectors_l2_b
    rw [if_neg (by decide)]
  | succ d ih =>
    intro i f w hd hf b
    obtain ⟨f, rfl⟩ : ∃ m, f = m + 1 := ⟨f - 1, by omega⟩
    have hi : i < 16 := by omega
    obtain ⟨w1, c1, c2, c3⟩ := b.stC (i := i) (by rw [ints_length, List.length_append, List.length_map, List.length_range, List.length_replicate]; omega) (.int .u8 ((240 + i : Nat) : Int))
    rw [ints_set_, set_snoc (f := fun i => ((240 + i : Nat) : Int)) hi] at c2
    obtain ⟨w2, g1, g2, g3⟩ := ih (i + 1) f w1 (by omega) (by omega) c2
    refine ⟨w2, ?_, g2, c3.trans' g3 fun _ _ e => e⟩
    have e1 : IntKind.i64.wrap ((i : Int) + 1) = ((i + 1 : Nat) : Int) := by rw [w64 (by omega) (by omega)]; rfl
    have e2 : IntKind.u8.wrap (IntKind.i64.wrap (240 + (i : Int))) = ((240 + i : Nat) : Int) := by rw [w64 (by omega) (by omega), w8 (by omega) (by omega)]; omega
    have c1' : stC ((⟨gs, 0, none⟩ : Addr).add (i * 1)) (.int .u8 ((240 + i : Nat) : Int)) w = some w1 := by rw [add_lit, Nat.mul_one, Nat.zero_add]; exact c1
    have eu : law02_RijndaelVectors_l2 K (f + 1) = law02_RijndaelVectors_l2_b K (law02_RijndaelVectors_l2 K f) := rfl
    rw [eu]
    unfold law02_RijndaelVectors_l2_b
    rw [if_pos (decide_eq_true (by omega)), if_pos (nat_in hi), Int.toNat_natCast, e2, c1', Option.bind_some, e1, g1]

theorem words_s1 {K : Nat} {w : World} {g t gw gb : Nat} (k : KeyAt w g t gw gb 16 (schedS vK)) {s : Sl} (o : Own 50 w s (ints .u32 (wN (schedS vK)))) : law02_RijndaelVectors_s1 K (some ⟨g, 0, none⟩) s w = some ((false, ()), w) := by
  have hS : (schedS vK).length = 44 := schedS_len (.inl rfl)
  have hwl : (wN (schedS vK)).length = 44 := by unfold wN; rw [List.length_map, hS]
  have r := o.rd
  have hlen := r.len
  rw [hwl] at hlen
  obtain ⟨p, hp, hld⟩ := r.ld
  have hpa := hp (by intro e; rw [e] at hwl; cases hwl)
  have l4 := hld 4 (by omega)
  have l43 := hld 43 (by omega)
  have e4 : (wN (schedS vK))[4]'(by omega) = 2700803607 := by
    have := vW4
    rw [List.getD_eq_getElem?_getD, List.getElem?_eq_getElem (by omega)] at this
    exact this
  have e43 : (wN (schedS vK))[43]'(by omega) = 3059944614 := by
    have := vW43
    rw [List.getD_eq_getElem?_getD, List.getElem?_eq_getElem (by omega)] at this
    exact this
  rw [e4] at l4
  rw [e43] at l43
  unfold law02_RijndaelVectors_s1
  rw [hlen, if_neg (show ¬ (((44 : Nat) : Int) != 44) = true by decide), hpa, Option.bind_some, if_pos ⟨by decide, by decide⟩]
  show (((ldI .u32 (p.add 4) w).bind _) = _)
  rw [l4, Option.bind_some, if_neg (show ¬ ((2700803607 : Int) != 2700803607) = true by decide), Option.bind_some, if_pos ⟨by decide, by decide⟩]
  show (((ldI .u32 (p.add 43) w).bind _) = _)
  rw [l43, Option.bind_some, if_neg (show ¬ ((3059944614 : Int) != 3059944614) = true by decide), Rounds_ok2 k, bnd_ok, if_neg (show ¬ (((16 / 4 + 6 : Nat) : Int) != 10) = true by decide), Size_ok2 k, bnd_ok]
  rfl

theorem vS_16 : B16 vS := ⟨rfl, allIn_ok (by decide)⟩

theorem b42_1 : prog.built 42 [(0, (.int .u8 105)), (1, (.int .u8 196)), (2, (.int .u8 224)), (3, (.int .u8 216)), (4, (.int .u8 106)), (5, (.int .u8 123)), (6, (.int .u8 4)), (7, (.int .u8 48)), (8, (.int .u8 216)), (9, (.int .u8 205)), (10, (.int .u8 183)), (11, (.int .u8 128)), (12, (.int .u8 112)), (13, (.int .u8 180)), (14, (.int .u8 197)), (15, (.int .u8 90))] = some (ints .u8 vC1).toArray := by kernel_rfl
theorem b42_2 : prog.built 42 [(0, (.int .u8 221)), (1, (.int .u8 169)), (2, (.int .u8 124)), (3, (.int .u8 164)), (4, (.int .u8 134)), (5, (.int .u8 76)), (6, (.int .u8 223)), (7, (.int .u8 224)), (8, (.int .u8 110)), (9, (.int .u8 175)), (10, (.int .u8 112)), (11, (.int .u8 160)), (12, (.int .u8 236)), (13, (.int .u8 13)), (14, (.int .u8 113)), (15, (.int .u8 145))] = some (ints .u8 vC2).toArray := by kernel_rfl
theorem b42_3 : prog.built 42 [(0, (.int .u8 142)), (1, (.int .u8 162)), (2, (.int .u8 183)), (3, (.int .u8 202)), (4, (.int .u8 81)), (5, (.int .u8 103)), (6, (.int .u8 69)), (7, (.int .u8 191)), (8, (.int .u8 234)), (9, (.int .u8 252)), (10, (.int .u8 73)), (11, (.int .u8 144)), (12, (.int .u8 75)), (13, (.int .u8 73)), (14, (.int .u8 96)), (15, (.int .u8 137))] = some (ints .u8 vC3).toArray := by kernel_rfl

theorem Vectors_ok {K : Nat} (hK : 18446744073709551616 ≤ K) {w : World} (rc : Rc w) : ∃ w', law02_RijndaelVectors K w = some ((true, ()), w') ∧ Upd none_ w w' := by
  obtain ⟨s1, w1, a1, o1, f1, u1⟩ := counted_ok (K := K) (by omega) (n := 16) (step := 17) (by decide) (by decide) w
  obtain ⟨w2, a2, u2⟩ := blockOf_ok (K := K) (by omega) A16 o1.rd
  obtain ⟨w3, n3, b3, u3, z3⟩ := newB_ok z42 42 w2
  obtain ⟨w4, a4, b4, u4⟩ := stA16 b3 z42_len A16
  have q4 : Upd none_ w w4 := ((u1.and0 u2).and0 u3).trans' u4 fun x hx e => by have := u1.size; have := u2.size; omega
  have q4d : Upd none_ w w4.drew := q4.drew
  -- three keys
  obtain ⟨s5, w5, a5, o5, f5, u5⟩ := counted_ok (K := K) (by omega) (n := 16) (step := 1) (by decide) (by decide) w4.drew
  obtain ⟨w6, a6, u6⟩ := does_ok (K := K) (by omega) (Rd.upd rc (q4d.and0 u5) fun _ => id) (cntL_in 16 1) o5.rd (own_b o5) ks16 A16 C1 vE1 vD1
  have b6 := (b4.drew.upd0 u5).upd0 u6
  have q6d : Upd none_ w w6.drew := ((q4d.and0 u5).and0 u6).drew
  obtain ⟨s7, w7, a7, o7, f7, u7⟩ := counted_ok (K := K) (by omega) (n := 24) (step := 1) (by decide) (by decide) w6.drew
  obtain ⟨w8, a8, u8⟩ := does_ok (K := K) (by omega) (Rd.upd rc (q6d.and0 u7) fun _ => id) (cntL_in 24 1) o7.rd (own_b o7) ks24 A16 C2 vE2 vD2
  have b8 := (b6.drew.upd0 u7).upd0 u8
  have q8d : Upd none_ w w8.drew := ((q6d.and0 u7).and0 u8).drew
  obtain ⟨s9, w9, a9, o9, f9, u9⟩ := counted_ok (K := K) (by omega) (n := 32) (step := 1) (by decide) (by decide) w8.drew
  obtain ⟨w10, a10, u10⟩ := does_ok (K := K) (by omega) (Rd.upd rc (q8d.and0 u9) fun _ => id) (cntL_in 32 1) o9.rd (own_b o9) ks32 A16 C3 vE3 vD3
  have q10 : Upd none_ w w10 := (q8d.and0 u9).and0 u10
  -- the schedule
  obtain ⟨s11, w11, a11, o11, f11, u11⟩ := litB vK (by decide) (by decide) w10
  obtain ⟨g, t, gw, gb, w12, a12, k, x1, x2, x3, x4, u12⟩ := New_ok (K := K) (by omega) (Rd.upd rc (q10.and0 u11) fun _ => id) (ks := vK) (allIn_ok (by decide)) o11.rd (own_b o11) (.inl rfl)
  obtain ⟨s13, w13, a13, o13, u13, f13⟩ := Words_ok2 k
  have k13 : KeyAt w13 g t gw gb 16 (schedS vK) := k.upd0 u13
  have a14 := words_s1 (K := K) k13 o13
  -- the stream
  obtain ⟨w15, n15, b15, u15, z15⟩ := newB_ok z42 42 w13
  have b15 : Bk 42 w15 w13.heap.size (ints .u8 ((List.range 0).map (fun i => ((240 + i : Nat) : Int)) ++ List.replicate (16 - 0) 0)) := b15
  obtain ⟨w16, a16, b16, u16⟩ := start_loop K (k3 := some ⟨g, 0, none⟩) 16 0 K w15 rfl (by omega) b15
  have a16 : law02_RijndaelVectors_l2 K K (some ⟨g, 0, none⟩) ⟨w13.heap.size, 0, none⟩ 0 w15 = _ := a16
  have q16 : Upd none_ w13 w16 := u15.trans' u16 fun x hx e => by omega
  have k16 := k13.upd0 q16
  obtain ⟨st, w17, a17, b17, h17, u17⟩ := Stream_new (k0 := some ⟨g, 0, none⟩) (fun w' u => sched_f (k16.upd0 u)) vS_16
  obtain ⟨s18, w18, a18, o18, f18, u18⟩ := litB vI (by decide) (by decide) w17
  have hst := b17.lt
  obtain ⟨go, w19, a19, o19, b19, h19, u19⟩ := XOR_ok hK ((k16.upd0 u17).upd0 u18) vS_16 (b17.upd0 u18) (D := vI) (allIn_ok (by decide)) o18.rd (fun _ p hp => by have := fresh_b f18 p hp; omega) (by decide) (by decide)
  rw [vX] at o19
  have u19' : Upd none_ w16 w19 := (u17.and0 u18).trans' u19 fun x hx e => by omega
  obtain ⟨s20, w20, a20, o20, f20, u20⟩ := litB vO (by decide) (by decide) w19
  obtain ⟨w21, a21, u21⟩ := SameBytes_ok hK (o19.upd0 u20).rd o20.rd (by decide)
  rw [decide_eq_true rfl] at a21
  have q21 : Upd none_ w w21 := ((((((q10.and0 u11).and0 u12).and0 u13).and0 q16).and0 u19').and0 u20).and0 u21
  obtain ⟨w22, a22, u22⟩ := wraps_ok hK (Rd.upd rc q21 fun _ => id)
  refine ⟨w22, ?_, q21.and0 u22⟩
  have a1 : law02_counted K 16 17 w = _ := a1
  have a5 : law02_counted K 16 1 w4.drew = _ := a5
  have a7 : law02_counted K 24 1 w6.drew = _ := a7
  have a9 : law02_counted K 32 1 w8.drew = _ := a9
  have a11 : bldS prog 22 16 #[(0, (.int .u8 43)), (1, (.int .u8 126)), (2, (.int .u8 21)), (3, (.int .u8 22)), (4, (.int .u8 40)), (5, (.int .u8 174)), (6, (.int .u8 210)), (7, (.int .u8 166)), (8, (.int .u8 171)), (9, (.int .u8 247)), (10, (.int .u8 21)), (11, (.int .u8 136)), (12, (.int .u8 9)), (13, (.int .u8 207)), (14, (.int .u8 79)), (15, (.int .u8 60))] w10 = some (s11, w11) := a11
  have a18 : bldS prog 22 16 #[(0, (.int .u8 107)), (1, (.int .u8 193)), (2, (.int .u8 190)), (3, (.int .u8 226)), (4, (.int .u8 46)), (5, (.int .u8 64)), (6, (.int .u8 159)), (7, (.int .u8 150)), (8, (.int .u8 233)), (9, (.int .u8 61)), (10, (.int .u8 126)), (11, (.int .u8 17)), (12, (.int .u8 115)), (13, (.int .u8 147)), (14, (.int .u8 23)), (15, (.int .u8 42))] w17 = some (s18, w18) := a18
  have a20 : bldS prog 22 16 #[(0, (.int .u8 135)), (1, (.int .u8 77)), (2, (.int .u8 97)), (3, (.int .u8 145)), (4, (.int .u8 182)), (5, (.int .u8 32)), (6, (.int .u8 227)), (7, (.int .u8 38)), (8, (.int .u8 27)), (9, (.int .u8 239)), (10, (.int .u8 104)), (11, (.int .u8 100)), (12, (.int .u8 153)), (13, (.int .u8 13)), (14, (.int .u8 182)), (15, (.int .u8 206))] w19 = some (s20, w20) := a20
  have e0 : law02_RijndaelVectors_s0 K (some ⟨g, 0, none⟩) 0 w12 = some ((false, ()), w12) := rfl
  have e3 : law02_RijndaelVectors_s3 K 0 (some ⟨st, 0, none⟩) w17 = some ((false, ()), w17) := rfl
  have c4 := ldA16 b4.drew A16
  have c5 := ldA16 (b4.drew.upd0 u5) A16
  have c6 := ldA16 b6.drew A16
  have c7 := ldA16 (b6.drew.upd0 u7) A16
  have c8 := ldA16 b8.drew A16
  have c9 := ldA16 (b8.drew.upd0 u9) A16
  have hnf : ¬ (!true) = true := by decide
  unfold law02_RijndaelVectors
  rw [a1, bnd_ok, a2, bnd_ok, n3, bnd_ok, if_pos (size16 A16), a4, Option.bind_some, b42_1, Option.bind_some, c4, Option.bind_some, a5, bnd_ok, c5, Option.bind_some, sameK_self, a6, bnd_ok, if_neg hnf,
    b42_2, Option.bind_some, c6, Option.bind_some, a7, bnd_ok, c7, Option.bind_some, sameK_self, a8, bnd_ok, if_neg hnf,
    b42_3, Option.bind_some, c8, Option.bind_some, a9, bnd_ok, c9, Option.bind_some, sameK_self, a10, bnd_ok, if_neg hnf,
    a11, bnd_ok, a12, bnd_ok, e0, bnd_ok, if_neg (show ¬ false = true by decide), a13, bnd_ok, a14, bnd_ok, if_neg (show ¬ false = true by decide), n15, bnd_ok, a16, bnd_ok, ldA16 b16 vS_16, Option.bind_some, a17, bnd_ok, e3, bnd_ok, if_neg (show ¬ false = true by decide), a18, bnd_ok, a19, bnd_ok, num_re, Option.bind_some, if_neg (show ¬ ((0 : Int) != 0) = true by decide), a20, bnd_ok, a21, bnd_ok, if_neg hnf, a22, bnd_ok]

end Go.Sh

/- RijndaelPieces: a stream in pieces is the stream in one. -/
set_option linter.unusedVariables false
set_option maxRecDepth 100000
namespace Go.Sh
open Go.Fw Go.Gf Go.RowKit Go.Proofs.Tryd

theorem tmod_abs (v : Int) {m : Nat} (hm : 0 < m) : (Int.tmod v (m : Int)).natAbs < m := by
  have := Int.natAbs_tmod v (m : Int)
  rw [this]
  exact Nat.mod_lt _ (by simpa using hm)

theorem piece_s3 {K : Nat} {n : Int} (h : n.natAbs ≤ 1000) (w : World) : law02_RijndaelPieces_s3 K n (decide (n < 0)) w = some ((((n.natAbs : Nat) : Int), ()), w) := by
  unfold law02_RijndaelPieces_s3
  by_cases c : n < 0
  · rw [if_pos (decide_eq_true c), w64 (by omega) (by omega)]
    show some ((0 - n, ()), w) = some ((((n.natAbs : Nat) : Int), ()), w)
    have : 0 - n = ((n.natAbs : Nat) : Int) := by omega
    rw [this]
  · rw [if_neg (fun e => c (of_decide_eq_true e))]
    show some ((n, ()), w) = some ((((n.natAbs : Nat) : Int), ()), w)
    have : n = ((n.natAbs : Nat) : Int) := by omega
    rw [← this]

theorem pieces_loop {K : Nat} (hK : 18446744073709551616 ≤ K) {g t gw gb kl : Nat} {S : List W4} {st : Nat} {B : List Int} (hB : B16 B) {cuts : Sl} {cz : List Int} {gh : Nat} (hne : gh ≠ st) (hcb : cz ≠ [] → ∀ p, cuts.a = some p → p.block ≠ st) :
    ∀ (d i f from_ : Nat) (w : World), d + i = 40 → d < f → from_ ≤ 600 → KeyAt w g t gw gb kl S → Bk 107 w st (streamC (some ⟨g, 0, none⟩) B from_) → Own 5 w ⟨some ⟨gh, 0, none⟩, 600, 600⟩ (ints .u8 (xorL S B 0 (List.replicate 600 0))) → RdS .i64 w cuts cz →
      ∃ to w', law02_RijndaelPieces_l1 K f cuts (some ⟨st, 0, none⟩) ⟨some ⟨gh, 0, none⟩, 600, 600⟩ (from_ : Int) (i : Int) w = some (.norm (((to : Nat) : Int), ()), w') ∧ to ≤ 600 ∧ Bk 107 w' st (streamC (some ⟨g, 0, none⟩) B to) ∧ Upd (· = st) w w' := by
  intro d
  induction d with
  | zero =>
    intro i f from_ w hd hf hfr k b o r
    obtain ⟨f, rfl⟩ : ∃ m, f = m + 1 := ⟨f - 1, by omega⟩
    obtain rfl : i = 40 := by omega
    refine ⟨from_, w, ?_, hfr, b, Upd.refl _ w⟩
    have e2 : law02_RijndaelPieces_s2 K cuts (from_ : Int) ((40 : Nat) : Int) w = some ((false, ()), w) := by
      unfold law02_RijndaelPieces_s2
      split
      · rw [if_neg (by decide)]
      · rfl
    have eu : law02_RijndaelPieces_l1 K (f + 1) = law02_RijndaelPieces_l1_b K (law02_RijndaelPieces_l1 K f) := rfl
    rw [eu]
    unfold law02_RijndaelPieces_l1_b
    rw [e2, bnd_ok, if_neg (show ¬ false = true by decide)]
  | succ d ih =>
    intro i f from_ w hd hf hfr k b o r
    obtain ⟨f, rfl⟩ : ∃ m, f = m + 1 := ⟨f - 1, by omega⟩
    have hi40 : i < 40 := by omega
    have hlen := r.len
    have eu : law02_RijndaelPieces_l1 K (f + 1) = law02_RijndaelPieces_l1_b K (law02_RijndaelPieces_l1 K f) := rfl
    by_cases hstop : i < cuts.len ∧ from_ < 600
    · obtain ⟨hic, hf6⟩ := hstop
      have e2 : law02_RijndaelPieces_s2 K cuts (from_ : Int) (i : Int) w = some ((true, ()), w) := by
        unfold law02_RijndaelPieces_s2
        rw [if_pos (decide_eq_true (by omega)), if_pos (decide_eq_true (by omega)), decide_eq_true (by omega)]
      obtain ⟨p, hp, hld⟩ := r.ld
      have hpa := hp (by intro e; rw [e] at hlen; simp at hlen; omega)
      have l1 := hld i (by omega)
      obtain ⟨v, hv⟩ : ∃ v, v = cz[i]'(by omega) := ⟨_, rfl⟩
      rw [← hv] at l1
      have em : IntKind.i64.wrap (IntKind.i64.wrap (600 - (from_ : Int)) + 1) = ((601 - from_ : Nat) : Int) := by
        have : IntKind.i64.wrap (600 - (from_ : Int)) = ((600 - from_ : Nat) : Int) := by rw [w64 (by omega) (by omega)]; omega
        rw [this, w64 (by omega) (by omega)]; omega
      have hab := tmod_abs v (m := 601 - from_) (by omega)
      obtain ⟨n, hn⟩ : ∃ n, n = (Int.tmod v ((601 - from_ : Nat) : Int)).natAbs := ⟨_, rfl⟩
      have e3 : law02_RijndaelPieces_s3 K (Int.tmod v ((601 - from_ : Nat) : Int)) (decide (Int.tmod v ((601 - from_ : Nat) : Int) < 0)) w = some (((n : Int), ()), w) := by
        rw [hn]; exact piece_s3 (by omega) w
      rw [← hn] at hab
      have l1' : ldI .i64 (p.add (i * 1)) w = some v := by rw [Nat.mul_one]; exact l1
      have e1 : IntKind.i64.wrap ((i : Int) + 1) = ((i + 1 : Nat) : Int) := by rw [w64 (by omega) (by omega)]; rfl
      have ef : IntKind.i64.wrap ((from_ : Int) + (n : Int)) = ((from_ + n : Nat) : Int) := by rw [w64 (by omega) (by omega)]; omega
      have x1 : g ≠ st := Bk.apart (by decide) k.b b
      have x2 : t ≠ st := Bk.apart (by decide) k.bt b
      have x3 : gw ≠ st := Bk.apart (by decide) k.bw b
      have x4 : gb ≠ st := Bk.apart (by decide) k.bb b
      have hne' : ∀ x, (⟨some ⟨gh, 0, none⟩, 600, 600⟩ : Sl).blk = some x → ¬ x = st := fun x hx e => hne (by have : gh = x := Option.some.inj hx; omega)
      by_cases c3 : (Int.tmod v 3 == 0) = true
      · obtain ⟨w1, a1, b1, u1⟩ := Skip_ok (schedF k) hB b (by omega) (n := n) (by omega)
        obtain ⟨to, w2, g1, g2, g3, g4⟩ := ih (i + 1) f (from_ + n) w1 (by omega) (by omega) (by omega) (k.upd u1 x1 x2 x3 x4) b1 (o.upd u1 hne') (r.upd' u1 hcb)
        refine ⟨to, w2, ?_, g2, g3, u1.trans' g4 fun _ _ e => e⟩
        rw [eu]
        unfold law02_RijndaelPieces_l1_b
        rw [e2, bnd_ok, if_pos rfl, hpa, Option.bind_some, if_pos (nat_in hic), Int.toNat_natCast, l1', Option.bind_some, em, if_pos (show ((601 - from_ : Nat) : Int) ≠ 0 by omega), e3, bnd_ok, Option.bind_some, if_pos (nat_in hic), l1', Option.bind_some, if_pos c3, wru64 (show n < 18446744073709551616 by omega), a1, bnd_ok, num_re, Option.bind_some, if_neg (show ¬ ((0 : Int) != 0) = true by decide), ef, e1, g1]
      · obtain ⟨w1, a1, o1, u1⟩ := mkB_full w (n := n) (by omega)
        have hbl := b.lt
        have hl0 : (List.replicate n (0 : Int)).length = n := List.length_replicate
        obtain ⟨go, w2, a2, o2, b2, h2, u2⟩ := XOR_ok hK (k.upd0 u1) hB (b.upd0 u1) (zeros_in n) o1.rd (fun _ q hq => by
          obtain rfl : (⟨w.heap.size, 0, none⟩ : Addr) = q := Option.some.inj hq
          show w.heap.size ≠ st; omega) (by omega) (by omega)
        rw [hl0] at a2 o2 b2
        have q2 : Upd (· = st) w w2 := (u1.mono fun _ _ e => e.elim).trans' u2 fun _ _ e => e
        have ow2 := o.upd q2 hne'
        have rs := ow2.rd.sub (lo := from_) (hi := from_ + n) (by omega) (by rw [xorL_len, List.length_replicate]; omega)
        rw [xorL_piece S B (show from_ + n ≤ 600 by omega)] at rs
        obtain ⟨w3, a3, u3⟩ := SameBytes_ok hK o2.rd rs (by rw [xorL_len, hl0]; omega)
        rw [decide_eq_true rfl] at a3
        have q3 : Upd (· = st) w w3 := q2.trans' u3 fun _ _ e => e.elim
        have e4 : law02_RijndaelPieces_s4 K ⟨some ⟨gh, 0, none⟩, 600, 600⟩ (from_ : Int) (n : Int) ⟨some ⟨go, 0, none⟩, n, n⟩ 0 w2 = some ((false, ()), w3) := by
          unfold law02_RijndaelPieces_s4
          rw [num_re, Option.bind_some, if_neg (show ¬ ((0 : Int) != 0) = true by decide), ef, if_pos ⟨by omega, by show ((from_ + n : Nat) : Int) ≤ ((600 : Nat) : Int); omega⟩, Int.toNat_natCast, if_pos ⟨by omega, by omega⟩, Int.toNat_natCast, a3, bnd_ok]
          rfl
        obtain ⟨to, w4, g1, g2, g3, g4⟩ := ih (i + 1) f (from_ + n) w3 (by omega) (by omega) (by omega) (k.upd q3 x1 x2 x3 x4) (b2.upd0 u3) (o.upd q3 hne') (r.upd' q3 hcb)
        refine ⟨to, w4, ?_, g2, g3, q3.trans' g4 fun _ _ e => e⟩
        rw [eu]
        unfold law02_RijndaelPieces_l1_b
        rw [e2, bnd_ok, if_pos rfl, hpa, Option.bind_some, if_pos (nat_in hic), Int.toNat_natCast, l1', Option.bind_some, em, if_pos (show ((601 - from_ : Nat) : Int) ≠ 0 by omega), e3, bnd_ok, Option.bind_some, if_pos (nat_in hic), l1', Option.bind_some, if_neg c3, a1, bnd_ok, a2, bnd_ok, e4, bnd_ok, if_neg (show ¬ false = true by decide), ef, e1, g1]
    · refine ⟨from_, w, ?_, hfr, b, Upd.refl _ w⟩
      have e2 : law02_RijndaelPieces_s2 K cuts (from_ : Int) (i : Int) w = some ((false, ()), w) := by
        unfold law02_RijndaelPieces_s2
        by_cases c1 : i < cuts.len
        · rw [if_pos (decide_eq_true (by omega)), if_pos (decide_eq_true (by omega)), decide_eq_false (by omega)]
        · rw [if_neg (fun e => by have := of_decide_eq_true e; omega)]
      rw [eu]
      unfold law02_RijndaelPieces_l1_b
      rw [e2, bnd_ok, if_neg (show ¬ false = true by decide)]

theorem key_b {w : World} {key : Sl} {ks : List Int} (r : RdS .u8 w key ks) (hl : ks.length = 16 ∨ ks.length = 24 ∨ ks.length = 32) : ∀ p, key.a = some p → p.block < w.heap.size := r.lt' fun e => by rw [e] at hl; simp at hl

theorem RijndaelPieces_ok {K : Nat} (hK : 18446744073709551616 ≤ K) {w : World} (rc : Rc w) {key : Sl} {ks : List Int} (hks : ∀ z ∈ ks, InK .u8 z) (r : RdS .u8 w key ks) {B : List Int} (hB : B16 B) {cuts : Sl} {cz : List Int} (rz : RdS .i64 w cuts cz) :
    ∃ w', law02_RijndaelPieces K key (ints .u8 B).toArray cuts w = some ((true, ()), w') ∧ Upd none_ w w' := by
  obtain ⟨w1, n1, b1, u1, z1⟩ := newB_ok (ints .u8 B).toArray 42 w
  have b1 : Bk 42 w1 w.heap.size (ints .u8 B) := b1
  obtain ⟨w2, a2, u2⟩ := Vectors_ok hK (Rd.upd rc u1 fun _ => id)
  have q2 := u1.and0 u2
  have r2 := r.upd0 q2
  have hnf : ¬ (!true) = true := by decide
  by_cases hl : ks.length = 16 ∨ ks.length = 24 ∨ ks.length = 32
  · obtain ⟨g, t, gw, gb, w3, a3, k, x1, x2, x3, x4, u3⟩ := New_ok (K := K) (by omega) (Rd.upd rc q2 fun _ => id) hks r2 (key_b r2 hl) hl
    have bB3 := (b1.upd0 u2).upd0 u3
    obtain ⟨s, w4, a4, b4, h4, u4⟩ := Stream_new (k0 := some ⟨g, 0, none⟩) (fun w' u => schedF (k.upd0 u)) hB
    obtain ⟨s2, w5, a5, b5, h5, u5⟩ := Stream_new (k0 := some ⟨g, 0, none⟩) (fun w' u => schedF ((k.upd0 u4).upd0 u)) hB
    obtain ⟨w6, a6, o6, u6⟩ := mkB_full w5 (n := 600) (by decide)
    have k6 := ((k.upd0 u4).upd0 u5).upd0 u6
    have hs := b4.lt
    have hs2 := b5.lt
    have hsz5 := u5.size
    have hl0 : (List.replicate 600 (0 : Int)).length = 600 := List.length_replicate
    obtain ⟨go, w7, a7, o7, b7, h7, u7⟩ := XOR_ok hK k6 hB ((b4.upd0 u5).upd0 u6) (zeros_in 600) o6.rd (fun _ q hq => by
      obtain rfl : (⟨w5.heap.size, 0, none⟩ : Addr) = q := Option.some.inj hq
      show w5.heap.size ≠ s; omega) (by rw [hl0]; decide) (by rw [hl0]; decide)
    rw [hl0] at a7 o7 b7
    have y1 : g ≠ s := Bk.apart (by decide) k6.b ((b4.upd0 u5).upd0 u6)
    have y2 : t ≠ s := Bk.apart (by decide) k6.bt ((b4.upd0 u5).upd0 u6)
    have y3 : gw ≠ s := Bk.apart (by decide) k6.bw ((b4.upd0 u5).upd0 u6)
    have y4 : gb ≠ s := Bk.apart (by decide) k6.bb ((b4.upd0 u5).upd0 u6)
    have b57 := (b5.upd0 u6).upd u7 (by show ¬ s2 = s; omega)
    have hsz3 := u3.size
    have hsz2 := q2.size
    have hsz6 := u6.size
    have q36 : Upd none_ w3 w6 := (u4.and0 u5).and0 u6
    have q7 : Upd none_ w w7 := ((q2.and0 u3).and0 q36).trans' u7 fun x hx e => by omega
    have rz7 := rz.upd0 q7
    obtain ⟨to, w8, a8, h8, b8, u8⟩ := pieces_loop hK hB (cuts := cuts) (cz := cz) (gh := go) (st := s2) (by omega) (fun hz p hp e => by have := rz.lt' hz p hp; omega) 40 0 K 0 w7 rfl (by omega) (by decide) (k6.upd u7 y1 y2 y3 y4) b57 o7 rz7
    have a8 : law02_RijndaelPieces_l1 K K cuts (some ⟨s2, 0, none⟩) ⟨some ⟨go, 0, none⟩, 600, 600⟩ 0 0 w7 = _ := a8
    refine ⟨w8, ?_, q7.trans' u8 fun x hx e => by omega⟩
    have e0 : law02_RijndaelPieces_s0 K ⟨some ⟨go, 0, none⟩, 600, 600⟩ 0 w7 = some ((false, ()), w7) := rfl
    have a6 : mkS prog 22 (.int .i64 600) (.int .i64 600) w5 = some (⟨some ⟨w5.heap.size, 0, none⟩, 600, 600⟩, w6) := a6
    unfold law02_RijndaelPieces
    rw [n1, bnd_ok, a2, bnd_ok, if_neg hnf, a3, bnd_ok, if_neg (show ¬ (some (⟨g, 0, none⟩ : Addr)).isNone = true from Bool.noConfusion), ldA16 bB3 hB, Option.bind_some, a4, bnd_ok, ldA16 (bB3.upd0 u4) hB, Option.bind_some, a5, bnd_ok, a6, bnd_ok, a7, bnd_ok, e0, bnd_ok, if_neg (show ¬ false = true by decide), a8, bnd_ok]
    dsimp only
    rw [At_ok hB b8, Option.bind_some, wru64 (show to < 18446744073709551616 by omega), beq_self_eq_true]
  · refine ⟨w2, ?_, q2⟩
    unfold law02_RijndaelPieces
    rw [n1, bnd_ok, a2, bnd_ok, if_neg hnf, New_err r2.len hl, bnd_ok, if_pos (show (none : Option Addr).isNone = true from rfl)]

end Go.Sh

/- What a reading of a []byte gives; what the row lays of rcon. -/
set_option linter.unusedVariables false
namespace Go.Sh
open Go.Fw Go.RowKit Go.Proofs.Tryd Go.Deep Go.ChangeShapes Go.WideShapes

def nilS : Sl := ⟨none, 0, 0⟩

theorem wf_u8 {n : Int} (h : (Lit.int .u8 n).wf = true) : InK .u8 n := by
  have h2 : 0 ≤ n ∧ n ≤ 255 := by simpa [Lit.wf, IntKind.bits, IntKind.min, IntKind.max, IntKind.signed] using h
  exact ⟨h2.1, by have := h2.2; simp only [IntKind.bits]; omega⟩

theorem bytes_of_B : 1 ≤ prog.bytesOf 5 := of_decide_eq_true (by kernel_rfl)
theorem und_B : prog.underlying 5 = some (.int .u8) := by kernel_rfl
theorem cells_of_B : prog.cellsOf 5 = 1 := by kernel_rfl
theorem lits_len {H : Type} {κ : IntKind} {zs : List Int} {n : Nat} : (lits (H := H) κ (zs.take n)).length + (lits (H := H) κ (zs.drop n)).length = zs.length := by
  simp only [lits, List.length_map, List.length_take, List.length_drop]; omega

/-- a slice of bytes that came in -/
structure BytesIn (W : World) (s : Sl) (xs : List Int) : Prop where
  src : Src W s (ints .u8 xs)
  inn : ∀ x ∈ xs, InK .u8 x
  len : xs.length ≤ 140737488351232
  cap : s.cap ≤ 140737488351232

theorem open_bytes_t {H : Type} {enc : TypeId × Value → H} {W : World} {x : DataW H × List MemPlace} {fuel : Nat} {cs : List Value} (hf : DataW.trod enc prog W 0 (fun _ => true) true fuel 22 cs = some x) (hw : ∀ n ∈ x.1.weights prog 22, n ≤ reachBytes) :
    ∃ s xs, cs = [slV s] ∧ BytesIn W s xs := by
  rcases open_ints sliceB.ht und_B cells_of_B hf with ⟨hcs, hy⟩ | ⟨a', len', cap', zs, hcs, hb', hl', hm', hz, hy, hcell, hwz⟩
  · exact ⟨nilS, [], hcs, ⟨rfl, Nat.le_refl _, .inl ⟨rfl, rfl, rfl⟩, ints_one⟩, by simp, by simp, by simp [nilS]⟩
  · have hz : zs.length = cap' := by simpa using hz
    have hzl : zs.length ≤ 140737488351232 := by
      have := hw (zs.length * prog.bytesOf 5) (by
        rw [hy]
        simp only [DataW.weights, sliceB.ht, lits_len]
        exact List.mem_cons_self ..)
      exact Nat.le_trans (Nat.le_mul_of_pos_right _ bytes_of_B) this
    refine ⟨⟨some a', len', cap'⟩, zs.take len', hcs, ⟨by simp; omega, hl', .inr ⟨a', rfl, fun j v hv => ?_⟩, ints_one⟩, fun x hx => wf_u8 (hwz x (List.mem_of_mem_take hx)), by simp; omega, by show cap' ≤ _; omega⟩
    have hj : j < len' ∧ j < zs.length := by
      have := (List.getElem?_eq_some_iff.1 hv).1
      simp at this; omega
    rw [hcell j hj.2]
    simp only [ints, List.getElem?_map, List.getElem?_take, if_pos hj.1] at hv
    rw [List.getElem?_eq_getElem hj.2] at hv
    rw [List.getD_eq_getElem?_getD, List.getElem?_eq_getElem hj.2]
    exact hv

theorem open_bytes {H : Type} {enc : TypeId × Value → H} {W : World} {d : DataW H} {p : List MemPlace} {a : Option Addr} {len cap : Nat} (h : DataW.Trod enc prog W 0 (fun _ => true) true 22 (.slice a len cap) d p) (hw : ∀ n ∈ d.weights prog 22, n ≤ reachBytes) :
    ∃ xs, BytesIn W ⟨a, len, cap⟩ xs := by
  obtain ⟨fuel, hf⟩ := h
  obtain ⟨s, xs, hcs, hb⟩ := open_bytes_t hf hw
  simp [Value.cells, slV] at hcs
  obtain ⟨rfl, rfl, rfl⟩ := hcs
  exact ⟨xs, hb⟩



theorem tab_in {P : Program} {w : World} : ∀ {laid : List (String × DataW Unit)} {ps : List MemPlace}, DataW.LaidVars P w laid ps → ∀ {name : String} {k : IntKind} {zs : List Int} {g : Nat} {t e : TypeId} {n : Nat},
    (name, Lib.tabData k zs) ∈ laid → P.globalNamed name = some g → (P.globals[g]?).map (·.type) = some t → P.underlying t = some (.array n e) → P.underlying e = some (.int k) → P.cellsOf e = 1 → P.cellsOf t = n → Lib.TabIs P w name k zs
  | [], _, _, _, _, _, _, _, _, _, hm, _, _, _, _, _, _ => by simp at hm
  | x :: rest, ps, h, name, k, zs, g, t, e, n, hm, hg, hty, ht, he, hce, hct => by
    obtain ⟨g', t', cs, fuel, p, q, hg', ht', hvar, hd, h2, _⟩ := h
    rcases List.mem_cons.1 hm with rfl | hm
    · obtain rfl := Option.some.inj (hg.symm.trans hg')
      obtain rfl := Option.some.inj (hty.symm.trans ht')
      unfold Lib.TabIs
      rw [hvar, ← Lib.cells_of_tab ht he hce hct hd]
    · exact tab_in h2 hm hg hty ht he hce hct

def laidR : List (String × DataW Unit) := [("coffer/rijndael.rcon", Lib.tabData .u8 (rcT.map Int.ofNat))]
theorem tabsR1 {w : World} (h : laidMetH prog laidR w) : Rc w := by
  obtain ⟨ps, h, _⟩ : laidMet prog laidR w := h
  have t : Lib.TabIs prog w "coffer/rijndael.rcon" .u8 (rcT.map Int.ofNat) := tab_in h (name := "coffer/rijndael.rcon") (zs := rcT.map Int.ofNat) (g := 0) (t := 78) (e := 5) (n := 10) (by simp [laidR]) (by kernel_rfl) (by kernel_rfl) (by kernel_rfl) (by kernel_rfl) (by kernel_rfl) (by kernel_rfl)
  intro i v hv
  rw [add_lit, Nat.zero_add]
  have hi : i < (rcT.map Int.ofNat).length := by have := (List.getElem?_eq_some_iff.1 hv).1; simpa using this
  rw [t.cell (by kernel_rfl) i hi]
  simp only [ints, List.getElem?_map] at hv ⊢
  rw [List.getD_eq_getElem?_getD, List.getElem?_map]
  cases hx : rcT[i]? with
  | none => rw [hx] at hv; simp at hv
  | some x => rw [hx] at hv; simpa using hv

end Go.Sh

/- A block and a list of numbers that came in. -/
set_option linter.unusedVariables false
namespace Go.Sh
open Go.Fw Go.RowKit Go.Proofs.Tryd Go.Deep Go.ChangeShapes Go.WideShapes

theorem und3' : prog.underlying 3 = some (.int .i64) := by kernel_rfl
theorem und57 : prog.underlying 57 = some (.slice 3) := by kernel_rfl
theorem cells3 : prog.cellsOf 3 = 1 := by kernel_rfl
theorem cells42 : prog.cellsOf 42 = 16 := by kernel_rfl
theorem cells5' : prog.cellsOf 5 = 1 := by kernel_rfl

theorem open_i64s_t {H : Type} {enc : TypeId × Value → H} {W : World} {x : DataW H × List MemPlace} {fuel : Nat} {cs : List Value} (hf : DataW.trod enc prog W 0 (fun _ => true) true fuel 57 cs = some x) :
    ∃ s xs, cs = [slV s] ∧ RdS .i64 W s xs := by
  rcases open_ints (k := .i64) und57 und3' cells3 hf with ⟨hcs, hy⟩ | ⟨a', len', cap', zs, hcs, hb', hl', hm', hz, hy, hcell, hwz⟩
  · exact ⟨nilS, [], hcs, ⟨rfl, Nat.le_refl _, .inl rfl⟩⟩
  · have hz : zs.length = cap' := by simpa using hz
    refine ⟨⟨some a', len', cap'⟩, zs.take len', hcs, ⟨by simp; omega, hl', .inr ⟨a', rfl, fun j v hv => ?_⟩⟩⟩
    have hj : j < len' ∧ j < zs.length := by
      have := (List.getElem?_eq_some_iff.1 hv).1
      simp at this; omega
    rw [hcell j hj.2]
    simp only [ints, List.getElem?_map, List.getElem?_take, if_pos hj.1] at hv
    rw [List.getElem?_eq_getElem hj.2] at hv
    rw [List.getD_eq_getElem?_getD, List.getElem?_eq_getElem hj.2]
    exact hv

theorem open_i64s {H : Type} {enc : TypeId × Value → H} {W : World} {d : DataW H} {p : List MemPlace} {a : Option Addr} {len cap : Nat} (h : DataW.Trod enc prog W 0 (fun _ => true) true 57 (.slice a len cap) d p) :
    ∃ xs, RdS .i64 W ⟨a, len, cap⟩ xs := by
  obtain ⟨fuel, hf⟩ := h
  obtain ⟨s, xs, hcs, hb⟩ := open_i64s_t hf
  simp [Value.cells, slV] at hcs
  obtain ⟨rfl, rfl, rfl⟩ := hcs
  exact ⟨xs, hb⟩

def numV (v : Value) : Int := match v with | .int _ n => n | _ => 0

theorem open_block_t {H : Type} {enc : TypeId × Value → H} {W : World} {x : DataW H × List MemPlace} {fuel : Nat} {cs : List Value} (hf : DataW.trod enc prog W 0 (fun _ => true) true fuel 42 cs = some x) :
    ∃ B, cs = ints .u8 B ∧ B16 B := by
  obtain ⟨xs, m, _, _, hcl, hxl, hall⟩ := DataW.trod_array und42 hf
  rw [cells42] at hcl
  have each : ∀ i, i < 16 → ∃ n, cs[i]? = some (.int .u8 n) ∧ InK .u8 n := fun i hi => by
    have h1 := hall i hi
    rw [cells5', Nat.mul_one] at h1
    rw [List.getElem?_eq_getElem (by omega)] at h1
    obtain ⟨n, e, _, hw⟩ := DataW.trod_int und5 h1
    refine ⟨n, ?_, wf_u8 hw⟩
    have := congrArg (fun l => l[0]?) e
    simp only [List.getElem?_take, List.getElem?_drop, Nat.add_zero] at this
    exact this
  refine ⟨cs.map numV, ?_, by rw [List.length_map, hcl], fun z hz => ?_⟩
  · apply List.ext_getElem?
    intro i
    unfold ints
    rw [List.map_map, List.getElem?_map]
    by_cases hi : i < 16
    · obtain ⟨n, e, _⟩ := each i hi
      rw [e]; rfl
    · rw [List.getElem?_eq_none (by omega)]; rfl
  · obtain ⟨v, hv, rfl⟩ := List.mem_map.1 hz
    obtain ⟨i, hi, rfl⟩ := List.getElem_of_mem hv
    obtain ⟨n, e, hn⟩ := each i (by omega)
    rw [List.getElem?_eq_getElem hi] at e
    rw [Option.some.inj e]; exact hn

set_option maxRecDepth 100000 in
theorem open_block {H : Type} {enc : TypeId × Value → H} {W : World} {d : DataW H} {p : List MemPlace} {v : Value} {base : Nat} (hv : Value.okWide prog W .any base 42 v) (h : DataW.Trod enc prog W 0 (fun _ => true) true 42 v d p) :
    ∃ B, v = .agg (ints .u8 B).toArray ∧ B16 B := by
  have hv2 : ∃ cs, v = .agg cs ∧ cs.size = prog.cellsOf 42 ∧ Row.okWide prog W .any base 42 cs := by
    simpa only [Value.okWide, und42] using hv
  obtain ⟨cs, rfl, _, _⟩ := hv2
  obtain ⟨fuel, hf⟩ := h
  obtain ⟨B, e, hB⟩ := open_block_t hf
  refine ⟨B, ?_, hB⟩
  congr 1
  apply Array.ext'
  exact e

end Go.Sh

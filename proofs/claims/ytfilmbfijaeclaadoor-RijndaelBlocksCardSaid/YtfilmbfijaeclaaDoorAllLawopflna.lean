/- Texts of this claim, put together: AesL, AesM, AesN, OpenR, AesU, AesP, AesV, AesW, Block, OpenK -/
import Derived.Test.YtfilmbfijaeclaaDoorAllLawmohjgm
import Derived.OpenShut
import Derived.Deep.Slices
/- Package rijndael: a block as words, and back. -/
set_option linter.unusedVariables false
set_option maxRecDepth 100000
namespace Go.Sh
open Go.Fw Go.Gf Go.RowKit Go.Proofs.Tryd

/-- words as cells -/
def wv (L : List W4) : List Value := L.map fun x => Value.int .u32 ((x.n : Nat) : Int)
theorem wv_len (L : List W4) : (wv L).length = L.length := by simp [wv]
theorem wv_get {L : List W4} {i : Nat} (h : i < L.length) : (wv L)[i]? = some (.int .u32 (((L.getD i z4).n : Nat) : Int)) := by
  unfold wv; rw [List.getElem?_map, List.getD_eq_getElem?_getD, List.getElem?_eq_getElem h]; rfl
theorem wv_one (L : List W4) : ∀ v ∈ wv L, v.oneCell' = true := fun v hv => by
  obtain ⟨x, _, rfl⟩ := List.mem_map.1 hv; rfl
/-- four words, the first i of them by f, the others by g -/
def upL (f g : Nat → W4) (i : Nat) : List W4 := (List.range 4).map fun c => if c < i then f c else g c
theorem upL_len (f g : Nat → W4) (i : Nat) : (upL f g i).length = 4 := by simp [upL]
theorem upL_get (f g : Nat → W4) (i : Nat) {c : Nat} (hc : c < 4) : (upL f g i).getD c z4 = if c < i then f c else g c := by
  unfold upL; rw [List.getD_eq_getElem?_getD, List.getElem?_map, List.getElem?_range hc]; rfl
theorem upL_set {f g : Nat → W4} {i : Nat} (hi : i < 4) : (wv (upL f g i)).set i (.int .u32 (((f i).n : Nat) : Int)) = wv (upL f g (i + 1)) := by
  unfold wv upL
  rw [List.map_map, List.map_map, range_set]
  refine map_range_ext fun j hj => ?_
  show (if j = i then _ else Value.int .u32 (((if j < i then f j else g j).n : Nat) : Int)) = Value.int .u32 (((if j < i + 1 then f j else g j).n : Nat) : Int)
  by_cases e : j = i
  · rw [if_pos e, if_pos (show j < i + 1 by omega), e]
  · rw [if_neg e]
    by_cases c : j < i
    · rw [if_pos c, if_pos (show j < i + 1 by omega)]
    · rw [if_neg c, if_neg (show ¬ j < i + 1 by omega)]
def fourL (f : Nat → W4) : List W4 := (List.range 4).map f
theorem fourL_len (f : Nat → W4) : (fourL f).length = 4 := by simp [fourL]
theorem fourL_get (f : Nat → W4) {c : Nat} (hc : c < 4) : (fourL f).getD c z4 = f c := by
  unfold fourL; rw [List.getD_eq_getElem?_getD, List.getElem?_map, List.getElem?_range hc]; rfl
theorem upL_four (f g : Nat → W4) : upL f g 4 = fourL f := by
  unfold upL fourL
  refine List.map_congr_left fun j hj => ?_
  rw [if_pos (List.mem_range.1 hj)]
theorem upL_zero (f g : Nat → W4) : upL f g 0 = fourL g := by
  unfold upL fourL
  refine List.map_congr_left fun j hj => ?_
  rw [if_neg (by omega)]
theorem fourL_self {L : List W4} (h : L.length = 4) : fourL (fun c => L.getD c z4) = L := by
  apply List.ext_getElem?
  intro j
  unfold fourL
  rw [List.getElem?_map]
  by_cases hj : j < 4
  · rw [List.getElem?_range hj, List.getElem?_eq_getElem (by omega)]
    show some (L.getD j z4) = _
    rw [List.getD_eq_getElem?_getD, List.getElem?_eq_getElem (by omega)]; rfl
  · rw [List.getElem?_eq_none (by simp; omega), List.getElem?_eq_none (by omega)]; rfl
theorem fourL_ok {f : Nat → W4} (h : ∀ c, c < 4 → (f c).ok) : ∀ x ∈ fourL f, x.ok := fun x hx => by
  obtain ⟨c, hc, rfl⟩ := List.mem_map.1 hx
  exact h c (List.mem_range.1 hc)
theorem z135_four : z135.toList = wv (fourL fun _ => z4) := rfl

/-! ### bytes -/
def bl (st : List W4) : List Value := ints .u8 (roundB st)
theorem bl_len {st : List W4} (h : st.length = 4) : (bl st).length = 16 := by unfold bl; rw [ints_length, roundB_len, h]
theorem roundB_in {st : List W4} (h : ∀ x ∈ st, x.ok) : ∀ z ∈ roundB st, InK .u8 z := fun z hz => by
  obtain ⟨x, hx, hz⟩ := List.mem_flatMap.1 hz
  exact w4I_ok (h x hx) z hz
theorem kw_round {st : List W4} {i : Nat} (hi : i < st.length) : kw (roundB st) i = st.getD i z4 := by
  have g : ∀ j, j < 4 → kb (roundB st) (4 * i + j) = byteW (st.getD i z4) j := fun j hj => by
    unfold kb
    rw [List.getD_eq_getElem?_getD, roundB_get st i j hi hj]; rfl
  have g0 : kb (roundB st) (4 * i) = (st.getD i z4).a := g 0 (by decide)
  have g1 : kb (roundB st) (4 * i + 1) = (st.getD i z4).b := g 1 (by decide)
  have g2 : kb (roundB st) (4 * i + 2) = (st.getD i z4).c := g 2 (by decide)
  have g3 : kb (roundB st) (4 * i + 3) = (st.getD i z4).d := g 3 (by decide)
  unfold kw
  rw [g0, g1, g2, g3]

theorem sla_some {p : Addr} {l m : Nat} (h : m ≠ l) : sla (some p) l m 1 = some (p.add (l * 1)) := by unfold sla; rw [if_neg h]; rfl

theorem load_loop {K : Nat} (hK : 300 ≤ K) {st : List W4} (hs : ∀ x ∈ st, x.ok) (hl : st.length = 4) {gb gs : Nat} (hne : gb ≠ gs) {a2 : Addr} :
    ∀ (d i f : Nat) (w : World), d + i = 4 → d < f → Bk 42 w gb (bl st) → Bk 135 w gs (wv (upL (fun c => st.getD c z4) (fun _ => z4) i)) →
      ∃ w', rijndael_load_l0 K f ⟨gb, 0, none⟩ a2 ⟨gs, 0, none⟩ (i : Int) w = some ((), w') ∧ Bk 135 w' gs (wv st) ∧ Upd (· = gs) w w' := by
  intro d
  induction d with
  | zero =>
    intro i f w hd hf b s
    obtain ⟨f, rfl⟩ : ∃ m, f = m + 1 := ⟨f - 1, by omega⟩
    obtain rfl : i = 4 := by omega
    rw [upL_four, fourL_self hl] at s
    refine ⟨w, ?_, s, Upd.refl _ w⟩
    have eu : rijndael_load_l0 K (f + 1) = rijndael_load_l0_b K (rijndael_load_l0 K f) := rfl
    rw [eu]
    unfold rijndael_load_l0_b
    rw [if_neg (by decide)]
  | succ d ih =>
    intro i f w hd hf b s
    obtain ⟨f, rfl⟩ : ∃ m, f = m + 1 := ⟨f - 1, by omega⟩
    have hi : i < 4 := by omega
    have hrl : (roundB st).length = 16 := by rw [roundB_len, hl]
    have r : RdS .u8 w ⟨some ⟨gb, 0, none⟩, 16, 16⟩ (roundB st) := ⟨hrl.symm, Nat.le_refl _, .inr ⟨_, rfl, b.rd 0 _ fun i v hv => by rw [Nat.zero_add]; exact hv⟩⟩
    have r2 := RdS.sub r (lo := 4 * i) (hi := 16) (by omega) (by omega)
    rw [List.take_of_length_le (by omega)] at r2
    have hnum := number_ok hK r2 (fun z hz => roundB_in hs z (List.mem_of_mem_drop hz)) (n := 4) (by rw [List.length_drop]; omega) (by decide)
    rw [num4 (roundB_in hs) (by omega), kw_round (by omega)] at hnum
    have hko := getD_ok hs i
    obtain ⟨w1, c1, c2, c3⟩ := s.stC (i := i) (by rw [wv_len, upL_len]; exact hi) (.int .u32 (((st.getD i z4).n : Nat) : Int))
    rw [upL_set (f := fun c => st.getD c z4) hi] at c2
    obtain ⟨w2, g1, g2, g3⟩ := ih (i + 1) f w1 (by omega) (by omega) (b.upd c3 hne) c2
    refine ⟨w2, ?_, g2, c3.trans' g3 fun _ _ e => e⟩
    have e4 : IntKind.i64.wrap (4 * (i : Int)) = ((4 * i : Nat) : Int) := by rw [w64 (by omega) (by omega)]; omega
    have e1 : IntKind.i64.wrap ((i : Int) + 1) = ((i + 1 : Nat) : Int) := by rw [w64 (by omega) (by omega)]; rfl
    have c1' : stC ((⟨gs, 0, none⟩ : Addr).add (i * 1)) (.int .u32 (((st.getD i z4).n : Nat) : Int)) w = some w1 := by
      rw [add_lit, Nat.mul_one, Nat.zero_add]; exact c1
    have hnum : rijndael_number K ⟨sla (some ⟨gb, 0, none⟩) (4 * i) 16 1, 16 - 4 * i, 16 - 4 * i⟩ 4 w = _ := hnum
    have eu : rijndael_load_l0 K (f + 1) = rijndael_load_l0_b K (rijndael_load_l0 K f) := rfl
    rw [eu]
    unfold rijndael_load_l0_b
    rw [if_pos (decide_eq_true (by omega)), e4, if_pos ⟨by omega, by omega⟩, Int.toNat_natCast, hnum, Option.bind_some, if_pos (nat_in hi), Int.toNat_natCast]
    show (stC _ (.int .u32 (IntKind.u32.wrap (((st.getD i z4).n : Nat) : Int))) w).bind _ = _
    rw [wr32' (W4.lt hko), c1', Option.bind_some, e1, g1]

theorem load_ok {K : Nat} (hK : 300 ≤ K) {st : List W4} (hs : ∀ x ∈ st, x.ok) (hl : st.length = 4) (w : World) :
    ∃ w', rijndael_load K (bl st).toArray w = some (((wv st).toArray, ()), w') ∧ Upd none_ w w' := by
  obtain ⟨w1, n1, b1, u1, z1⟩ := newB_ok (bl st).toArray 42 w
  obtain ⟨w2, n2, b2, u2, z2⟩ := newB_ok z135 135 w1
  obtain ⟨w3, n3, b3, u3, z3⟩ := newB_ok z135 135 w2
  rw [z135_four] at b2 b3
  have b1 : Bk 42 w1 w.heap.size (bl st) := b1
  rw [← upL_zero (fun c => st.getD c z4)] at b3
  obtain ⟨w4, a4, b4, u4⟩ := load_loop hK hs hl (gb := w.heap.size) (gs := w2.heap.size) (a2 := ⟨w1.heap.size, 0, none⟩) (by omega) 4 0 K w3 rfl (by omega) ((b1.upd0 u2).upd0 u3) b3
  have a4 : rijndael_load_l0 K K ⟨w.heap.size, 0, none⟩ ⟨w1.heap.size, 0, none⟩ ⟨w2.heap.size, 0, none⟩ 0 w3 = _ := a4
  have hl4 := b4.ldA (i := 0) (n := 4) (by rw [wv_len, hl]; decide)
  rw [List.drop_zero, List.take_of_length_le (by rw [wv_len, hl]; decide)] at hl4
  obtain ⟨w5, a5, b5, u5⟩ := ((b2.upd0 u3).upd u4 (by omega)).stA (o := 0) (vs := (wv st).toArray) (by rw [List.size_toArray, wv_len, hl, wv_len, fourL_len]; decide) (fun v hv => wv_one st v hv)
  have b5 : Bk 135 w5 w1.heap.size (seg (wv (fourL fun _ => z4)) 0 (wv st)) := b5
  rw [seg_all (by rw [wv_len, wv_len, hl, fourL_len])] at b5
  have hl5 := b5.ldA (i := 0) (n := 4) (by rw [wv_len, hl]; decide)
  rw [List.drop_zero, List.take_of_length_le (by rw [wv_len, hl]; decide)] at hl5
  refine ⟨w5, ?_, ((((u1.and0 u2).and0 u3).trans' u4 fun k hk e => by omega).trans' u5 fun k hk e => by omega)⟩
  unfold rijndael_load
  rw [n1, bnd_ok, n2, bnd_ok, n3, bnd_ok, a4, bnd_ok, hl4, Option.bind_some, if_pos (by rw [List.size_toArray, wv_len, hl]), a5, Option.bind_some, hl5, Option.bind_some]

/-! ### a number laid into bytes -/
def layB (size n : Nat) : List Int := (List.range size).map fun i => ((n / 2 ^ (8 * (size - 1 - i)) % 256 : Nat) : Int)
theorem layB_len (size n : Nat) : (layB size n).length = size := by simp [layB]

theorem seg_snoc {cs vs : List Value} {o : Nat} {v : Value} (h : o + vs.length + 1 ≤ cs.length) : (seg cs o vs).set (o + vs.length) v = seg cs o (vs ++ [v]) := by
  apply List.ext_getElem?
  intro i
  rw [List.getElem?_set, seg_get (by omega), seg_get (by rw [List.length_append, List.length_singleton]; omega), seg_length (by omega), List.length_append, List.length_singleton]
  by_cases h1 : i < o
  · rw [if_neg (show ¬ o + vs.length = i by omega), if_pos h1, if_pos h1]
  · by_cases h2 : i = o + vs.length
    · subst h2
      rw [if_pos rfl, if_pos (by omega), if_neg h1, if_pos (by omega), List.getElem?_append_right (by omega), show o + vs.length - o - vs.length = 0 by omega]
      rfl
    · rw [if_neg (fun e => h2 e.symm), if_neg h1, if_neg h1]
      by_cases h3 : i < o + vs.length
      · rw [if_pos h3, if_pos (by omega), List.getElem?_append_left (by omega)]
      · rw [if_neg h3, if_neg (by omega)]

theorem lay_loop (K : Nat) {e : TypeId} {g o size n len cap : Nat} {cs : List Value} (hsz : size ≤ 8) (hlen : size ≤ len) (ho : o + size ≤ cs.length) (hn : n < 18446744073709551616) :
    ∀ (d i f : Nat) (w : World), d + i = size → d < f → Bk e w g (seg cs o (ints .u8 ((layB size n).take i))) →
      ∃ w', rijndael_lay_l0 K f ⟨some ⟨g, o, none⟩, len, cap⟩ (size : Int) (n : Int) (size : Int) (i : Int) w = some ((), w') ∧ Bk e w' g (seg cs o (ints .u8 (layB size n))) ∧ Upd (· = g) w w' := by
  intro d
  induction d with
  | zero =>
    intro i f w hd hf b
    obtain ⟨f, rfl⟩ : ∃ m, f = m + 1 := ⟨f - 1, by omega⟩
    rw [List.take_of_length_le (by rw [layB_len]; omega)] at b
    refine ⟨w, ?_, b, Upd.refl _ w⟩
    have eu : rijndael_lay_l0 K (f + 1) = rijndael_lay_l0_b K (rijndael_lay_l0 K f) := rfl
    rw [eu]
    unfold rijndael_lay_l0_b
    rw [if_neg (fun e => by have := of_decide_eq_true e; omega)]
  | succ d ih =>
    intro i f w hd hf b
    obtain ⟨f, rfl⟩ : ∃ m, f = m + 1 := ⟨f - 1, by omega⟩
    have hi : i < size := by omega
    have hlt : (ints .u8 ((layB size n).take i)).length = i := by rw [ints_length, List.length_take, layB_len]; omega
    have hv : (layB size n)[i]? = some ((n / 2 ^ (8 * (size - 1 - i)) % 256 : Nat) : Int) := by unfold layB; rw [List.getElem?_map, List.getElem?_range hi]; rfl
    obtain ⟨w1, c1, c2, c3⟩ := b.stC (i := o + i) (by rw [seg_length (by rw [hlt]; omega)]; omega) (.int .u8 ((n / 2 ^ (8 * (size - 1 - i)) % 256 : Nat) : Int))
    have e5 := seg_snoc (cs := cs) (o := o) (vs := ints .u8 ((layB size n).take i)) (v := .int .u8 ((n / 2 ^ (8 * (size - 1 - i)) % 256 : Nat) : Int)) (by rw [hlt]; omega)
    rw [hlt] at e5
    have e6 : ints .u8 ((layB size n).take i) ++ [Value.int .u8 ((n / 2 ^ (8 * (size - 1 - i)) % 256 : Nat) : Int)] = ints .u8 ((layB size n).take (i + 1)) := by
      rw [List.take_add_one, hv, ints_append]; rfl
    rw [e5, e6] at c2
    obtain ⟨w2, g1, g2, g3⟩ := ih (i + 1) f w1 (by omega) (by omega) c2
    refine ⟨w2, ?_, g2, c3.trans' g3 fun _ _ e => e⟩
    have e7 : IntKind.i64.wrap (8 * (IntKind.i64.wrap ((IntKind.i64.wrap ((size : Int) - 1)) - (i : Int)))) = ((8 * (size - 1 - i) : Nat) : Int) := by
      have a1 : IntKind.i64.wrap ((size : Int) - 1) = ((size - 1 : Nat) : Int) := by rw [w64 (by omega) (by omega)]; omega
      have a2 : IntKind.i64.wrap (((size - 1 : Nat) : Int) - (i : Int)) = ((size - 1 - i : Nat) : Int) := by rw [w64 (by omega) (by omega)]; omega
      rw [a1, a2, w64 (by omega) (by omega)]; omega
    have e8 : min (Int.toNat ((8 * (size - 1 - i) : Nat) : Int)) IntKind.u64.bits = 8 * (size - 1 - i) := by
      rw [Int.toNat_natCast]; exact Nat.min_eq_left (show 8 * (size - 1 - i) ≤ 64 by omega)
    have e9 : IntKind.u8.wrap (((n / 2 ^ (8 * (size - 1 - i)) : Nat)) : Int) = ((n / 2 ^ (8 * (size - 1 - i)) % 256 : Nat) : Int) := by rw [IntKind.wrap_u8]; rfl
    have e1 : IntKind.i64.wrap ((i : Int) + 1) = ((i + 1 : Nat) : Int) := by rw [w64 (by omega) (by omega)]; rfl
    have c1' : stC ((⟨g, o, none⟩ : Addr).add (i * 1)) (.int .u8 ((n / 2 ^ (8 * (size - 1 - i)) % 256 : Nat) : Int)) w = some w1 := by rw [add_lit, Nat.mul_one]; exact c1
    have eu : rijndael_lay_l0 K (f + 1) = rijndael_lay_l0_b K (rijndael_lay_l0 K f) := rfl
    rw [eu]
    unfold rijndael_lay_l0_b
    rw [if_pos (decide_eq_true (by omega)), e7, if_pos (by omega), Option.bind_some, if_pos (nat_in (show i < len by omega)), e8, fdiv_pow, e9, Int.toNat_natCast, c1', Option.bind_some, e1, g1]

theorem lay_ok {K : Nat} (hK : 300 ≤ K) {e : TypeId} {g o size n len cap : Nat} {cs : List Value} (hsz : size ≤ 8) (hlen : size ≤ len) (ho : o + size ≤ cs.length) (hn : n < 18446744073709551616) {w : World} (b : Bk e w g cs) :
    ∃ w', rijndael_lay K ⟨some ⟨g, o, none⟩, len, cap⟩ (size : Int) (n : Int) w = some ((), w') ∧ Bk e w' g (seg cs o (ints .u8 (layB size n))) ∧ Upd (· = g) w w' := by
  have b0 : Bk e w g (seg cs o (ints .u8 ((layB size n).take 0))) := by
    have : seg cs o (ints .u8 ((layB size n).take 0)) = cs := by
      rw [List.take_zero]; show cs.take o ++ [] ++ cs.drop (o + 0) = cs
      rw [List.append_nil, Nat.add_zero, List.take_append_drop]
    rw [this]; exact b
  obtain ⟨w', a1, a2, a3⟩ := lay_loop K hsz hlen ho hn size 0 K w rfl (by omega) b0
  refine ⟨w', ?_, a2, a3⟩
  have a1 : rijndael_lay_l0 K K ⟨some ⟨g, o, none⟩, len, cap⟩ (size : Int) (n : Int) (size : Int) 0 w = _ := a1
  unfold rijndael_lay
  rw [a1, bnd_ok]

theorem lay4 {x : W4} (h : x.ok) : layB 4 x.n = w4I x := by
  obtain ⟨ha, hb, hc, hd⟩ := h
  show [((pk x.a x.b x.c x.d / 16777216 % 256 : Nat) : Int), ((pk x.a x.b x.c x.d / 65536 % 256 : Nat) : Int), ((pk x.a x.b x.c x.d / 256 % 256 : Nat) : Int), ((pk x.a x.b x.c x.d / 1 % 256 : Nat) : Int)] = [(x.a : Int), x.b, x.c, x.d]
  have e0 : pk x.a x.b x.c x.d / 16777216 % 256 = x.a := by unfold pk; omega
  have e1 : pk x.a x.b x.c x.d / 65536 % 256 = x.b := by unfold pk; omega
  have e2 : pk x.a x.b x.c x.d / 256 % 256 = x.c := by unfold pk; omega
  have e3 : pk x.a x.b x.c x.d / 1 % 256 = x.d := by unfold pk; omega
  rw [e0, e1, e2, e3]

theorem bl_upd {f g : Nat → W4} {i : Nat} (hi : i < 4) : seg (bl (upL f g i)) (4 * i) (ints .u8 (w4I (f i))) = bl (upL f g (i + 1)) := by
  have : i = 0 ∨ i = 1 ∨ i = 2 ∨ i = 3 := by omega
  rcases this with rfl | rfl | rfl | rfl <;> rfl

theorem block_loop {K : Nat} (hK : 300 ≤ K) {st : List W4} (hs : ∀ x ∈ st, x.ok) (hl : st.length = 4) {gb : Nat} {a2 : Addr} :
    ∀ (d i f : Nat) (w : World), d + i = 4 → d < f → Bk 42 w gb (bl (upL (fun c => st.getD c z4) (fun _ => z4) i)) →
      ∃ w', rijndael_state_block_l0 K f a2 ⟨gb, 0, none⟩ (wv st).toArray (i : Int) w = some ((), w') ∧ Bk 42 w' gb (bl st) ∧ Upd (· = gb) w w' := by
  intro d
  induction d with
  | zero =>
    intro i f w hd hf b
    obtain ⟨f, rfl⟩ : ∃ m, f = m + 1 := ⟨f - 1, by omega⟩
    obtain rfl : i = 4 := by omega
    rw [upL_four, fourL_self hl] at b
    refine ⟨w, ?_, b, Upd.refl _ w⟩
    have eu : rijndael_state_block_l0 K (f + 1) = rijndael_state_block_l0_b K (rijndael_state_block_l0 K f) := rfl
    rw [eu]
    unfold rijndael_state_block_l0_b
    rw [if_neg (by decide)]
  | succ d ih =>
    intro i f w hd hf b
    obtain ⟨f, rfl⟩ : ∃ m, f = m + 1 := ⟨f - 1, by omega⟩
    have hi : i < 4 := by omega
    have hko := getD_ok hs i
    have hlt := W4.lt hko
    obtain ⟨w1, c1, c2, c3⟩ := lay_ok hK (e := 42) (g := gb) (o := 4 * i) (size := 4) (n := (st.getD i z4).n) (len := 16 - 4 * i) (cap := 16 - 4 * i) (by decide) (by omega) (by rw [bl_len (upL_len _ _ _)]; omega) (by omega) b
    rw [lay4 hko, bl_upd (f := fun c => st.getD c z4) hi] at c2
    obtain ⟨w2, g1, g2, g3⟩ := ih (i + 1) f w1 (by omega) (by omega) c2
    refine ⟨w2, ?_, g2, c3.trans' g3 fun _ _ e => e⟩
    have e4 : IntKind.i64.wrap (4 * (i : Int)) = ((4 * i : Nat) : Int) := by rw [w64 (by omega) (by omega)]; omega
    have e1 : IntKind.i64.wrap ((i : Int) + 1) = ((i + 1 : Nat) : Int) := by rw [w64 (by omega) (by omega)]; rfl
    have eg : (wv st).toArray[i]? = some (.int .u32 (((st.getD i z4).n : Nat) : Int)) := by rw [List.getElem?_toArray]; exact wv_get (by omega)
    have es : sla (some (⟨gb, 0, none⟩ : Addr)) (4 * i) 16 1 = some ⟨gb, 4 * i, none⟩ := by rw [sla_some (by omega), add_lit, Nat.mul_one, Nat.zero_add]
    have c1 : rijndael_lay K ⟨some ⟨gb, 4 * i, none⟩, 16 - 4 * i, 16 - 4 * i⟩ 4 (((st.getD i z4).n : Nat) : Int) w = some ((), w1) := c1
    have eu : rijndael_state_block_l0 K (f + 1) = rijndael_state_block_l0_b K (rijndael_state_block_l0 K f) := rfl
    rw [eu]
    unfold rijndael_state_block_l0_b
    rw [if_pos (decide_eq_true (by omega)), if_pos (nat_in hi), Int.toNat_natCast, Nat.mul_one, eg, Option.bind_some]
    show ((some (((st.getD i z4).n : Nat) : Int)).bind _) = _
    rw [Option.bind_some, e4, if_pos ⟨by omega, by omega⟩, Int.toNat_natCast, es, wru64 (by omega), c1, bnd_ok, e1, g1]

theorem z42_bl : z42.toList = bl (fourL fun _ => z4) := rfl
theorem bl_one (st : List W4) : ∀ v ∈ bl st, v.oneCell' = true := fun v hv => ints_one v hv

theorem block_ok {K : Nat} (hK : 300 ≤ K) {st : List W4} (hs : ∀ x ∈ st, x.ok) (hl : st.length = 4) (w : World) :
    ∃ w', rijndael_state_block K (wv st).toArray w = some (((bl st).toArray, ()), w') ∧ Upd none_ w w' := by
  obtain ⟨w1, n1, b1, u1, z1⟩ := newB_ok (wv st).toArray 135 w
  obtain ⟨w2, n2, b2, u2, z2⟩ := newB_ok z42 42 w1
  obtain ⟨w3, n3, b3, u3, z3⟩ := newB_ok z42 42 w2
  rw [z42_bl] at b2 b3
  have b1 : Bk 135 w1 w.heap.size (wv st) := b1
  rw [← upL_zero (fun c => st.getD c z4)] at b3
  have hl1 := ((b1.upd0 u2).upd0 u3).ldA (i := 0) (n := 4) (by rw [wv_len, hl]; decide)
  rw [List.drop_zero, List.take_of_length_le (by rw [wv_len, hl]; decide)] at hl1
  obtain ⟨w4, a4, b4, u4⟩ := block_loop hK hs hl (gb := w2.heap.size) (a2 := ⟨w1.heap.size, 0, none⟩) 4 0 K w3 rfl (by omega) b3
  have a4 : rijndael_state_block_l0 K K ⟨w1.heap.size, 0, none⟩ ⟨w2.heap.size, 0, none⟩ (wv st).toArray 0 w3 = _ := a4
  have hl4 := b4.ldA (i := 0) (n := 16) (by rw [bl_len hl]; decide)
  rw [List.drop_zero, List.take_of_length_le (by rw [bl_len hl]; decide)] at hl4
  obtain ⟨w5, a5, b5, u5⟩ := ((b2.upd0 u3).upd u4 (by omega)).stA (o := 0) (vs := (bl st).toArray) (by rw [List.size_toArray, bl_len hl, bl_len (fourL_len _)]; decide) (fun v hv => bl_one st v hv)
  have b5 : Bk 42 w5 w1.heap.size (seg (bl (fourL fun _ => z4)) 0 (bl st)) := b5
  rw [seg_all (by rw [bl_len hl, bl_len (fourL_len _)])] at b5
  have hl5 := b5.ldA (i := 0) (n := 16) (by rw [bl_len hl]; decide)
  rw [List.drop_zero, List.take_of_length_le (by rw [bl_len hl]; decide)] at hl5
  refine ⟨w5, ?_, ((((u1.and0 u2).and0 u3).trans' u4 fun k hk e => by omega).trans' u5 fun k hk e => by omega)⟩
  unfold rijndael_state_block
  rw [n1, bnd_ok, n2, bnd_ok, n3, bnd_ok, hl1, Option.bind_some, a4, bnd_ok, hl4, Option.bind_some, if_pos (by rw [List.size_toArray, bl_len hl]), a5, Option.bind_some, hl5, Option.bind_some]

end Go.Sh

/- Package rijndael: a block goes through the rounds. -/
set_option linter.unusedVariables false
set_option maxRecDepth 100000
namespace Go.Sh
open Go.Fw Go.Gf Go.RowKit Go.Proofs.Tryd

def subW4 (f : Nat → Nat) (step : Nat) (st : List W4) (c : Nat) : W4 := ⟨f (byteW (st.getD c z4) 0), f (byteW (st.getD ((c + step) % 4) z4) 1), f (byteW (st.getD ((c + 2) % 4) z4) 2), f (byteW (st.getD ((c + 3 * step) % 4) z4) 3)⟩
def mcW (Y : W4) (x : W4) : W4 := (((W4.rr 0 (mulW x.a Y)).xor (W4.rr 1 (mulW x.b Y))).xor (W4.rr 2 (mulW x.c Y))).xor (W4.rr 3 (mulW x.d Y))
theorem imc_mc (x : W4) : imc x = mcW decY x := rfl
theorem mcW_ok {x : W4} (h : x.ok) (Y : W4) : (mcW Y x).ok := W4.ok_xor (W4.ok_xor (W4.ok_xor (W4.ok_rr (mulW_ok h.1 _) 0) (W4.ok_rr (mulW_ok h.2.1 _) 1)) (W4.ok_rr (mulW_ok h.2.2.1 _) 2)) (W4.ok_rr (mulW_ok h.2.2.2 _) 3)
theorem subW4_ok {f : Nat → Nat} (hf : ∀ i, i < 256 → f i < 256) {step : Nat} {st : List W4} (hs : ∀ x ∈ st, x.ok) (c : Nat) : (subW4 f step st c).ok :=
  ⟨hf _ (byteW_lt (getD_ok hs _) 0), hf _ (byteW_lt (getD_ok hs _) 1), hf _ (byteW_lt (getD_ok hs _) 2), hf _ (byteW_lt (getD_ok hs _) 3)⟩

def addK (st : List W4) (k : Nat → W4) : List W4 := fourL fun c => (st.getD c z4).xor (k c)
def rnd (W : List W4) (f : Nat → Nat) (Y : W4) (step : Nat) (r : Nat) (st : List W4) : List W4 := fourL fun c => (mcW Y (subW4 f step st c)).xor (W.getD (r + c) z4)
def rounds (W : List W4) (f : Nat → Nat) (Y : W4) (step : Nat) : Nat → Nat → List W4 → List W4
  | 0, _, st => st
  | d + 1, r, st => rounds W f Y step d (r + 4) (rnd W f Y step r st)
def lastR (W : List W4) (f : Nat → Nat) (step : Nat) (n : Nat) (st : List W4) : List W4 := fourL fun c => (subW4 f step st c).xor (W.getD (n + c) z4)
def throughF (W : List W4) (f : Nat → Nat) (Y : W4) (step : Nat) (st : List W4) : List W4 :=
  lastR W f step (W.length - 4) (rounds W f Y step ((W.length - 8) / 4) 4 (addK st fun c => W.getD c z4))

theorem addK_ok {st : List W4} {k : Nat → W4} (hs : ∀ x ∈ st, x.ok) (hk : ∀ c, c < 4 → (k c).ok) : ∀ x ∈ addK st k, x.ok := fourL_ok fun c hc => W4.ok_xor (getD_ok hs c) (hk c hc)
theorem rnd_ok {W : List W4} (hW : ∀ x ∈ W, x.ok) {f : Nat → Nat} (hf : ∀ i, i < 256 → f i < 256) (Y : W4) (step r : Nat) {st : List W4} (hs : ∀ x ∈ st, x.ok) : ∀ x ∈ rnd W f Y step r st, x.ok := fourL_ok fun c hc => W4.ok_xor (mcW_ok (subW4_ok hf hs c) Y) (getD_ok hW _)
theorem rnd_len (W : List W4) (f : Nat → Nat) (Y : W4) (step r : Nat) (st : List W4) : (rnd W f Y step r st).length = 4 := fourL_len _
theorem rounds_ok {W : List W4} (hW : ∀ x ∈ W, x.ok) {f : Nat → Nat} (hf : ∀ i, i < 256 → f i < 256) (Y : W4) (step : Nat) : ∀ (d r : Nat) {st : List W4}, (∀ x ∈ st, x.ok) → ∀ x ∈ rounds W f Y step d r st, x.ok
  | 0, _, _, h => h
  | d + 1, r, _, h => rounds_ok hW hf Y step d (r + 4) (rnd_ok hW hf Y step r h)
theorem rounds_len (W : List W4) (f : Nat → Nat) (Y : W4) (step : Nat) : ∀ (d r : Nat) {st : List W4}, st.length = 4 → (rounds W f Y step d r st).length = 4
  | 0, _, _, h => h
  | d + 1, r, st, _ => rounds_len W f Y step d (r + 4) (rnd_len W f Y step r st)
theorem lastR_ok {W : List W4} (hW : ∀ x ∈ W, x.ok) {f : Nat → Nat} (hf : ∀ i, i < 256 → f i < 256) (step n : Nat) {st : List W4} (hs : ∀ x ∈ st, x.ok) : ∀ x ∈ lastR W f step n st, x.ok := fourL_ok fun c hc => W4.ok_xor (subW4_ok hf hs c) (getD_ok hW _)
theorem throughF_ok {W : List W4} (hW : ∀ x ∈ W, x.ok) {f : Nat → Nat} (hf : ∀ i, i < 256 → f i < 256) (Y : W4) (step : Nat) {st : List W4} (hs : ∀ x ∈ st, x.ok) : ∀ x ∈ throughF W f Y step st, x.ok := lastR_ok hW hf step _ (rounds_ok hW hf Y step _ _ (addK_ok hs fun c _ => getD_ok hW c))
theorem throughF_len (W : List W4) (f : Nat → Nat) (Y : W4) (step : Nat) (st : List W4) : (throughF W f Y step st).length = 4 := fourL_len _

theorem wc_ld {w : World} {gw n : Nat} {W : List W4} (b : Bk 50 w gw (wc W n)) {i : Nat} (hi : i < W.length) : ldI .u32 ((⟨gw, 0, none⟩ : Addr).add (i * 1)) w = some (((W.getD i z4).n : Nat) : Int) := by
  rw [add_lit, Nat.mul_one, Nat.zero_add]; exact b.ldI (wc_get hi z4)
theorem wv_ld {w : World} {g : Nat} {L : List W4} (b : Bk 135 w g (wv L)) {i : Nat} (hi : i < L.length) : ldI .u32 ((⟨g, 0, none⟩ : Addr).add (i * 1)) w = some (((L.getD i z4).n : Nat) : Int) := by
  rw [add_lit, Nat.mul_one, Nat.zero_add]; exact b.ldI (wv_get hi)

theorem thr_l0 {K : Nat} {W : List W4} (hW : ∀ x ∈ W, x.ok) {n : Nat} (hn : W.length = n) (hn8 : 8 ≤ n) {gw : Nat} {t2 last : Option Addr} {stp : Int} {gs : Nat} {a10 : Addr} {st : List W4} (hs : ∀ x ∈ st, x.ok) (hne : gw ≠ gs) :
    ∀ (d i f : Nat) (w : World), d + i = 4 → d < f → Bk 50 w gw (wc W n) → Bk 135 w gs (wv (upL (fun c => (st.getD c z4).xor (W.getD c z4)) (fun c => st.getD c z4) i)) →
      ∃ w', rijndael_through_l0 K f ⟨some ⟨gw, 0, none⟩, n, n⟩ t2 last stp ⟨gs, 0, none⟩ a10 (i : Int) w = some ((), w') ∧ Bk 135 w' gs (wv (addK st fun c => W.getD c z4)) ∧ Upd (· = gs) w w' := by
  intro d
  induction d with
  | zero =>
    intro i f w hd hf bw b
    obtain ⟨f, rfl⟩ : ∃ m, f = m + 1 := ⟨f - 1, by omega⟩
    obtain rfl : i = 4 := by omega
    rw [upL_four] at b
    refine ⟨w, ?_, b, Upd.refl _ w⟩
    have eu : rijndael_through_l0 K (f + 1) = rijndael_through_l0_b K (rijndael_through_l0 K f) := rfl
    rw [eu]
    unfold rijndael_through_l0_b
    rw [if_neg (by decide)]
  | succ d ih =>
    intro i f w hd hf bw b
    obtain ⟨f, rfl⟩ : ∃ m, f = m + 1 := ⟨f - 1, by omega⟩
    have hi : i < 4 := by omega
    have l1 := wv_ld b.drew (i := i) (by rw [upL_len]; exact hi)
    rw [upL_get _ _ _ hi, if_neg (Nat.lt_irrefl i)] at l1
    have l2 := wc_ld bw.drew (i := i) (by omega)
    have ex := W4.xor_n (getD_ok hs i) (getD_ok hW i)
    obtain ⟨w1, c1, c2, c3⟩ := b.drew.stC (i := i) (by rw [wv_len, upL_len]; exact hi) (.int .u32 ((((st.getD i z4).xor (W.getD i z4)).n : Nat) : Int))
    rw [upL_set (f := fun c => (st.getD c z4).xor (W.getD c z4)) hi] at c2
    have c3 : Upd (· = gs) w w1 := c3.predrew
    obtain ⟨w2, g1, g2, g3⟩ := ih (i + 1) f w1 (by omega) (by omega) (bw.upd c3 hne) c2
    refine ⟨w2, ?_, g2, c3.trans' g3 fun _ _ e => e⟩
    have e1 : IntKind.i64.wrap ((i : Int) + 1) = ((i + 1 : Nat) : Int) := by rw [w64 (by omega) (by omega)]; rfl
    have c1' : stC ((⟨gs, 0, none⟩ : Addr).add (i * 1)) (.int .u32 ((((st.getD i z4).xor (W.getD i z4)).n : Nat) : Int)) w.drew = some w1 := by
      rw [add_lit, Nat.mul_one, Nat.zero_add]; exact c1
    have eu : rijndael_through_l0 K (f + 1) = rijndael_through_l0_b K (rijndael_through_l0 K f) := rfl
    rw [eu]
    unfold rijndael_through_l0_b
    rw [if_pos (decide_eq_true (by omega)), if_pos (nat_in hi), Option.bind_some, if_pos (nat_in (show i < n by omega)), Int.toNat_natCast, l1, Option.bind_some, l2, Option.bind_some, if_pos (nat_in hi), ex, c1', Option.bind_some, e1, g1]

theorem mod4_ok {i k : Nat} (hi : i < 4) (hk : k < 100) : Int.tmod (IntKind.i64.wrap ((i : Int) + (k : Int))) 4 = (((i + k) % 4 : Nat) : Int) := by
  have e : IntKind.i64.wrap ((i : Int) + (k : Int)) = ((i + k : Nat) : Int) := by rw [w64 (by omega) (by omega)]; omega
  rw [e]; exact tmod_nat (i + k) 4

theorem thr_l2 {K : Nat} {W : List W4} (hW : ∀ x ∈ W, x.ok) {n : Nat} (hn : W.length = n) (hn8 : 8 ≤ n) (hn1 : n ≤ 1000) {t gw : Nat} {step : Nat} (hstep : step ≤ 3) {f : Nat → Nat} (hf : ∀ i, i < 256 → f i < 256) {Y : W4} {o : Nat} (hT : ∀ {w : World}, Bk 130 w t tabsL → ∀ {r i : Nat}, r < 4 → i < 256 → ldI .u32 ((((⟨t, 0, none⟩ : Addr).add o).add (r * 256)).add (i * 1)) w = some (((W4.rr r (mulW (f i) Y)).n : Nat) : Int)) {last : Option Addr} {gs gx : Nat} {a10 : Addr} {nn : Int} {r : Nat} (hr : r + 4 ≤ n) {st : List W4} (hs : ∀ x ∈ st, x.ok) (hl : st.length = 4) (h1 : gw ≠ gx) (h2 : gs ≠ gx) (h3 : t ≠ gx) :
    ∀ (d i fu : Nat) (w : World), d + i = 4 → d < fu → Bk 50 w gw (wc W n) → Bk 130 w t tabsL → Bk 135 w gs (wv st) → Bk 135 w gx (wv (upL (fun c => (mcW Y (subW4 f step st c)).xor (W.getD (r + c) z4)) (fun _ => z4) i)) →
      ∃ w', rijndael_through_l2 K fu ⟨some ⟨gw, 0, none⟩, n, n⟩ (some ((⟨t, 0, none⟩ : Addr).add o)) last (step : Int) ⟨gs, 0, none⟩ a10 nn (r : Int) ⟨gx, 0, none⟩ (i : Int) w = some ((), w') ∧ Bk 135 w' gx (wv (rnd W f Y step r st)) ∧ Upd (· = gx) w w' := by
  intro d
  induction d with
  | zero =>
    intro i fu w hd hfu bw bt bs b
    obtain ⟨fu, rfl⟩ : ∃ m, fu = m + 1 := ⟨fu - 1, by omega⟩
    obtain rfl : i = 4 := by omega
    rw [upL_four] at b
    refine ⟨w, ?_, b, Upd.refl _ w⟩
    have eu : rijndael_through_l2 K (fu + 1) = rijndael_through_l2_b K (rijndael_through_l2 K fu) := rfl
    rw [eu]
    unfold rijndael_through_l2_b
    rw [if_neg (by decide)]
  | succ d ih =>
    intro i fu w hd hfu bw bt bs b
    obtain ⟨fu, rfl⟩ : ∃ m, fu = m + 1 := ⟨fu - 1, by omega⟩
    have hi : i < 4 := by omega
    have bsd := bs.drew
    have btd := bt.drew
    have k0 := getD_ok hs i
    have k1 := getD_ok hs ((i + step) % 4)
    have k2 := getD_ok hs ((i + 2) % 4)
    have k3 := getD_ok hs ((i + 3 * step) % 4)
    have m1 := mod4_ok (i := i) (k := step) hi (by omega)
    have m2 : Int.tmod (IntKind.i64.wrap ((i : Int) + 2)) 4 = (((i + 2) % 4 : Nat) : Int) := mod4_ok (i := i) (k := 2) hi (by omega)
    have e3s : IntKind.i64.wrap (3 * (step : Int)) = ((3 * step : Nat) : Int) := by rw [w64 (by omega) (by omega)]; omega
    have m3 := mod4_ok (i := i) (k := 3 * step) hi (by omega)
    have j1 : (i + step) % 4 < 4 := Nat.mod_lt _ (by decide)
    have j2 : (i + 2) % 4 < 4 := Nat.mod_lt _ (by decide)
    have j3 : (i + 3 * step) % 4 < 4 := Nat.mod_lt _ (by decide)
    have l0 := wv_ld bsd (i := i) (by omega)
    have l1 := wv_ld bsd (i := (i + step) % 4) (by omega)
    have l2 := wv_ld bsd (i := (i + 2) % 4) (by omega)
    have l3 := wv_ld bsd (i := (i + 3 * step) % 4) (by omega)
    have lk := wc_ld bw.drew (i := r + i) (by omega)
    have erk : IntKind.i64.wrap ((r : Int) + (i : Int)) = ((r + i : Nat) : Int) := by rw [w64 (by omega) (by omega)]; omega
    have p0 : Int.fdiv (((st.getD i z4).n : Nat) : Int) (2 ^ 24) = ((byteW (st.getD i z4) 0 : Nat) : Int) := pk_0 k0.2.1 k0.2.2.1 k0.2.2.2
    have p1 : bits .and .u32 (Int.fdiv (((st.getD ((i + step) % 4) z4).n : Nat) : Int) (2 ^ 16)) 255 = ((byteW (st.getD ((i + step) % 4) z4) 1 : Nat) : Int) := pk_1 k1.1 k1.2.1 k1.2.2.1 k1.2.2.2
    have p2 : bits .and .u32 (Int.fdiv (((st.getD ((i + 2) % 4) z4).n : Nat) : Int) (2 ^ 8)) 255 = ((byteW (st.getD ((i + 2) % 4) z4) 2 : Nat) : Int) := pk_2 k2.1 k2.2.1 k2.2.2.1 k2.2.2.2
    have p3 : bits .and .u32 (((st.getD ((i + 3 * step) % 4) z4).n : Nat) : Int) 255 = ((byteW (st.getD ((i + 3 * step) % 4) z4) 3 : Nat) : Int) := pk_3 k3.1 k3.2.1 k3.2.2.1 k3.2.2.2
    have q0 := byteW_lt k0 0
    have q1 := byteW_lt k1 1
    have q2 := byteW_lt k2 2
    have q3 := byteW_lt k3 3
    have t0 := hT btd (r := 0) (by decide) q0
    have t1 := hT btd (r := 1) (by decide) q1
    have t2 := hT btd (r := 2) (by decide) q2
    have t3 := hT btd (r := 3) (by decide) q3
    have o0 := W4.ok_rr (mulW_ok (hf _ q0) Y) 0
    have o1 := W4.ok_rr (mulW_ok (hf _ q1) Y) 1
    have o2 := W4.ok_rr (mulW_ok (hf _ q2) Y) 2
    have o3 := W4.ok_rr (mulW_ok (hf _ q3) Y) 3
    have x1 := W4.xor_n o0 o1
    have x2 := W4.xor_n (W4.ok_xor o0 o1) o2
    have x3 := W4.xor_n (W4.ok_xor (W4.ok_xor o0 o1) o2) o3
    have x4 := W4.xor_n (W4.ok_xor (W4.ok_xor (W4.ok_xor o0 o1) o2) o3) (getD_ok hW (r + i))
    obtain ⟨w1, c1, c2, c3⟩ := b.drew.stC (i := i) (by rw [wv_len, upL_len]; exact hi) (.int .u32 ((((mcW Y (subW4 f step st i)).xor (W.getD (r + i) z4)).n : Nat) : Int))
    rw [upL_set (f := fun c => (mcW Y (subW4 f step st c)).xor (W.getD (r + c) z4)) hi] at c2
    have c3 : Upd (· = gx) w w1 := c3.predrew
    obtain ⟨w2, g1, g2, g3⟩ := ih (i + 1) fu w1 (by omega) (by omega) (bw.upd c3 h1) (bt.upd c3 h3) (bs.upd c3 h2) c2
    refine ⟨w2, ?_, g2, c3.trans' g3 fun _ _ e => e⟩
    have e1 : IntKind.i64.wrap ((i : Int) + 1) = ((i + 1 : Nat) : Int) := by rw [w64 (by omega) (by omega)]; rfl
    have c1' : stC ((⟨gx, 0, none⟩ : Addr).add (i * 1)) (.int .u32 ((((mcW Y (subW4 f step st i)).xor (W.getD (r + i) z4)).n : Nat) : Int)) w.drew = some w1 := by
      rw [add_lit, Nat.mul_one, Nat.zero_add]; exact c1
    have eu : rijndael_through_l2 K (fu + 1) = rijndael_through_l2_b K (rijndael_through_l2 K fu) := rfl
    rw [eu]
    unfold rijndael_through_l2_b
    rw [if_pos (decide_eq_true (by omega)), if_pos (nat_in hi), Option.bind_some, m1, if_pos (nat_in j1), Option.bind_some, m2, if_pos (nat_in j2), Option.bind_some, e3s, m3, if_pos (nat_in j3), Option.bind_some, Option.bind_some, erk, if_pos (nat_in (show r + i < n by omega)), Int.toNat_natCast, Int.toNat_natCast, Int.toNat_natCast, Int.toNat_natCast, Int.toNat_natCast,
      l0, Option.bind_some, p0, if_pos (nat_in q0), Int.toNat_natCast, t0, Option.bind_some, l1, Option.bind_some, p1, if_pos (nat_in q1), Int.toNat_natCast, t1, Option.bind_some, l2, Option.bind_some, p2, if_pos (nat_in q2), Int.toNat_natCast, t2, Option.bind_some, l3, Option.bind_some, p3, if_pos (nat_in q3), Int.toNat_natCast, t3, Option.bind_some, lk, Option.bind_some, if_pos (nat_in hi), x1, x2, x3, x4]
    show (stC _ (.int .u32 ((((mcW Y (subW4 f step st i)).xor (W.getD (r + i) z4)).n : Nat) : Int)) w.drew).bind _ = _
    rw [c1', Option.bind_some, e1, g1]

theorem thr_l1 {K : Nat} {W : List W4} (hW : ∀ x ∈ W, x.ok) {n : Nat} (hn : W.length = n) (hn4 : n % 4 = 0) (hn8 : 8 ≤ n) (hn1 : n ≤ 1000) {t gw : Nat} {step : Nat} (hstep : step ≤ 3) {f : Nat → Nat} (hf : ∀ i, i < 256 → f i < 256) {Y : W4} {o : Nat} (hT : ∀ {w : World}, Bk 130 w t tabsL → ∀ {r i : Nat}, r < 4 → i < 256 → ldI .u32 ((((⟨t, 0, none⟩ : Addr).add o).add (r * 256)).add (i * 1)) w = some (((W4.rr r (mulW (f i) Y)).n : Nat) : Int)) (hK : 300 ≤ K) {last : Option Addr} {gs : Nat} {a10 : Addr} (h1 : gw ≠ gs) (h3 : t ≠ gs) :
    ∀ (d r fu : Nat) (w : World) (st : List W4), 4 * d + r = n - 4 → r % 4 = 0 → 4 ≤ r → d < fu → (∀ x ∈ st, x.ok) → st.length = 4 → Bk 50 w gw (wc W n) → Bk 130 w t tabsL → Bk 135 w gs (wv st) →
      ∃ w', rijndael_through_l1 K fu ⟨some ⟨gw, 0, none⟩, n, n⟩ (some ((⟨t, 0, none⟩ : Addr).add o)) last (step : Int) ⟨gs, 0, none⟩ a10 ((n - 4 : Nat) : Int) (r : Int) w = some ((), w') ∧ Bk 135 w' gs (wv (rounds W f Y step d r st)) ∧ Upd (· = gs) w w' := by
  intro d
  induction d with
  | zero =>
    intro r fu w st hd hr4 hr hfu hs hl bw bt bs
    obtain ⟨fu, rfl⟩ : ∃ m, fu = m + 1 := ⟨fu - 1, by omega⟩
    refine ⟨w, ?_, bs, Upd.refl _ w⟩
    have eu : rijndael_through_l1 K (fu + 1) = rijndael_through_l1_b K (rijndael_through_l1 K fu) := rfl
    rw [eu]
    unfold rijndael_through_l1_b
    rw [if_neg (fun e => by have := of_decide_eq_true e; omega)]
  | succ d ih =>
    intro r fu w st hd hr4 hr hfu hs hl bw bt bs
    obtain ⟨fu, rfl⟩ : ∃ m, fu = m + 1 := ⟨fu - 1, by omega⟩
    obtain ⟨w1, n1, b1, u1, z1⟩ := newB_ok z135 135 w
    have b1 : Bk 135 w1 w.heap.size (wv (fourL fun _ => z4)) := b1
    rw [← upL_zero (fun c => (mcW Y (subW4 f step st c)).xor (W.getD (r + c) z4))] at b1
    have hgw := bw.lt
    have hgt := bt.lt
    have hgs := bs.lt
    obtain ⟨w2, a2, b2, u2⟩ := thr_l2 (K := K) hW hn hn8 hn1 hstep hf hT (last := last) (gs := gs) (gx := w.heap.size) (a10 := a10) (nn := ((n - 4 : Nat) : Int)) (r := r) (by omega) hs hl (by omega) (by omega) (by omega) 4 0 K w1 rfl (by omega) (bw.upd0 u1) (bt.upd0 u1) (bs.upd0 u1) b1
    have a2 : rijndael_through_l2 K K ⟨some ⟨gw, 0, none⟩, n, n⟩ (some ((⟨t, 0, none⟩ : Addr).add o)) last (step : Int) ⟨gs, 0, none⟩ a10 ((n - 4 : Nat) : Int) (r : Int) ⟨w.heap.size, 0, none⟩ 0 w1 = _ := a2
    have q2 : Upd none_ w w2 := u1.trans' u2 fun k hk e => by omega
    have hl2 := b2.ldA (i := 0) (n := 4) (by rw [wv_len, rnd_len]; decide)
    rw [List.drop_zero, List.take_of_length_le (by rw [wv_len, rnd_len]; decide)] at hl2
    obtain ⟨w3, a3, b3, u3⟩ := (bs.upd0 q2).stA (o := 0) (vs := (wv (rnd W f Y step r st)).toArray) (by rw [List.size_toArray, wv_len, rnd_len, wv_len, hl]; decide) (fun v hv => wv_one _ v hv)
    have b3 : Bk 135 w3 gs (seg (wv st) 0 (wv (rnd W f Y step r st))) := b3
    rw [seg_all (by rw [wv_len, rnd_len, wv_len, hl])] at b3
    have u03 : Upd (· = gs) w w3 := (q2.mono (T := (· = gs)) fun _ _ e => e.elim).trans' u3 fun _ _ e => e
    obtain ⟨w4, g1, g2, g3⟩ := ih (r + 4) fu w3 _ (by omega) (by omega) (by omega) (by omega) (rnd_ok hW hf Y step r hs) (rnd_len _ _ _ _ _ _) (bw.upd u03 h1) (bt.upd u03 h3) b3
    refine ⟨w4, ?_, g2, u03.trans' g3 fun _ _ e => e⟩
    have e4 : IntKind.i64.wrap ((r : Int) + 4) = ((r + 4 : Nat) : Int) := by rw [w64 (by omega) (by omega)]; rfl
    have eu : rijndael_through_l1 K (fu + 1) = rijndael_through_l1_b K (rijndael_through_l1 K fu) := rfl
    rw [eu]
    unfold rijndael_through_l1_b
    rw [if_pos (decide_eq_true (by omega)), n1, bnd_ok, a2, bnd_ok, hl2, Option.bind_some, if_pos (by rw [List.size_toArray, wv_len, rnd_len]), a3, Option.bind_some, e4, g1]

theorem thr_l3 {K : Nat} {W : List W4} (hW : ∀ x ∈ W, x.ok) {n : Nat} (hn : W.length = n) (hn8 : 8 ≤ n) (hn1 : n ≤ 1000) {t gw : Nat} {step : Nat} (hstep : step ≤ 3) {f : Nat → Nat} (hf : ∀ i, i < 256 → f i < 256) {lo : Nat} (hL : ∀ {w : World}, Bk 130 w t tabsL → ∀ {i : Nat}, i < 256 → ldI .u8 (((⟨t, 0, none⟩ : Addr).add lo).add (i * 1)) w = some ((f i : Nat) : Int)) {gs gx : Nat} {a10 : Addr} {st : List W4} (hs : ∀ x ∈ st, x.ok) (hl : st.length = 4) (h1 : gw ≠ gx) (h2 : gs ≠ gx) (h3 : t ≠ gx) :
    ∀ (d i fu : Nat) (w : World), d + i = 4 → d < fu → Bk 50 w gw (wc W n) → Bk 130 w t tabsL → Bk 135 w gs (wv st) → Bk 135 w gx (wv (upL (fun c => (subW4 f step st c).xor (W.getD (n - 4 + c) z4)) (fun _ => z4) i)) →
      ∃ w', rijndael_through_l3 K fu ⟨some ⟨gw, 0, none⟩, n, n⟩ (some ((⟨t, 0, none⟩ : Addr).add lo)) (step : Int) ⟨gs, 0, none⟩ a10 ((n - 4 : Nat) : Int) ⟨gx, 0, none⟩ (i : Int) w = some ((), w') ∧ Bk 135 w' gx (wv (lastR W f step (n - 4) st)) ∧ Upd (· = gx) w w' := by
  intro d
  induction d with
  | zero =>
    intro i fu w hd hfu bw bt bs b
    obtain ⟨fu, rfl⟩ : ∃ m, fu = m + 1 := ⟨fu - 1, by omega⟩
    obtain rfl : i = 4 := by omega
    rw [upL_four] at b
    refine ⟨w, ?_, b, Upd.refl _ w⟩
    have eu : rijndael_through_l3 K (fu + 1) = rijndael_through_l3_b K (rijndael_through_l3 K fu) := rfl
    rw [eu]
    unfold rijndael_through_l3_b
    rw [if_neg (by decide)]
  | succ d ih =>
    intro i fu w hd hfu bw bt bs b
    obtain ⟨fu, rfl⟩ : ∃ m, fu = m + 1 := ⟨fu - 1, by omega⟩
    have hi : i < 4 := by omega
    have bsd := bs.drew
    have btd := bt.drew
    have k0 := getD_ok hs i
    have k1 := getD_ok hs ((i + step) % 4)
    have k2 := getD_ok hs ((i + 2) % 4)
    have k3 := getD_ok hs ((i + 3 * step) % 4)
    have m1 := mod4_ok (i := i) (k := step) hi (by omega)
    have m2 : Int.tmod (IntKind.i64.wrap ((i : Int) + 2)) 4 = (((i + 2) % 4 : Nat) : Int) := mod4_ok (i := i) (k := 2) hi (by omega)
    have e3s : IntKind.i64.wrap (3 * (step : Int)) = ((3 * step : Nat) : Int) := by rw [w64 (by omega) (by omega)]; omega
    have m3 := mod4_ok (i := i) (k := 3 * step) hi (by omega)
    have j1 : (i + step) % 4 < 4 := Nat.mod_lt _ (by decide)
    have j2 : (i + 2) % 4 < 4 := Nat.mod_lt _ (by decide)
    have j3 : (i + 3 * step) % 4 < 4 := Nat.mod_lt _ (by decide)
    have l0 := wv_ld bsd (i := i) (by omega)
    have l1 := wv_ld bsd (i := (i + step) % 4) (by omega)
    have l2 := wv_ld bsd (i := (i + 2) % 4) (by omega)
    have l3 := wv_ld bsd (i := (i + 3 * step) % 4) (by omega)
    have lk := wc_ld bw.drew (i := n - 4 + i) (by omega)
    have erk : IntKind.i64.wrap (((n - 4 : Nat) : Int) + (i : Int)) = ((n - 4 + i : Nat) : Int) := by rw [w64 (by omega) (by omega)]; omega
    have p0 : Int.fdiv (((st.getD i z4).n : Nat) : Int) (2 ^ 24) = ((byteW (st.getD i z4) 0 : Nat) : Int) := pk_0 k0.2.1 k0.2.2.1 k0.2.2.2
    have p1 : bits .and .u32 (Int.fdiv (((st.getD ((i + step) % 4) z4).n : Nat) : Int) (2 ^ 16)) 255 = ((byteW (st.getD ((i + step) % 4) z4) 1 : Nat) : Int) := pk_1 k1.1 k1.2.1 k1.2.2.1 k1.2.2.2
    have p2 : bits .and .u32 (Int.fdiv (((st.getD ((i + 2) % 4) z4).n : Nat) : Int) (2 ^ 8)) 255 = ((byteW (st.getD ((i + 2) % 4) z4) 2 : Nat) : Int) := pk_2 k2.1 k2.2.1 k2.2.2.1 k2.2.2.2
    have p3 : bits .and .u32 (((st.getD ((i + 3 * step) % 4) z4).n : Nat) : Int) 255 = ((byteW (st.getD ((i + 3 * step) % 4) z4) 3 : Nat) : Int) := pk_3 k3.1 k3.2.1 k3.2.2.1 k3.2.2.2
    have q0 := byteW_lt k0 0
    have q1 := byteW_lt k1 1
    have q2 := byteW_lt k2 2
    have q3 := byteW_lt k3 3
    have t0 := hL btd q0
    have t1 := hL btd q1
    have t2 := hL btd q2
    have t3 := hL btd q3
    have em := mk32 (hf _ q0) (hf _ q1) (hf _ q2) (hf _ q3)
    have ho : (subW4 f step st i).ok := subW4_ok hf hs i
    have x4 := W4.xor_n ho (getD_ok hW (n - 4 + i))
    obtain ⟨w1, c1, c2, c3⟩ := b.drew.stC (i := i) (by rw [wv_len, upL_len]; exact hi) (.int .u32 ((((subW4 f step st i).xor (W.getD (n - 4 + i) z4)).n : Nat) : Int))
    rw [upL_set (f := fun c => (subW4 f step st c).xor (W.getD (n - 4 + c) z4)) hi] at c2
    have c3 : Upd (· = gx) w w1 := c3.predrew
    obtain ⟨w2, g1, g2, g3⟩ := ih (i + 1) fu w1 (by omega) (by omega) (bw.upd c3 h1) (bt.upd c3 h3) (bs.upd c3 h2) c2
    refine ⟨w2, ?_, g2, c3.trans' g3 fun _ _ e => e⟩
    have e1 : IntKind.i64.wrap ((i : Int) + 1) = ((i + 1 : Nat) : Int) := by rw [w64 (by omega) (by omega)]; rfl
    have c1' : stC ((⟨gx, 0, none⟩ : Addr).add (i * 1)) (.int .u32 ((((subW4 f step st i).xor (W.getD (n - 4 + i) z4)).n : Nat) : Int)) w.drew = some w1 := by
      rw [add_lit, Nat.mul_one, Nat.zero_add]; exact c1
    have eu : rijndael_through_l3 K (fu + 1) = rijndael_through_l3_b K (rijndael_through_l3 K fu) := rfl
    rw [eu]
    unfold rijndael_through_l3_b
    rw [if_pos (decide_eq_true (by omega)), if_pos (nat_in hi), Option.bind_some, m1, if_pos (nat_in j1), Option.bind_some, m2, if_pos (nat_in j2), Option.bind_some, e3s, m3, if_pos (nat_in j3), Option.bind_some, Option.bind_some, erk, if_pos (nat_in (show n - 4 + i < n by omega)), Int.toNat_natCast, Int.toNat_natCast, Int.toNat_natCast, Int.toNat_natCast, Int.toNat_natCast,
      l0, Option.bind_some, p0, if_pos (nat_in q0), Int.toNat_natCast, t0, Option.bind_some, l1, Option.bind_some, p1, if_pos (nat_in q1), Int.toNat_natCast, t1, Option.bind_some, l2, Option.bind_some, p2, if_pos (nat_in q2), Int.toNat_natCast, t2, Option.bind_some, l3, Option.bind_some, p3, if_pos (nat_in q3), Int.toNat_natCast, t3, Option.bind_some, lk, Option.bind_some, if_pos (nat_in hi), em]
    show (stC _ (.int .u32 (bits .xor .u32 (((subW4 f step st i).n : Nat) : Int) (((W.getD (n - 4 + i) z4).n : Nat) : Int))) w.drew).bind _ = _
    rw [x4, c1', Option.bind_some, e1, g1]

theorem through_ok {K : Nat} {W : List W4} (hW : ∀ x ∈ W, x.ok) {n : Nat} (hn : W.length = n) (hn4 : n % 4 = 0) (hn8 : 8 ≤ n) (hn1 : n ≤ 1000) {t gw : Nat} {step : Nat} (hstep : step ≤ 3) {f : Nat → Nat} (hf : ∀ i, i < 256 → f i < 256) {Y : W4} {o lo : Nat} (hT : ∀ {w : World}, Bk 130 w t tabsL → ∀ {r i : Nat}, r < 4 → i < 256 → ldI .u32 ((((⟨t, 0, none⟩ : Addr).add o).add (r * 256)).add (i * 1)) w = some (((W4.rr r (mulW (f i) Y)).n : Nat) : Int)) (hL : ∀ {w : World}, Bk 130 w t tabsL → ∀ {i : Nat}, i < 256 → ldI .u8 (((⟨t, 0, none⟩ : Addr).add lo).add (i * 1)) w = some ((f i : Nat) : Int)) (hK : 300 ≤ K) {st : List W4} (hs : ∀ x ∈ st, x.ok) (hl : st.length = 4) {w : World} (bw : Bk 50 w gw (wc W n)) (bt : Bk 130 w t tabsL) :
    ∃ w', rijndael_through K (wv st).toArray ⟨some ⟨gw, 0, none⟩, n, n⟩ (some ((⟨t, 0, none⟩ : Addr).add o)) (some ((⟨t, 0, none⟩ : Addr).add lo)) (step : Int) w = some (((wv (throughF W f Y step st)).toArray, ()), w') ∧ Upd none_ w w' := by
  obtain ⟨w1, n1, b1, u1, z1⟩ := newB_ok (wv st).toArray 135 w
  obtain ⟨w2, n2, b2, u2, z2⟩ := newB_ok z135 135 w1
  have b1 : Bk 135 w1 w.heap.size (wv st) := b1
  have b2 : Bk 135 w2 w1.heap.size (wv (fourL fun _ => z4)) := b2
  have hgw := bw.lt
  have hgt := bt.lt
  have b12 := b1.upd0 u2
  have e0 : wv (upL (fun c => (st.getD c z4).xor (W.getD c z4)) (fun c => st.getD c z4) 0) = wv st := by rw [upL_zero, fourL_self hl]
  rw [← e0] at b12
  obtain ⟨w3, a3, b3, u3⟩ := thr_l0 (K := K) hW hn hn8 (t2 := some ((⟨t, 0, none⟩ : Addr).add o)) (last := some ((⟨t, 0, none⟩ : Addr).add lo)) (stp := (step : Int)) (gs := w.heap.size) (a10 := ⟨w1.heap.size, 0, none⟩) hs (by omega) 4 0 K w2 rfl (by omega) ((bw.upd0 u1).upd0 u2) b12
  have a3 : rijndael_through_l0 K K ⟨some ⟨gw, 0, none⟩, n, n⟩ (some ((⟨t, 0, none⟩ : Addr).add o)) (some ((⟨t, 0, none⟩ : Addr).add lo)) (step : Int) ⟨w.heap.size, 0, none⟩ ⟨w1.heap.size, 0, none⟩ 0 w2 = _ := a3
  have q3 : Upd none_ w w3 := (u1.and0 u2).trans' u3 fun k hk e => by omega
  have hz3 := u3.size
  obtain ⟨w4, a4, b4, u4⟩ := thr_l1 (K := K) hW hn hn4 hn8 hn1 hstep hf hT hK (last := some ((⟨t, 0, none⟩ : Addr).add lo)) (gs := w.heap.size) (a10 := ⟨w1.heap.size, 0, none⟩) (by omega) (by omega) ((n - 8) / 4) 4 K w3 _ (by omega) rfl (Nat.le_refl _) (by omega) (addK_ok hs fun c _ => getD_ok hW c) (fourL_len _) (bw.upd0 q3) (bt.upd0 q3) b3
  have a4 : rijndael_through_l1 K K ⟨some ⟨gw, 0, none⟩, n, n⟩ (some ((⟨t, 0, none⟩ : Addr).add o)) (some ((⟨t, 0, none⟩ : Addr).add lo)) (step : Int) ⟨w.heap.size, 0, none⟩ ⟨w1.heap.size, 0, none⟩ ((n - 4 : Nat) : Int) 4 w3 = _ := a4
  have q4 : Upd none_ w w4 := q3.trans' u4 fun k hk e => by omega
  have hz4 := u4.size
  obtain ⟨w5, n5, b5, u5, z5⟩ := newB_ok z135 135 w4
  have b5 : Bk 135 w5 w4.heap.size (wv (fourL fun _ => z4)) := b5
  obtain ⟨s2, hs2⟩ : ∃ s2, s2 = rounds W f Y step ((n - 8) / 4) 4 (addK st fun c => W.getD c z4) := ⟨_, rfl⟩
  have hs2o : ∀ x ∈ s2, x.ok := by rw [hs2]; exact rounds_ok hW hf Y step _ _ (addK_ok hs fun c _ => getD_ok hW c)
  have hs2l : s2.length = 4 := by rw [hs2]; exact rounds_len W f Y step _ _ (fourL_len _)
  rw [← hs2] at b4
  rw [← upL_zero (fun c => (subW4 f step s2 c).xor (W.getD (n - 4 + c) z4))] at b5
  have q5 := q4.and0 u5
  obtain ⟨w6, a6, b6, u6⟩ := thr_l3 (K := K) hW hn hn8 hn1 hstep hf hL (gs := w.heap.size) (gx := w4.heap.size) (a10 := ⟨w1.heap.size, 0, none⟩) hs2o hs2l (by omega) (by omega) (by omega) 4 0 K w5 rfl (by omega) (bw.upd0 q5) (bt.upd0 q5) (b4.upd0 u5) b5
  have a6 : rijndael_through_l3 K K ⟨some ⟨gw, 0, none⟩, n, n⟩ (some ((⟨t, 0, none⟩ : Addr).add lo)) (step : Int) ⟨w.heap.size, 0, none⟩ ⟨w1.heap.size, 0, none⟩ ((n - 4 : Nat) : Int) ⟨w4.heap.size, 0, none⟩ 0 w5 = _ := a6
  have q6 : Upd none_ w w6 := q5.trans' u6 fun k hk e => by omega
  have hF : lastR W f step (n - 4) s2 = throughF W f Y step st := by rw [hs2]; unfold throughF; rw [hn]
  rw [hF] at b6
  have hl6 := b6.ldA (i := 0) (n := 4) (by rw [wv_len, throughF_len]; decide)
  rw [List.drop_zero, List.take_of_length_le (by rw [wv_len, throughF_len]; decide)] at hl6
  have hz5 := u5.size
  have b26 : Bk 135 w6 w1.heap.size (wv (fourL fun _ => z4)) := (((b2.upd u3 (by omega)).upd u4 (by omega)).upd0 u5).upd u6 (by omega)
  obtain ⟨w7, a7, b7, u7⟩ := b26.stA (o := 0) (vs := (wv (throughF W f Y step st)).toArray) (by rw [List.size_toArray, wv_len, throughF_len, wv_len, fourL_len]; decide) (fun v hv => wv_one _ v hv)
  have b7 : Bk 135 w7 w1.heap.size (seg (wv (fourL fun _ => z4)) 0 (wv (throughF W f Y step st))) := b7
  rw [seg_all (by rw [wv_len, throughF_len, wv_len, fourL_len])] at b7
  have hl7 := b7.ldA (i := 0) (n := 4) (by rw [wv_len, throughF_len]; decide)
  rw [List.drop_zero, List.take_of_length_le (by rw [wv_len, throughF_len]; decide)] at hl7
  refine ⟨w7, ?_, q6.trans' u7 fun k hk e => by omega⟩
  have en : IntKind.i64.wrap (((n : Nat) : Int) - 4) = ((n - 4 : Nat) : Int) := by rw [w64 (by omega) (by omega)]; omega
  unfold rijndael_through
  rw [n1, bnd_ok, n2, bnd_ok, a3, bnd_ok, en, a4, bnd_ok, n5, bnd_ok, a6, bnd_ok, hl6, Option.bind_some, if_pos (by rw [List.size_toArray, wv_len, throughF_len]), a7, Option.bind_some, hl7, Option.bind_some]

/-- the cipher, and back -/
def encF (S st : List W4) : List W4 := throughF S sx encY 1 st
def decF (S st : List W4) : List W4 := throughF (backS S) ux decY 3 st

theorem encrypt_ok {K : Nat} (hK : 300 ≤ K) {w : World} {g t gw gb kl : Nat} {S : List W4} (k : KeyAt w g t gw gb kl S) {st : List W4} (hs : ∀ x ∈ st, x.ok) (hl : st.length = 4) :
    ∃ w', rijndael_tables_encrypt K (some ⟨t, 0, none⟩) ⟨some ⟨gw, 0, none⟩, S.length, S.length⟩ (bl st).toArray w = some (((bl (encF S st)).toArray, ()), w') ∧ Upd none_ w w' := by
  have hkl := k.len
  have hk := k.kl
  obtain ⟨w1, n1, b1, u1, z1⟩ := newB_ok (bl st).toArray 42 w
  obtain ⟨w2, n2, b2, u2, z2⟩ := newB_ok z42 42 w1
  have b1 : Bk 42 w1 w.heap.size (bl st) := b1
  have b2 : Bk 42 w2 w1.heap.size (bl (fourL fun _ => z4)) := b2
  have q2 : Upd none_ w w2.drew := (u1.and0 u2).drew
  have hl1 := (b1.upd0 u2).drew.ldA (i := 0) (n := 16) (by rw [bl_len hl]; decide)
  rw [List.drop_zero, List.take_of_length_le (by rw [bl_len hl]; decide)] at hl1
  obtain ⟨w3, a3, u3⟩ := load_ok hK hs hl w2.drew
  have q3 := q2.and0 u3
  obtain ⟨w4, a4, u4⟩ := through_ok (K := K) k.ok rfl (by omega) (by omega) (by omega) (t := t) (gw := gw) (step := 1) (by decide) (f := sx) (fun i hi => sx_lt hi) (Y := encY) (o := 512) (lo := 0) (fun b _ _ => tb_c b) (fun b _ => tb_s b) hK hs hl (k.bw.upd0 q3) (k.bt.upd0 q3)
  have q4 := q3.and0 u4
  have ho : ∀ x ∈ encF S st, x.ok := throughF_ok k.ok (fun i hi => sx_lt hi) encY 1 hs
  have hel : (encF S st).length = 4 := throughF_len _ _ _ _ _
  obtain ⟨w5, a5, u5⟩ := block_ok hK ho hel w4
  have u25 : Upd none_ w2 w5 := ((u3.predrew).and0 u4).and0 u5
  obtain ⟨w6, a6, b6, u6⟩ := (b2.upd0 u25).stA (o := 0) (vs := (bl (encF S st)).toArray) (by rw [List.size_toArray, bl_len hel, bl_len (fourL_len _)]; decide) (fun v hv => bl_one _ v hv)
  have b6 : Bk 42 w6 w1.heap.size (seg (bl (fourL fun _ => z4)) 0 (bl (encF S st))) := b6
  rw [seg_all (by rw [bl_len hel, bl_len (fourL_len _)])] at b6
  have hl6 := b6.ldA (i := 0) (n := 16) (by rw [bl_len hel]; decide)
  rw [List.drop_zero, List.take_of_length_le (by rw [bl_len hel]; decide)] at hl6
  refine ⟨w6, ?_, (q4.and0 u5).trans' u6 fun k hk e => by have := u1.size; omega⟩
  unfold rijndael_tables_encrypt
  rw [n1, bnd_ok, n2, bnd_ok, Option.bind_some, Option.bind_some, hl1, Option.bind_some, a3, bnd_ok]
  have a4 : rijndael_through K (wv st).toArray ⟨some ⟨gw, 0, none⟩, S.length, S.length⟩ (some ((⟨t, 0, none⟩ : Addr).add 512)) (some ((⟨t, 0, none⟩ : Addr).add 0)) 1 w3 = some (((wv (encF S st)).toArray, ()), w4) := a4
  rw [a4, bnd_ok, a5, bnd_ok, if_pos (by rw [List.size_toArray, bl_len hel]), a6, Option.bind_some, hl6, Option.bind_some]

theorem decrypt_ok {K : Nat} (hK : 300 ≤ K) {w : World} {g t gw gb kl : Nat} {S : List W4} (k : KeyAt w g t gw gb kl S) {st : List W4} (hs : ∀ x ∈ st, x.ok) (hl : st.length = 4) :
    ∃ w', rijndael_tables_decrypt K (some ⟨t, 0, none⟩) ⟨some ⟨gb, 0, none⟩, S.length, S.length⟩ (bl st).toArray w = some (((bl (decF S st)).toArray, ()), w') ∧ Upd none_ w w' := by
  have hkl := k.len
  have hk := k.kl
  obtain ⟨w1, n1, b1, u1, z1⟩ := newB_ok (bl st).toArray 42 w
  obtain ⟨w2, n2, b2, u2, z2⟩ := newB_ok z42 42 w1
  have b1 : Bk 42 w1 w.heap.size (bl st) := b1
  have b2 : Bk 42 w2 w1.heap.size (bl (fourL fun _ => z4)) := b2
  have q2 : Upd none_ w w2.drew := (u1.and0 u2).drew
  have hl1 := (b1.upd0 u2).drew.ldA (i := 0) (n := 16) (by rw [bl_len hl]; decide)
  rw [List.drop_zero, List.take_of_length_le (by rw [bl_len hl]; decide)] at hl1
  obtain ⟨w3, a3, u3⟩ := load_ok hK hs hl w2.drew
  have q3 := q2.and0 u3
  have hbo : ∀ x ∈ backS S, x.ok := fun x hx => by
    obtain ⟨j, _, rfl⟩ := List.mem_map.1 hx
    exact backV_ok k.ok j
  obtain ⟨w4, a4, u4⟩ := through_ok (K := K) hbo (backS_len S) (by omega) (by omega) (by omega) (t := t) (gw := gb) (step := 3) (by decide) (f := ux) (fun i hi => ux_lt hi) (Y := decY) (o := 1536) (lo := 256) (fun b _ _ => tb_d b) (fun b _ => tb_u b) hK hs hl (k.bb.upd0 q3) (k.bt.upd0 q3)
  have q4 := q3.and0 u4
  have ho : ∀ x ∈ decF S st, x.ok := throughF_ok hbo (fun i hi => ux_lt hi) decY 3 hs
  have hel : (decF S st).length = 4 := throughF_len _ _ _ _ _
  obtain ⟨w5, a5, u5⟩ := block_ok hK ho hel w4
  have u25 : Upd none_ w2 w5 := ((u3.predrew).and0 u4).and0 u5
  obtain ⟨w6, a6, b6, u6⟩ := (b2.upd0 u25).stA (o := 0) (vs := (bl (decF S st)).toArray) (by rw [List.size_toArray, bl_len hel, bl_len (fourL_len _)]; decide) (fun v hv => bl_one _ v hv)
  have b6 : Bk 42 w6 w1.heap.size (seg (bl (fourL fun _ => z4)) 0 (bl (decF S st))) := b6
  rw [seg_all (by rw [bl_len hel, bl_len (fourL_len _)])] at b6
  have hl6 := b6.ldA (i := 0) (n := 16) (by rw [bl_len hel]; decide)
  rw [List.drop_zero, List.take_of_length_le (by rw [bl_len hel]; decide)] at hl6
  refine ⟨w6, ?_, (q4.and0 u5).trans' u6 fun k hk e => by have := u1.size; omega⟩
  unfold rijndael_tables_decrypt
  rw [n1, bnd_ok, n2, bnd_ok, Option.bind_some, Option.bind_some, hl1, Option.bind_some, a3, bnd_ok]
  have a4 : rijndael_through K (wv st).toArray ⟨some ⟨gb, 0, none⟩, S.length, S.length⟩ (some ((⟨t, 0, none⟩ : Addr).add 1536)) (some ((⟨t, 0, none⟩ : Addr).add 256)) 3 w3 = some (((wv (decF S st)).toArray, ()), w4) := a4
  rw [a4, bnd_ok, a5, bnd_ok, if_pos (by rw [List.size_toArray, bl_len hel]), a6, Option.bind_some, hl6, Option.bind_some]

end Go.Sh

/- Package rijndael: a block of bytes under a key; blocks compared. -/
set_option linter.unusedVariables false
set_option maxRecDepth 100000
namespace Go.Sh
open Go.Fw Go.Gf Go.RowKit Go.Proofs.Tryd

/-- sixteen bytes -/
def B16 (B : List Int) : Prop := B.length = 16 ∧ ∀ z ∈ B, InK .u8 z
/-- a block of bytes as words -/
def wsB (B : List Int) : List W4 := keyS B 4
theorem wsB_ok {B : List Int} (h : B16 B) : ∀ x ∈ wsB B, x.ok := keyS_ok h.2 4
theorem wsB_len (B : List Int) : (wsB B).length = 4 := keyS_len B 4
theorem roundB_ws {B : List Int} (h : B16 B) : roundB (wsB B) = B := key_round h.2 h.1
def encB (S : List W4) (B : List Int) : List Int := roundB (encF S (wsB B))
def decB (S : List W4) (B : List Int) : List Int := roundB (decF S (wsB B))
theorem backS_ok {S : List W4} (h : ∀ x ∈ S, x.ok) : ∀ x ∈ backS S, x.ok := fun x hx => by
  obtain ⟨j, _, rfl⟩ := List.mem_map.1 hx
  exact backV_ok h j
theorem encB_16 {S : List W4} (hS : ∀ x ∈ S, x.ok) {B : List Int} (h : B16 B) : B16 (encB S B) :=
  ⟨by unfold encB encF; rw [roundB_len, throughF_len], roundB_in (throughF_ok hS (fun i hi => sx_lt hi) encY 1 (wsB_ok h))⟩
theorem decB_16 {S : List W4} (hS : ∀ x ∈ S, x.ok) {B : List Int} (h : B16 B) : B16 (decB S B) :=
  ⟨by unfold decB decF; rw [roundB_len, throughF_len], roundB_in (throughF_ok (backS_ok hS) (fun i hi => ux_lt hi) decY 3 (wsB_ok h))⟩

theorem encT_ok {K : Nat} (hK : 300 ≤ K) {w : World} {g t gw gb kl : Nat} {S : List W4} (k : KeyAt w g t gw gb kl S) {B : List Int} (h : B16 B) :
    ∃ w', rijndael_tables_encrypt K (some ⟨t, 0, none⟩) ⟨some ⟨gw, 0, none⟩, S.length, S.length⟩ (ints .u8 B).toArray w = some (((ints .u8 (encB S B)).toArray, ()), w') ∧ Upd none_ w w' := by
  have := encrypt_ok hK k (wsB_ok h) (wsB_len B)
  unfold bl at this
  rw [roundB_ws h] at this
  exact this
theorem decT_ok {K : Nat} (hK : 300 ≤ K) {w : World} {g t gw gb kl : Nat} {S : List W4} (k : KeyAt w g t gw gb kl S) {B : List Int} (h : B16 B) :
    ∃ w', rijndael_tables_decrypt K (some ⟨t, 0, none⟩) ⟨some ⟨gb, 0, none⟩, S.length, S.length⟩ (ints .u8 B).toArray w = some (((ints .u8 (decB S B)).toArray, ()), w') ∧ Upd none_ w w' := by
  have := decrypt_ok hK k (wsB_ok h) (wsB_len B)
  unfold bl at this
  rw [roundB_ws h] at this
  exact this

theorem KeyAt.ldT {w : World} {g t gw gb kl : Nat} {S : List W4} (k : KeyAt w g t gw gb kl S) : ldP ((⟨g, 0, none⟩ : Addr).add 7) w = some (some ⟨t, 0, none⟩) := by
  rw [add_lit]; exact k.b.ldP (i := 0 + 7) rfl

theorem ints16 {B : List Int} (h : B16 B) : (ints .u8 B).length = 16 := by rw [ints_length, h.1]
theorem size16 {B : List Int} (h : B16 B) : ((ints .u8 B).toArray).size = 16 := by rw [List.size_toArray, ints16 h]
theorem ldA16 {e : TypeId} {w : World} {g : Nat} {B : List Int} (b : Bk e w g (ints .u8 B)) (h : B16 B) : ldA 16 ⟨g, 0, none⟩ w = some (ints .u8 B).toArray := by
  have hl := b.ldA (i := 0) (n := 16) (by rw [ints16 h]; decide)
  rw [List.drop_zero, List.take_of_length_le (by rw [ints16 h]; decide)] at hl
  exact hl
theorem stA16 {e : TypeId} {w : World} {g : Nat} {cs : List Value} (b : Bk e w g cs) (hc : cs.length = 16) {B : List Int} (h : B16 B) :
    ∃ w', stA ⟨g, 0, none⟩ (ints .u8 B).toArray w = some w' ∧ Bk e w' g (ints .u8 B) ∧ Upd (· = g) w w' := by
  obtain ⟨w7, a7, b7, u7⟩ := b.stA (o := 0) (vs := (ints .u8 B).toArray) (by rw [size16 h, hc]; decide) (fun v hv => ints_one v hv)
  have b7 : Bk e w7 g (seg cs 0 (ints .u8 B)) := b7
  rw [seg_all (by rw [ints16 h, hc])] at b7
  exact ⟨w7, a7, b7, u7⟩
def zero16 : List Int := List.replicate 16 0
theorem zero16_ok : B16 zero16 := ⟨rfl, fun z hz => by rw [List.eq_of_mem_replicate hz]; exact ⟨by decide, by decide⟩⟩
theorem z42_zero : z42.toList = ints .u8 zero16 := rfl
theorem z42_len : z42.toList.length = 16 := rfl
theorem built42n : prog.built 42 [] = some (ints .u8 zero16).toArray := by kernel_rfl

theorem Encrypt_err {K : Nat} {k0 : Option Addr} {s : Sl} {e : Int} (he : e ≠ 0) {w : World} (hs : ∀ w', Upd none_ w w' → rijndael_Key_schedule k0 false w' = some ((s, e, ()), w')) {B : List Int} :
    ∃ w', rijndael_Key_Encrypt K k0 (ints .u8 B).toArray w = some (((ints .u8 zero16).toArray, e, ()), w') ∧ Upd none_ w w' := by
  obtain ⟨w1, n1, b1, u1, z1⟩ := newB_ok (ints .u8 B).toArray 42 w
  obtain ⟨w2, n2, b2, u2, z2⟩ := newB_ok z42 42 w1
  have q2 := u1.and0 u2
  obtain ⟨w3, a3, b3, u3⟩ := stA16 b2 z42_len zero16_ok
  refine ⟨w3, ?_, q2.trans' u3 fun k hk e => by have := u1.size; omega⟩
  unfold rijndael_Key_Encrypt
  rw [n1, bnd_ok, n2, bnd_ok, hs w2 q2, bnd_ok, if_pos (bne_iff_ne.2 he), built42n, Option.bind_some, if_pos (size16 zero16_ok), a3, Option.bind_some, ldA16 b3 zero16_ok, Option.bind_some]
theorem Decrypt_err {K : Nat} {k0 : Option Addr} {s : Sl} {e : Int} (he : e ≠ 0) {w : World} (hs : ∀ w', Upd none_ w w' → rijndael_Key_schedule k0 true w' = some ((s, e, ()), w')) {B : List Int} :
    ∃ w', rijndael_Key_Decrypt K k0 (ints .u8 B).toArray w = some (((ints .u8 zero16).toArray, e, ()), w') ∧ Upd none_ w w' := by
  obtain ⟨w1, n1, b1, u1, z1⟩ := newB_ok (ints .u8 B).toArray 42 w
  obtain ⟨w2, n2, b2, u2, z2⟩ := newB_ok z42 42 w1
  have q2 := u1.and0 u2
  obtain ⟨w3, a3, b3, u3⟩ := stA16 b2 z42_len zero16_ok
  refine ⟨w3, ?_, q2.trans' u3 fun k hk e => by have := u1.size; omega⟩
  unfold rijndael_Key_Decrypt
  rw [n1, bnd_ok, n2, bnd_ok, hs w2 q2, bnd_ok, if_pos (bne_iff_ne.2 he), built42n, Option.bind_some, if_pos (size16 zero16_ok), a3, Option.bind_some, ldA16 b3 zero16_ok, Option.bind_some]

theorem Encrypt_ok {K : Nat} (hK : 300 ≤ K) {w : World} {g t gw gb kl : Nat} {S : List W4} (k : KeyAt w g t gw gb kl S) {B : List Int} (h : B16 B) :
    ∃ w', rijndael_Key_Encrypt K (some ⟨g, 0, none⟩) (ints .u8 B).toArray w = some (((ints .u8 (encB S B)).toArray, 0, ()), w') ∧ Upd none_ w w' := by
  obtain ⟨w1, n1, b1, u1, z1⟩ := newB_ok (ints .u8 B).toArray 42 w
  obtain ⟨w2, n2, b2, u2, z2⟩ := newB_ok z42 42 w1
  have b1 : Bk 42 w1 w.heap.size (ints .u8 B) := b1
  have q2 := u1.and0 u2
  have k2 := k.upd0 q2
  have l1 := ldA16 (b1.upd0 u2).drew h
  have lt := (k.upd0 q2.drew).ldT
  obtain ⟨w3, a3, u3⟩ := encT_ok hK (k.upd0 q2.drew) h
  have ho := encB_16 k.ok h
  obtain ⟨w4, a4, b4, u4⟩ := stA16 (b2.upd0 u3.predrew) z42_len ho
  refine ⟨w4, ?_, (q2.drew.and0 u3).trans' u4 fun k hk e => by have := u1.size; omega⟩
  unfold rijndael_Key_Encrypt
  rw [n1, bnd_ok, n2, bnd_ok, sched_ok k2, bnd_ok, if_neg (show ¬ ((0 : Int) != 0) = true by decide), Option.bind_some, lt, Option.bind_some, l1, Option.bind_some]
  rw [if_neg (show ¬ false = true by decide), a3, bnd_ok, if_pos (size16 ho), a4, Option.bind_some, ldA16 b4 ho, Option.bind_some]

theorem Decrypt_ok {K : Nat} (hK : 300 ≤ K) {w : World} {g t gw gb kl : Nat} {S : List W4} (k : KeyAt w g t gw gb kl S) {B : List Int} (h : B16 B) :
    ∃ w', rijndael_Key_Decrypt K (some ⟨g, 0, none⟩) (ints .u8 B).toArray w = some (((ints .u8 (decB S B)).toArray, 0, ()), w') ∧ Upd none_ w w' := by
  obtain ⟨w1, n1, b1, u1, z1⟩ := newB_ok (ints .u8 B).toArray 42 w
  obtain ⟨w2, n2, b2, u2, z2⟩ := newB_ok z42 42 w1
  have b1 : Bk 42 w1 w.heap.size (ints .u8 B) := b1
  have q2 := u1.and0 u2
  have k2 := k.upd0 q2
  have l1 := ldA16 (b1.upd0 u2).drew h
  have lt := (k.upd0 q2.drew).ldT
  obtain ⟨w3, a3, u3⟩ := decT_ok hK (k.upd0 q2.drew) h
  have ho := decB_16 k.ok h
  obtain ⟨w4, a4, b4, u4⟩ := stA16 (b2.upd0 u3.predrew) z42_len ho
  refine ⟨w4, ?_, (q2.drew.and0 u3).trans' u4 fun k hk e => by have := u1.size; omega⟩
  unfold rijndael_Key_Decrypt
  rw [n1, bnd_ok, n2, bnd_ok, sched_ok k2, bnd_ok, if_neg (show ¬ ((0 : Int) != 0) = true by decide), Option.bind_some, lt, Option.bind_some, l1, Option.bind_some]
  rw [if_pos (show true = true from rfl), a3, bnd_ok, if_pos (size16 ho), a4, Option.bind_some, ldA16 b4 ho, Option.bind_some]

/-! ### blocks compared -/
theorem und42 : prog.underlying 42 = some (.array 16 5) := by kernel_rfl
theorem und5 : prog.underlying 5 = some (.int .u8) := by kernel_rfl
theorem cells5 : prog.cellsOf 5 = 1 := by kernel_rfl
theorem plain5 : prog.plainKey 5 = true := by kernel_rfl
theorem allI_ints (A : List Int) : (ints .u8 A).toArray.toList.all (isI .u8) = true := by
  rw [List.all_eq_true]; intro v hv
  obtain ⟨x, _, rfl⟩ := List.mem_map.1 hv
  rfl
theorem numI_ints (A : List Int) : (ints .u8 A).toArray.toList.map numI = A := by
  show (A.map (Value.int .u8)).map numI = A
  rw [List.map_map]; exact List.map_id A
theorem eq42 {A B : List Int} (hA : A.length = 16) (hB : B.length = 16) : eqA prog 42 (ints .u8 A).toArray (ints .u8 B).toArray = some (decide (A = B)) := by
  unfold eqA
  rw [und42]
  dsimp only
  rw [und5]
  dsimp only
  rw [if_pos ⟨by rw [List.size_toArray, ints_length, hA], by rw [List.size_toArray, ints_length, hB], allI_ints A, allI_ints B⟩, numI_ints, numI_ints]

end Go.Sh

/- A block and a list of numbers that came in. -/
set_option linter.unusedVariables false
namespace Go.Sh
open Go.Fw Go.RowKit Go.Proofs.Tryd Go.Deep Go.ChangeShapes Go.WideShapes

theorem und3' : prog.underlying 3 = some (.int .i64) := by kernel_rfl
theorem und57 : prog.underlying 57 = some (.slice 3) := by kernel_rfl
theorem cells3 : prog.cellsOf 3 = 1 := by kernel_rfl
theorem cells42 : prog.cellsOf 42 = 16 := by kernel_rfl
theorem cells5' : prog.cellsOf 5 = 1 := by kernel_rfl

theorem open_i64s_t {H : Type} {enc : TypeId × Value → H} {W : World} {x : DataW H × List MemPlace} {fuel : Nat} {cs : List Value} (hf : DataW.trod enc prog W 0 (fun _ => true) true fuel 57 cs = some x) :
    ∃ s xs, cs = [slV s] ∧ RdS .i64 W s xs := by
  rcases open_ints (k := .i64) und57 und3' cells3 hf with ⟨hcs, hy⟩ | ⟨a', len', cap', zs, hcs, hb', hl', hm', hz, hy, hcell, hwz⟩
  · exact ⟨nilS, [], hcs, ⟨rfl, Nat.le_refl _, .inl rfl⟩⟩
  · have hz : zs.length = cap' := by simpa using hz
    refine ⟨⟨some a', len', cap'⟩, zs.take len', hcs, ⟨by simp; omega, hl', .inr ⟨a', rfl, fun j v hv => ?_⟩⟩⟩
    have hj : j < len' ∧ j < zs.length := by
      have := (List.getElem?_eq_some_iff.1 hv).1
      simp at this; omega
    rw [hcell j hj.2]
    simp only [ints, List.getElem?_map, List.getElem?_take, if_pos hj.1] at hv
    rw [List.getElem?_eq_getElem hj.2] at hv
    rw [List.getD_eq_getElem?_getD, List.getElem?_eq_getElem hj.2]
    exact hv

theorem open_i64s {H : Type} {enc : TypeId × Value → H} {W : World} {d : DataW H} {p : List MemPlace} {a : Option Addr} {len cap : Nat} (h : DataW.Trod enc prog W 0 (fun _ => true) true 57 (.slice a len cap) d p) :
    ∃ xs, RdS .i64 W ⟨a, len, cap⟩ xs := by
  obtain ⟨fuel, hf⟩ := h
  obtain ⟨s, xs, hcs, hb⟩ := open_i64s_t hf
  simp [Value.cells, slV] at hcs
  obtain ⟨rfl, rfl, rfl⟩ := hcs
  exact ⟨xs, hb⟩

def numV (v : Value) : Int := match v with | .int _ n => n | _ => 0

theorem open_block_t {H : Type} {enc : TypeId × Value → H} {W : World} {x : DataW H × List MemPlace} {fuel : Nat} {cs : List Value} (hf : DataW.trod enc prog W 0 (fun _ => true) true fuel 42 cs = some x) :
    ∃ B, cs = ints .u8 B ∧ B16 B := by
  obtain ⟨xs, m, _, _, hcl, hxl, hall⟩ := DataW.trod_array und42 hf
  rw [cells42] at hcl
  have each : ∀ i, i < 16 → ∃ n, cs[i]? = some (.int .u8 n) ∧ InK .u8 n := fun i hi => by
    have h1 := hall i hi
    rw [cells5', Nat.mul_one] at h1
    rw [List.getElem?_eq_getElem (by omega)] at h1
    obtain ⟨n, e, _, hw⟩ := DataW.trod_int und5 h1
    refine ⟨n, ?_, wf_u8 hw⟩
    have := congrArg (fun l => l[0]?) e
    simp only [List.getElem?_take, List.getElem?_drop, Nat.add_zero] at this
    exact this
  refine ⟨cs.map numV, ?_, by rw [List.length_map, hcl], fun z hz => ?_⟩
  · apply List.ext_getElem?
    intro i
    unfold ints
    rw [List.map_map, List.getElem?_map]
    by_cases hi : i < 16
    · obtain ⟨n, e, _⟩ := each i hi
      rw [e]; rfl
    · rw [List.getElem?_eq_none (by omega)]; rfl
  · obtain ⟨v, hv, rfl⟩ := List.mem_map.1 hz
    obtain ⟨i, hi, rfl⟩ := List.getElem_of_mem hv
    obtain ⟨n, e, hn⟩ := each i (by omega)
    rw [List.getElem?_eq_getElem hi] at e
    rw [Option.some.inj e]; exact hn

set_option maxRecDepth 100000 in
theorem open_block {H : Type} {enc : TypeId × Value → H} {W : World} {d : DataW H} {p : List MemPlace} {v : Value} {base : Nat} (hv : Value.okWide prog W .any base 42 v) (h : DataW.Trod enc prog W 0 (fun _ => true) true 42 v d p) :
    ∃ B, v = .agg (ints .u8 B).toArray ∧ B16 B := by
  have hv2 : ∃ cs, v = .agg cs ∧ cs.size = prog.cellsOf 42 ∧ Row.okWide prog W .any base 42 cs := by
    simpa only [Value.okWide, und42] using hv
  obtain ⟨cs, rfl, _, _⟩ := hv2
  obtain ⟨fuel, hf⟩ := h
  obtain ⟨B, e, hB⟩ := open_block_t hf
  refine ⟨B, ?_, hB⟩
  congr 1
  apply Array.ext'
  exact e

end Go.Sh

/- The document's cipher and the program's: columns by products, and that products go with sums. -/
set_option linter.unusedVariables false
set_option maxRecDepth 100000
namespace Go.Sh
open Go.Fw Go.Gf Go.RowKit Go.Proofs.Tryd

theorem xt_xor {a b : Nat} (ha : a < 256) (hb : b < 256) : xt (a ^^^ b) = xt a ^^^ xt b := by
  have hh : ∀ x, x < 256 → x &&& 128 = 0 ∨ x &&& 128 = 128 := by decide +kernel
  have em : (a ^^^ b) * 2 % 256 = (a * 2 % 256) ^^^ (b * 2 % 256) := by
    have e1 : ∀ x : Nat, x * 2 % 256 = (x <<< 1) % 2 ^ 8 := fun x => by rw [Nat.shiftLeft_eq]
    rw [e1, e1, e1, Nat.shiftLeft_xor_distrib, Nat.xor_mod_two_pow]
  have ea : (a ^^^ b) &&& 128 = (a &&& 128) ^^^ (b &&& 128) := Nat.and_xor_distrib_right ..
  unfold xt
  rw [ea, em]
  obtain ⟨x, hx⟩ : ∃ x, x = a * 2 % 256 := ⟨_, rfl⟩
  obtain ⟨y, hy⟩ : ∃ y, y = b * 2 % 256 := ⟨_, rfl⟩
  rw [← hx, ← hy]
  rcases hh a ha with h1 | h1 <;> rcases hh b hb with h2 | h2 <;> rw [h1, h2]
  · rfl
  · rw [if_neg (by decide), if_pos rfl, if_neg (by decide)]; ac_rfl
  · rw [if_neg (by decide), if_neg (by decide), if_pos rfl]; ac_rfl
  · rw [if_pos (by decide), if_neg (by decide), if_neg (by decide)]
    have : (x ^^^ 27) ^^^ (y ^^^ 27) = (x ^^^ y) ^^^ (27 ^^^ 27) := by ac_rfl
    rw [this, Nat.xor_self, Nat.xor_zero]

theorem mulG_xor : ∀ (n a a' m p p' : Nat), a < 256 → a' < 256 → mulG n (a ^^^ a') m (p ^^^ p') = mulG n a m p ^^^ mulG n a' m p'
  | 0, _, _, _, _, _, _, _ => rfl
  | n + 1, a, a', m, p, p', ha, ha' => by
    unfold mulG
    rw [xt_xor ha ha']
    by_cases c : m % 2 = 1
    · rw [if_pos c, if_pos c, if_pos c]
      have : (p ^^^ p') ^^^ (a ^^^ a') = (p ^^^ a) ^^^ (p' ^^^ a') := by ac_rfl
      rw [this]
      exact mulG_xor n _ _ _ _ _ xt_lt xt_lt
    · rw [if_neg c, if_neg c, if_neg c]
      exact mulG_xor n _ _ _ _ _ xt_lt xt_lt
theorem mul_xor {a b : Nat} (ha : a < 256) (hb : b < 256) (m : Nat) : mul (a ^^^ b) m = mul a m ^^^ mul b m := mulG_xor 8 a b m 0 0 ha hb

theorem byV_mul {v : Nat} (hv : v < 256) {m : Nat} (hm : bySet m) : byV m v = mul v m := by
  have h : ∀ v, v < 256 → byV 1 v = mul v 1 ∧ byV 2 v = mul v 2 ∧ byV 3 v = mul v 3 ∧ byV 9 v = mul v 9 ∧ byV 11 v = mul v 11 ∧ byV 13 v = mul v 13 ∧ byV 14 v = mul v 14 := by decide +kernel
  obtain ⟨h1, h2, h3, h4, h5, h6, h7⟩ := h v hv
  unfold bySet at hm
  rcases hm with rfl | rfl | rfl | rfl | rfl | rfl | rfl
  · exact h1
  · exact h2
  · exact h3
  · exact h4
  · exact h5
  · exact h6
  · exact h7

theorem mulW_xor {a b : Nat} (ha : a < 256) (hb : b < 256) (Y : W4) : mulW (a ^^^ b) Y = (mulW a Y).xor (mulW b Y) := by
  unfold mulW W4.xor
  rw [mul_xor ha hb, mul_xor ha hb, mul_xor ha hb, mul_xor ha hb]
theorem rr_xor (r : Nat) (x y : W4) : W4.rr r (x.xor y) = (W4.rr r x).xor (W4.rr r y) := by
  induction r with
  | zero => rfl
  | succ r ih => show (W4.rr r (x.xor y)).rr1 = _; rw [ih]; rfl
theorem W4.xor_four (a b c d e f g h : W4) : (((a.xor b).xor (c.xor d)).xor (e.xor f)).xor (g.xor h) = (((a.xor c).xor e).xor g).xor (((b.xor d).xor f).xor h) := by
  unfold W4.xor
  dsimp only
  congr 1 <;> ac_rfl
theorem mcW_xor {x y : W4} (hx : x.ok) (hy : y.ok) (Y : W4) : mcW Y (x.xor y) = (mcW Y x).xor (mcW Y y) := by
  have ea : (x.xor y).a = x.a ^^^ y.a := rfl
  have eb : (x.xor y).b = x.b ^^^ y.b := rfl
  have ec : (x.xor y).c = x.c ^^^ y.c := rfl
  have ed : (x.xor y).d = x.d ^^^ y.d := rfl
  unfold mcW
  rw [ea, eb, ec, ed, mulW_xor hx.1 hy.1, mulW_xor hx.2.1 hy.2.1, mulW_xor hx.2.2.1 hy.2.2.1, mulW_xor hx.2.2.2 hy.2.2.2, rr_xor, rr_xor, rr_xor, rr_xor, W4.xor_four]

/-- the row of the matrix that goes with a column of products -/
def rowOf (Y : W4) : List Nat := [Y.a, Y.d, Y.c, Y.b]
theorem mcW_byte (Y x : W4) {r : Nat} (hr : r < 4) :
    byteW (mcW Y x) r = ((mul (byteW x 0) ((rowOf Y).getD ((0 + 4 - r) % 4) 0) ^^^ mul (byteW x 1) ((rowOf Y).getD ((1 + 4 - r) % 4) 0)) ^^^ mul (byteW x 2) ((rowOf Y).getD ((2 + 4 - r) % 4) 0)) ^^^ mul (byteW x 3) ((rowOf Y).getD ((3 + 4 - r) % 4) 0) := by
  have : r = 0 ∨ r = 1 ∨ r = 2 ∨ r = 3 := by omega
  rcases this with rfl | rfl | rfl | rfl <;> rfl

/-- a byte of a state -/
def byteB (st : List W4) (p : Nat) : Nat := byteW (st.getD (p / 4) z4) (p % 4)
theorem rB_get {st : List W4} {p : Nat} (h : p < 4 * st.length) : (roundB st)[p]? = some ((byteB st p : Nat) : Int) := by
  have := roundB_get st (p / 4) (p % 4) (by omega) (Nat.mod_lt _ (by decide))
  rw [Nat.div_add_mod] at this
  exact this
theorem byteB_lt {st : List W4} (h : ∀ x ∈ st, x.ok) (p : Nat) : byteB st p < 256 := byteW_lt (getD_ok h _) _

/-! ### the ways of both -/
theorem fourL_ext {f g : Nat → W4} (h : ∀ c, c < 4 → f c = g c) : fourL f = fourL g := List.map_congr_left fun c hc => h c (List.mem_range.1 hc)
/-- the document's round, there and back -/
def subL (f : Nat → Nat) (step : Nat) (st : List W4) : List W4 := fourL (subW4 f step st)
def colsL (Y : W4) (st : List W4) : List W4 := fourL fun c => mcW Y (st.getD c z4)
def addR (S : List W4) (r : Nat) (st : List W4) : List W4 := addK st fun c => S.getD (4 * r + c) z4
theorem subL_len (f : Nat → Nat) (step : Nat) (st : List W4) : (subL f step st).length = 4 := fourL_len _
theorem colsL_len (Y : W4) (st : List W4) : (colsL Y st).length = 4 := fourL_len _
theorem addR_len (S : List W4) (r : Nat) (st : List W4) : (addR S r st).length = 4 := fourL_len _
theorem subL_ok {f : Nat → Nat} (hf : ∀ i, i < 256 → f i < 256) (step : Nat) {st : List W4} (h : ∀ x ∈ st, x.ok) : ∀ x ∈ subL f step st, x.ok := fourL_ok fun c _ => subW4_ok hf h c
theorem colsL_ok (Y : W4) {st : List W4} (h : ∀ x ∈ st, x.ok) : ∀ x ∈ colsL Y st, x.ok := fourL_ok fun c _ => mcW_ok (getD_ok h c) Y
theorem addR_ok {S : List W4} (hS : ∀ x ∈ S, x.ok) (r : Nat) {st : List W4} (h : ∀ x ∈ st, x.ok) : ∀ x ∈ addR S r st, x.ok := addK_ok h fun c _ => getD_ok hS _

theorem rnd_ref (S : List W4) (f : Nat → Nat) (Y : W4) (step r : Nat) (st : List W4) : rnd S f Y step (4 * r) st = addR S r (colsL Y (subL f step st)) := by
  unfold rnd addR addK colsL subL
  refine fourL_ext fun c hc => ?_
  rw [fourL_get _ hc, fourL_get _ hc]
theorem lastR_ref (S : List W4) (f : Nat → Nat) (step r : Nat) (st : List W4) : lastR S f step (4 * r) st = addR S r (subL f step st) := by
  unfold lastR addR addK subL
  refine fourL_ext fun c hc => ?_
  rw [fourL_get _ hc]

/-- the document's rounds from r on -/
def encR (S : List W4) : Nat → Nat → List W4 → List W4
  | 0, r, st => addR S r (subL sx 1 st)
  | d + 1, r, st => encR S d (r + 1) (addR S r (colsL encY (subL sx 1 st)))
theorem encR_eq (S : List W4) : ∀ (d r : Nat) (st : List W4), encR S d r st = lastR S sx 1 (4 * (r + d)) (rounds S sx encY 1 d (4 * r) st)
  | 0, r, st => by unfold encR rounds; rw [lastR_ref]; rfl
  | d + 1, r, st => by
    have := encR_eq S d (r + 1) (addR S r (colsL encY (subL sx 1 st)))
    unfold encR rounds
    rw [this, ← rnd_ref, show r + 1 + d = r + (d + 1) by omega, show 4 * (r + 1) = 4 * r + 4 by omega]
theorem encR_ok (S : List W4) {n : Nat} (hn : S.length = 4 * (n + 1)) (h1 : 1 ≤ n) (st : List W4) : encR S (n - 1) 1 (addR S 0 st) = encF S st := by
  rw [encR_eq]
  unfold encF throughF addR
  rw [hn, show 4 * (1 + (n - 1)) = 4 * (n + 1) - 4 by omega, show (4 * (n + 1) - 8) / 4 = n - 1 by omega, Nat.mul_one]
  simp only [Nat.mul_zero, Nat.zero_add]

/-- the document's way back: from round r down -/
def decR (S : List W4) : Nat → List W4 → List W4
  | 0, st => addR S 0 st
  | r + 1, st => decR S r (subL ux 3 (colsL decY (addR S (r + 1) st)))

theorem back_mid {S : List W4} {n : Nat} (hn : S.length = 4 * (n + 1)) {i c : Nat} (hi : 1 ≤ i) (hin : i < n) (hc : c < 4) : (backS S).getD (4 * i + c) z4 = mcW decY (S.getD (4 * (n - i) + c) z4) := by
  unfold backS
  rw [List.getD_eq_getElem?_getD, List.getElem?_map, List.getElem?_range (by omega)]
  show backV S (4 * i + c) = _
  unfold backV
  rw [hn, show (4 * i + c) / 4 = i by omega, show (4 * i + c) % 4 = c by omega, if_pos ⟨by omega, by omega⟩, imc_mc, show 4 * (n + 1) - 4 - i * 4 + c = 4 * (n - i) + c by omega]
theorem back_end {S : List W4} {n : Nat} (hn : S.length = 4 * (n + 1)) {i c : Nat} (hi : i = 0 ∨ i = n) (hc : c < 4) : (backS S).getD (4 * i + c) z4 = S.getD (4 * (n - i) + c) z4 := by
  unfold backS
  rw [List.getD_eq_getElem?_getD, List.getElem?_map, List.getElem?_range (by omega)]
  show backV S (4 * i + c) = _
  unfold backV
  rw [hn, show (4 * i + c) / 4 = i by omega, show (4 * i + c) % 4 = c by omega, if_neg (by omega), show 4 * (n + 1) - 4 - i * 4 + c = 4 * (n - i) + c by omega]

theorem dec_mid {S : List W4} (hS : ∀ x ∈ S, x.ok) {n : Nat} (hn : S.length = 4 * (n + 1)) {i : Nat} (hi : 1 ≤ i) (hin : i < n) {st : List W4} (h : ∀ x ∈ st, x.ok) :
    rnd (backS S) ux decY 3 (4 * i) st = colsL decY (addR S (n - i) (subL ux 3 st)) := by
  unfold rnd colsL addR addK subL
  refine fourL_ext fun c hc => ?_
  rw [fourL_get _ hc, fourL_get _ hc, back_mid hn hi hin hc, mcW_xor (subW4_ok (fun i hi => ux_lt hi) h c) (getD_ok hS _)]

theorem decR_eq {S : List W4} (hS : ∀ x ∈ S, x.ok) {n : Nat} (hn : S.length = 4 * (n + 1)) : ∀ (r : Nat) (st : List W4), r < n → (∀ x ∈ st, x.ok) → decR S r (subL ux 3 st) = lastR (backS S) ux 3 (4 * n) (rounds (backS S) ux decY 3 r (4 * (n - r)) st)
  | 0, st, h, _ => by
    unfold decR rounds lastR addR addK subL
    refine fourL_ext fun c hc => ?_
    rw [fourL_get _ hc, back_end hn (.inr rfl) hc, Nat.sub_self]
  | r + 1, st, h, hs => by
    have hm := dec_mid hS hn (i := n - (r + 1)) (by omega) (by omega) hs
    have hn1 : n - (n - (r + 1)) = r + 1 := by omega
    rw [hn1] at hm
    have ih := decR_eq hS hn r (rnd (backS S) ux decY 3 (4 * (n - (r + 1))) st) (by omega) (rnd_ok (backS_ok hS) (fun i hi => ux_lt hi) decY 3 _ hs)
    unfold decR
    rw [← hm, ih]
    show _ = lastR (backS S) ux 3 (4 * n) (rounds (backS S) ux decY 3 r (4 * (n - (r + 1)) + 4) (rnd (backS S) ux decY 3 (4 * (n - (r + 1))) st))
    rw [show 4 * (n - (r + 1)) + 4 = 4 * (n - r) by omega]

theorem decR_ok {S : List W4} (hS : ∀ x ∈ S, x.ok) {n : Nat} (hn : S.length = 4 * (n + 1)) (h1 : 1 ≤ n) {st : List W4} (h : ∀ x ∈ st, x.ok) : decR S (n - 1) (subL ux 3 (addR S n st)) = decF S st := by
  rw [decR_eq hS hn (n - 1) _ (by omega) (addR_ok hS n h)]
  unfold decF throughF
  rw [backS_len, hn, show 4 * (n + 1) - 4 = 4 * n by omega, show (4 * (n + 1) - 8) / 4 = n - 1 by omega, show 4 * (n - (n - 1)) = 4 by omega]
  have : addR S n st = addK st fun c => (backS S).getD c z4 := by
    unfold addR addK
    refine fourL_ext fun c hc => ?_
    have := back_end hn (i := 0) (.inl rfl) hc
    rw [Nat.mul_zero, Nat.zero_add, Nat.sub_zero] at this
    dsimp only
    rw [this]
  rw [this]

end Go.Sh

/- Package rijndael: a stream begins, a block as a number and n more, how much may be used. -/
set_option linter.unusedVariables false
set_option maxRecDepth 100000
namespace Go.Sh
open Go.Fw Go.Gf Go.RowKit Go.Proofs.Tryd

theorem Bk.apart {e e' : TypeId} (h : e ≠ e') {w : World} {g g' : Nat} {cs cs' : List Value} (b : Bk e w g cs) (b' : Bk e' w g' cs') : g ≠ g' := fun he => by
  subst he
  unfold Bk at b b'
  rw [b] at b'
  simp only [Option.some.injEq, Obj.cells.injEq] at b'
  exact h b'.2.1

/-! ### a stream's block -/
def streamC (g : Option Addr) (B : List Int) (a : Nat) : List Value := .pointer g :: (ints .u8 B ++ [.int .u64 ((a : Nat) : Int)])
theorem streamC_len {g : Option Addr} {B : List Int} (h : B16 B) (a : Nat) : (streamC g B a).length = 18 := by
  unfold streamC; rw [List.length_cons, List.length_append, ints16 h]; rfl
theorem streamC_at {g : Option Addr} {B : List Int} (h : B16 B) (a : Nat) : (streamC g B a)[17]? = some (.int .u64 ((a : Nat) : Int)) := by
  unfold streamC
  rw [List.getElem?_cons_succ, List.getElem?_append_right (by rw [ints16 h]; decide), ints16 h]; rfl
theorem streamC_set {g : Option Addr} {B : List Int} (h : B16 B) (a b : Nat) : (streamC g B a).set 17 (.int .u64 ((b : Nat) : Int)) = streamC g B b := by
  unfold streamC
  rw [List.set_cons_succ, List.set_append_right _ _ (by rw [ints16 h]; decide), ints16 h]; rfl
theorem streamC_start {g : Option Addr} {B : List Int} (h : B16 B) (a : Nat) : ((streamC g B a).drop 1).take 16 = ints .u8 B := by
  unfold streamC
  rw [List.drop_succ_cons, List.drop_zero, List.take_append_of_le_length (by rw [ints16 h]; decide), List.take_of_length_le (by rw [ints16 h]; decide)]
theorem st_key {w : World} {s : Nat} {g : Option Addr} {B : List Int} {a : Nat} (b : Bk 107 w s (streamC g B a)) : ldP ((⟨s, 0, none⟩ : Addr).add 0) w = some g := by rw [add_lit]; exact b.ldP (i := 0 + 0) rfl
theorem st_at {w : World} {s : Nat} {g : Option Addr} {B : List Int} {a : Nat} (b : Bk 107 w s (streamC g B a)) (h : B16 B) : ldI .u64 ((⟨s, 0, none⟩ : Addr).add 17) w = some ((a : Nat) : Int) := by rw [add_lit]; exact b.ldI (i := 0 + 17) (streamC_at h a)
theorem st_start {w : World} {s : Nat} {g : Option Addr} {B : List Int} {a : Nat} (b : Bk 107 w s (streamC g B a)) (h : B16 B) : ldA 16 ((⟨s, 0, none⟩ : Addr).add 1) w = some (ints .u8 B).toArray := by
  rw [add_lit]
  have := b.ldA (i := 0 + 1) (n := 16) (by rw [streamC_len h]; decide)
  rw [Nat.zero_add, streamC_start h] at this
  exact this
theorem st_set {w : World} {s : Nat} {g : Option Addr} {B : List Int} {a : Nat} (b : Bk 107 w s (streamC g B a)) (h : B16 B) (a' : Nat) :
    ∃ w', stC ((⟨s, 0, none⟩ : Addr).add 17) (.int .u64 ((a' : Nat) : Int)) w = some w' ∧ Bk 107 w' s (streamC g B a') ∧ Upd (· = s) w w' := by
  obtain ⟨w1, c1, c2, c3⟩ := b.stC (i := 17) (by rw [streamC_len h]; decide) (.int .u64 ((a' : Nat) : Int))
  rw [streamC_set h] at c2
  exact ⟨w1, by rw [add_lit, Nat.zero_add]; exact c1, c2, c3⟩

theorem built107 (k0 : Option Addr) (a b c d e f g h i j k l m n o p : Value) :
    prog.built 107 [(0, (.pointer k0)), (1, (.agg #[a, b, c, d, e, f, g, h, i, j, k, l, m, n, o, p]))] = some #[.pointer k0, a, b, c, d, e, f, g, h, i, j, k, l, m, n, o, p, .int .u64 0] := by kernel_rfl
theorem built107B (k0 : Option Addr) {B : List Int} (h : B16 B) : prog.built 107 [(0, (.pointer k0)), (1, (.agg (ints .u8 B).toArray))] = some (streamC k0 B 0).toArray := by
  obtain ⟨hl, _⟩ := h
  match B, hl with
  | [a, b, c, d, e, f, g, h, i, j, k, l, m, n, o, p], _ => exact built107 k0 _ _ _ _ _ _ _ _ _ _ _ _ _ _ _ _

theorem Stream_new {k0 : Option Addr} {w : World} {ws : Sl} (hs : ∀ w', Upd none_ w w' → rijndael_Key_schedule k0 false w' = some ((ws, 0, ()), w')) {B : List Int} (h : B16 B) :
    ∃ s w', rijndael_Key_Stream k0 (ints .u8 B).toArray w = some ((some ⟨s, 0, none⟩, 0, ()), w') ∧ Bk 107 w' s (streamC k0 B 0) ∧ w.heap.size ≤ s ∧ Upd none_ w w' := by
  obtain ⟨w1, n1, b1, u1, z1⟩ := newB_ok (ints .u8 B).toArray 42 w
  have b1 : Bk 42 w1 w.heap.size (ints .u8 B) := b1
  obtain ⟨w2, n2, b2, u2, z2⟩ := newB_ok (streamC k0 B 0).toArray 107 w1
  refine ⟨w1.heap.size, w2, ?_, b2, by omega, u1.and0 u2⟩
  unfold rijndael_Key_Stream
  rw [n1, bnd_ok, hs w1 u1, bnd_ok, if_neg (show ¬ ((0 : Int) != 0) = true by decide), ldA16 b1 h, Option.bind_some, built107B k0 h, Option.bind_some, n2, bnd_ok]
theorem Stream_err {k0 : Option Addr} {w : World} {ws : Sl} {e : Int} (he : e ≠ 0) (hs : ∀ w', Upd none_ w w' → rijndael_Key_schedule k0 false w' = some ((ws, e, ()), w')) {B : List Int} :
    ∃ w', rijndael_Key_Stream k0 (ints .u8 B).toArray w = some ((none, e, ()), w') ∧ Upd none_ w w' := by
  obtain ⟨w1, n1, b1, u1, z1⟩ := newB_ok (ints .u8 B).toArray 42 w
  refine ⟨w1, ?_, u1⟩
  unfold rijndael_Key_Stream
  rw [n1, bnd_ok, hs w1 u1, bnd_ok, if_pos (bne_iff_ne.2 he)]

/-! ### how much may be used -/
theorem further_nil (n : Int) (w : World) : rijndael_Stream_further none n w = some ((⟨none, 0, 0⟩, 1, ()), w) := rfl
theorem further_err {k0 : Option Addr} {w : World} {ws : Sl} {e : Int} (he : e ≠ 0) (hs : rijndael_Key_schedule k0 false w = some ((ws, e, ()), w)) {s : Nat} {B : List Int} {a : Nat} (b : Bk 107 w s (streamC k0 B a)) (n : Int) :
    rijndael_Stream_further (some ⟨s, 0, none⟩) n w = some ((ws, e, ()), w) := by
  have e0 : rijndael_Stream_further_s0 (some ⟨s, 0, none⟩) n e w = some ((false, ()), w) := by
    unfold rijndael_Stream_further_s0
    rw [if_neg (fun h => he (eq_of_beq h))]
  unfold rijndael_Stream_further
  rw [if_neg (show ¬ (some (⟨s, 0, none⟩ : Addr)).isNone = true from Bool.noConfusion), Option.bind_some, st_key b, Option.bind_some, hs, bnd_ok, e0, bnd_ok]
  rfl
theorem further_ok {k0 : Option Addr} {w : World} {ws : Sl} (hs : rijndael_Key_schedule k0 false w = some ((ws, 0, ()), w)) {s : Nat} {B : List Int} (h : B16 B) {a : Nat} (b : Bk 107 w s (streamC k0 B a)) (ha : a ≤ 1099511627776) {n : Nat} :
    rijndael_Stream_further (some ⟨s, 0, none⟩) (n : Int) w = some ((if n ≤ 1099511627776 - a then ws else ⟨none, 0, 0⟩, if n ≤ 1099511627776 - a then 0 else 4, ()), w) := by
  have ew : IntKind.u64.wrap (1099511627776 - ((a : Nat) : Int)) = ((1099511627776 - a : Nat) : Int) := by rw [IntKind.wrap_u64]; omega
  have e0 : rijndael_Stream_further_s0 (some ⟨s, 0, none⟩) (n : Int) 0 w = some ((decide ((n : Int) > ((1099511627776 - a : Nat) : Int)), ()), w) := by
    unfold rijndael_Stream_further_s0
    rw [if_pos (show ((0 : Int) == 0) = true from rfl), Option.bind_some, st_at b h, Option.bind_some, ew]
  unfold rijndael_Stream_further
  rw [if_neg (show ¬ (some (⟨s, 0, none⟩ : Addr)).isNone = true from Bool.noConfusion), Option.bind_some, st_key b, Option.bind_some, hs, bnd_ok, e0, bnd_ok]
  by_cases c : n ≤ 1099511627776 - a
  · rw [if_neg (fun e => by have := of_decide_eq_true e; omega), if_pos c, if_pos c]
  · rw [if_pos (decide_eq_true (by omega)), if_neg c, if_neg c]

/-! ### a block as a number, and n more -/
def loB (B : List Int) (n : Nat) : Nat := (numN (B.drop 8) + n) % 18446744073709551616
def hiB (B : List Int) (n : Nat) : Nat := if loB B n < numN (B.drop 8) then (numN (B.take 8) + 1) % 18446744073709551616 else numN (B.take 8)
def plusB (B : List Int) (n : Nat) : List Int := layB 8 (hiB B n) ++ layB 8 (loB B n)
theorem layB_in (size n : Nat) : ∀ z ∈ layB size n, InK .u8 z := fun z hz => by
  obtain ⟨i, _, rfl⟩ := List.mem_map.1 hz
  exact InK.of_nat (k := .u8) (Nat.mod_lt _ (by decide))
theorem plusB_16 (B : List Int) (n : Nat) : B16 (plusB B n) := ⟨by unfold plusB; rw [List.length_append, layB_len, layB_len], fun z hz => by
  rcases List.mem_append.1 hz with h | h
  · exact layB_in _ _ z h
  · exact layB_in _ _ z h⟩

theorem numN8 {zs : List Int} (h : ∀ z ∈ zs, InK .u8 z) (hl : zs.length = 8) : numN zs < 18446744073709551616 := by
  have := numN_lt h; rw [hl] at this; exact this

theorem seg8 {B : List Int} (h : B.length = 16) {Y : List Int} (hy : Y.length = 8) : seg (ints .u8 B) 8 (ints .u8 Y) = ints .u8 (B.take 8 ++ Y) := by
  unfold seg
  rw [ints_length, hy, List.drop_eq_nil_of_le (by rw [ints_length, h]; decide), List.append_nil, ints_take, ints_append]
theorem seg0 {X Z Y : List Int} (hx : X.length = 8) (hy : Y.length = 8) : seg (ints .u8 (X ++ Z)) 0 (ints .u8 Y) = ints .u8 (Y ++ Z) := by
  unfold seg
  rw [ints_length, hy, List.take_zero, List.nil_append, Nat.zero_add, ints_append, List.drop_append_of_le_length (by rw [ints_length, hx]; decide), List.drop_eq_nil_of_le (by rw [ints_length, hx]; decide), List.nil_append, ints_append]

theorem sl8 {w : World} {e : TypeId} {g : Nat} {B : List Int} (b : Bk e w g (ints .u8 B)) (h : B16 B) : RdS .u8 w ⟨some ⟨g, 0, none⟩, 16, 16⟩ B :=
  ⟨h.1.symm, Nat.le_refl _, .inr ⟨_, rfl, b.rd 0 _ fun i v hv => by rw [Nat.zero_add]; exact hv⟩⟩
theorem at8 (g : Nat) : sla (some (⟨g, 0, none⟩ : Addr)) 8 16 1 = some ⟨g, 8, none⟩ := rfl
theorem at0 (g : Nat) : sla (some (⟨g, 0, none⟩ : Addr)) 0 16 1 = some ⟨g, 0, none⟩ := rfl

/-- the last eight bytes of a block as a number, and the first -/
theorem number_lo {K : Nat} (hK : 300 ≤ K) {w : World} {e : TypeId} {g : Nat} {B : List Int} (b : Bk e w g (ints .u8 B)) (h : B16 B) : rijndael_number K ⟨sla (some ⟨g, 0, none⟩) 8 16 1, 16 - 8, 16 - 8⟩ 8 w = some (((numN (B.drop 8) : Nat) : Int), ()) := by
  have r := (sl8 b h).sub (lo := 8) (hi := 16) (by decide) (by rw [h.1]; decide)
  rw [List.take_of_length_le (by rw [h.1]; decide)] at r
  have := number_ok hK r (fun z hz => h.2 z (List.mem_of_mem_drop hz)) (n := 8) (by rw [List.length_drop, h.1]; decide) (by decide)
  rw [List.take_of_length_le (by rw [List.length_drop, h.1]; decide)] at this
  exact this
theorem number_hi {K : Nat} (hK : 300 ≤ K) {w : World} {e : TypeId} {g : Nat} {B : List Int} (b : Bk e w g (ints .u8 B)) (h : B16 B) {len cap : Nat} (hl : 8 ≤ len) (hl2 : len ≤ 16) (hc : cap = 16) : rijndael_number K ⟨sla (some ⟨g, 0, none⟩) 0 16 1, len, cap⟩ 8 w = some (((numN (B.take 8) : Nat) : Int), ()) := by
  subst hc
  have r := (sl8 b h).sub (lo := 0) (hi := len) (by omega) (by rw [h.1]; exact hl2)
  rw [List.drop_zero] at r
  have := number_ok hK r (fun z hz => h.2 z (List.mem_of_mem_take hz)) (n := 8) (by rw [List.length_take, h.1]; omega) (by decide)
  rw [List.take_take, Nat.min_eq_left hl] at this
  exact this

theorem plus_ok {K : Nat} (hK : 300 ≤ K) {B : List Int} (h : B16 B) {n : Nat} (hn : n < 18446744073709551616) (w : World) :
    ∃ w', rijndael_plus K (ints .u8 B).toArray (n : Int) w = some (((ints .u8 (plusB B n)).toArray, ()), w') ∧ Upd none_ w w' := by
  obtain ⟨w1, n1, b1, u1, z1⟩ := newB_ok (ints .u8 B).toArray 42 w
  obtain ⟨w2, n2, b2, u2, z2⟩ := newB_ok z42 42 w1
  have b1 : Bk 42 w1 w.heap.size (ints .u8 B) := b1
  have b12 := b1.upd0 u2
  have lo := number_lo hK b12 h
  have hi := number_hi hK b12 h (len := 8 - 0) (cap := 16 - 0) (by decide) (by decide) rfl
  have hlo : numN (B.drop 8) < 18446744073709551616 := numN8 (fun z hz => h.2 z (List.mem_of_mem_drop hz)) (by rw [List.length_drop, h.1])
  have hhi : numN (B.take 8) < 18446744073709551616 := numN8 (fun z hz => h.2 z (List.mem_of_mem_take hz)) (by rw [List.length_take, h.1]; rfl)
  have hl2 : loB B n < 18446744073709551616 := Nat.mod_lt _ (by decide)
  have hh2 : hiB B n < 18446744073709551616 := by
    unfold hiB; split
    · exact Nat.mod_lt _ (by decide)
    · exact hhi
  have ew : IntKind.u64.wrap (((numN (B.drop 8) : Nat) : Int) + (n : Int)) = ((loB B n : Nat) : Int) := by rw [IntKind.wrap_u64]; unfold loB; omega
  have es : rijndael_plus_s0 K ((numN (B.take 8) : Nat) : Int) (decide (((loB B n : Nat) : Int) < ((numN (B.drop 8) : Nat) : Int))) w2 = some ((((hiB B n : Nat) : Int), ()), w2) := by
    unfold rijndael_plus_s0 hiB
    by_cases c : loB B n < numN (B.drop 8)
    · rw [if_pos (decide_eq_true (by omega)), if_pos c, IntKind.wrap_u64]
      have : (((numN (B.take 8) : Nat) : Int) + 1) % 18446744073709551616 = (((numN (B.take 8) + 1) % 18446744073709551616 : Nat) : Int) := by omega
      rw [← this]
    · rw [if_neg (fun e => by have := of_decide_eq_true e; omega), if_neg c]
  obtain ⟨w3, a3, b3, u3⟩ := lay_ok hK (e := 42) (g := w.heap.size) (o := 8) (size := 8) (n := loB B n) (len := 16 - 8) (cap := 16 - 8) (by decide) (by decide) (by rw [ints16 h]; decide) hl2 b12
  rw [seg8 h.1 (layB_len _ _)] at b3
  obtain ⟨w4, a4, b4, u4⟩ := lay_ok hK (e := 42) (g := w.heap.size) (o := 0) (size := 8) (n := hiB B n) (len := 8 - 0) (cap := 16 - 0) (by decide) (by decide) (by rw [ints_length, List.length_append, layB_len, List.length_take, h.1]; decide) hh2 b3
  rw [seg0 (by rw [List.length_take, h.1]; rfl) (layB_len _ _)] at b4
  have b4 : Bk 42 w4 w.heap.size (ints .u8 (plusB B n)) := b4
  have a3 : rijndael_lay K ⟨some ⟨w.heap.size, 8, none⟩, 16 - 8, 16 - 8⟩ 8 ((loB B n : Nat) : Int) w2 = some ((), w3) := a3
  have a4 : rijndael_lay K ⟨some ⟨w.heap.size, 0, none⟩, 8 - 0, 16 - 0⟩ 8 ((hiB B n : Nat) : Int) w3 = some ((), w4) := a4
  have hp := plusB_16 B n
  obtain ⟨w5, a5, b5, u5⟩ := stA16 ((b2.upd u3 (by omega)).upd u4 (by omega)) z42_len hp
  refine ⟨w5, ?_, (((u1.and0 u2).trans' u3 fun k hk e => by omega).trans' u4 fun k hk e => by omega).trans' u5 fun k hk e => by omega⟩
  unfold rijndael_plus
  rw [n1, bnd_ok, n2, bnd_ok, lo, Option.bind_some, hi, Option.bind_some, ew, es, bnd_ok, at8, a3, bnd_ok, at0, a4, bnd_ok, ldA16 b4 hp, Option.bind_some, if_pos (size16 hp), a5, Option.bind_some, ldA16 b5 hp, Option.bind_some]

end Go.Sh

/- The document's cipher: a round key added, columns, Encrypt, Decrypt. -/
set_option linter.unusedVariables false
set_option maxRecDepth 100000
namespace Go.Sh
open Go.Fw Go.Gf Go.RowKit Go.Proofs.Tryd

/-- the parts of the document's key that a block goes by -/
structure RefP (w : World) (g : Nat) (sb sr : Sl) (by_ : List Value) (wp : Bool) (S : List W4) : Prop where
  b : Bk 96 w g (refC sb sr by_ wp)
  o : Own 5 w sr (ints .u8 (roundB S))
  y : ByAt by_ 256
theorem RefP.upd {w w' : World} {g : Nat} {sb sr : Sl} {by_ : List Value} {wp : Bool} {S : List W4} {X : Nat → Prop} (r : RefP w g sb sr by_ wp S) (u : Upd X w w') (h1 : ¬ X g) (h2 : ∀ k, sr.blk = some k → ¬ X k) : RefP w' g sb sr by_ wp S := ⟨r.b.upd u h1, r.o.upd u h2, r.y⟩
theorem RefP.upd0 {w w' : World} {g : Nat} {sb sr : Sl} {by_ : List Value} {wp : Bool} {S : List W4} (r : RefP w g sb sr by_ wp S) (u : Upd none_ w w') : RefP w' g sb sr by_ wp S := r.upd u id fun _ _ => id
/-- a change of what is newer than all of the key -/
theorem RefP.new {w w' : World} {g : Nat} {sb sr : Sl} {by_ : List Value} {wp : Bool} {S : List W4} {gb : Nat} (r : RefP w g sb sr by_ wp S) (u : Upd (· = gb) w w') (h : g ≠ gb ∧ ∀ k, sr.blk = some k → k ≠ gb) : RefP w' g sb sr by_ wp S := r.upd u h.1 fun k hk => h.2 k hk
theorem RefP.old {w : World} {g : Nat} {sb sr : Sl} {by_ : List Value} {wp : Bool} {S : List W4} (r : RefP w g sb sr by_ wp S) : g < w.heap.size ∧ ∀ k, sr.blk = some k → k < w.heap.size := ⟨r.b.lt, fun k hk => r.o.lt hk⟩

theorem xorb8 {a b : Nat} (ha : a < 256) (hb : b < 256) : bits .xor .u8 (a : Int) (b : Int) = ((a ^^^ b : Nat) : Int) := (bits_nats (k := .u8) rfl ha hb).2.2

theorem take_drop_set {T L : List Int} (hT : T.length = 16) (hL : L.length = 16) {i : Nat} (hi : i < 16) {v : Int} (hv : T[i]? = some v) : (ints .u8 (T.take i ++ L.drop i)).set i (.int .u8 v) = ints .u8 (T.take (i + 1) ++ L.drop (i + 1)) := by
  have ht : (T.take i).length = i := by rw [List.length_take]; omega
  rw [ints_set_, List.set_append_right _ _ (by omega), ht, Nat.sub_self, List.drop_eq_getElem_cons (by omega), List.set_cons_zero, List.take_add_one, hv, List.append_assoc]
  rfl

theorem z41_zero : z41.toList = ints .u8 zero16 := rfl
theorem z41_len : z41.toList.length = 16 := rfl
theorem bl_16 {st : List W4} (hs : ∀ x ∈ st, x.ok) (hl : st.length = 4) : B16 (roundB st) := ⟨by rw [roundB_len, hl], roundB_in hs⟩

theorem addR_byte {S st : List W4} {r p : Nat} (hp : p < 16) : byteB (addR S r st) p = byteB st p ^^^ byteB S (16 * r + p) := by
  unfold byteB addR addK
  rw [fourL_get _ (by omega), byteW_xor, show (16 * r + p) / 4 = 4 * r + p / 4 by omega, show (16 * r + p) % 4 = p % 4 by omega]

theorem added_loop {K : Nat} {g : Nat} {sb sr : Sl} {by_ : List Value} {wp : Bool} {S : List W4} (hS : ∀ x ∈ S, x.ok) {r : Nat} (hr : 4 * r + 4 ≤ S.length) (hr2 : r ≤ 100) {st : List W4} (hs : ∀ x ∈ st, x.ok) (hl : st.length = 4) {gb : Nat} {a6 : Addr} (hgb : g ≠ gb ∧ ∀ k, sr.blk = some k → k ≠ gb) :
    ∀ (d i f : Nat) (w : World), d + i = 16 → d < f → RefP w g sb sr by_ wp S → Bk 41 w gb (ints .u8 ((roundB (addR S r st)).take i ++ (roundB st).drop i)) →
      ∃ w', ref02_Key_added_l0 K f (some ⟨g, 0, none⟩) (r : Int) ⟨gb, 0, none⟩ a6 (i : Int) w = some ((), w') ∧ Bk 41 w' gb (ints .u8 (roundB (addR S r st))) ∧ Upd (· = gb) w w' := by
  have hT : (roundB (addR S r st)).length = 16 := by rw [roundB_len, addR_len]
  have hL : (roundB st).length = 16 := by rw [roundB_len, hl]
  intro d
  induction d with
  | zero =>
    intro i f w hd hf p b
    obtain ⟨f, rfl⟩ : ∃ m, f = m + 1 := ⟨f - 1, by omega⟩
    obtain rfl : i = 16 := by omega
    rw [List.take_of_length_le (by omega), List.drop_eq_nil_of_le (by omega), List.append_nil] at b
    refine ⟨w, ?_, b, Upd.refl _ w⟩
    have eu : ref02_Key_added_l0 K (f + 1) = ref02_Key_added_l0_b K (ref02_Key_added_l0 K f) := rfl
    rw [eu]
    unfold ref02_Key_added_l0_b
    rw [if_neg (by decide)]
  | succ d ih =>
    intro i f w hd hf p b
    obtain ⟨f, rfl⟩ : ∃ m, f = m + 1 := ⟨f - 1, by omega⟩
    have hi : i < 16 := by omega
    have pd := p.upd0 (Upd.refl none_ w).drew
    have hx := byteB_lt hs i
    have hy := byteB_lt hS (16 * r + i)
    have hv : (roundB (addR S r st))[i]? = some ((byteB st i ^^^ byteB S (16 * r + i) : Nat) : Int) := by rw [rB_get (by rw [addR_len]; omega), addR_byte hi]
    have l1 : ldI .u8 ((⟨gb, 0, none⟩ : Addr).add (i * 1)) w.drew = some ((byteB st i : Nat) : Int) := by
      rw [add_lit, Nat.mul_one, Nat.zero_add]
      refine b.drew.ldI ?_
      have hg : ((roundB (addR S r st)).take i ++ (roundB st).drop i)[i]? = some ((byteB st i : Nat) : Int) := by
        rw [List.getElem?_append_right (by rw [List.length_take]; omega), List.length_take, Nat.min_eq_left (by omega), Nat.sub_self, List.getElem?_drop, Nat.add_zero, rB_get (by rw [hl]; omega)]
      unfold ints; rw [List.getElem?_map, hg]; rfl
    obtain ⟨q, hq, hlen, hlt, lk⟩ := own_ld pd.o (rB_get (st := S) (p := 16 * r + i) (by omega))
    obtain ⟨w1, c1, c2, c3⟩ := b.drew.stC (i := i) (by rw [ints_length, List.length_append, List.length_take, List.length_drop]; omega) (.int .u8 ((byteB st i ^^^ byteB S (16 * r + i) : Nat) : Int))
    rw [take_drop_set hT hL hi hv] at c2
    have c3 : Upd (· = gb) w w1 := c3.predrew
    obtain ⟨w2, g1, g2, g3⟩ := ih (i + 1) f w1 (by omega) (by omega) (p.new c3 hgb) c2
    refine ⟨w2, ?_, g2, c3.trans' g3 fun _ _ e => e⟩
    have e1 : IntKind.i64.wrap ((i : Int) + 1) = ((i + 1 : Nat) : Int) := by rw [w64 (by omega) (by omega)]; rfl
    have e2 : IntKind.i64.wrap (IntKind.i64.wrap (16 * (r : Int)) + (i : Int)) = ((16 * r + i : Nat) : Int) := by
      have : IntKind.i64.wrap (16 * (r : Int)) = ((16 * r : Nat) : Int) := by rw [w64 (by omega) (by omega)]; omega
      rw [this, w64 (by omega) (by omega)]; omega
    have c1' : stC ((⟨gb, 0, none⟩ : Addr).add (i * 1)) (.int .u8 ((byteB st i ^^^ byteB S (16 * r + i) : Nat) : Int)) w.drew = some w1 := by rw [add_lit, Nat.mul_one, Nat.zero_add]; exact c1
    have eu : ref02_Key_added_l0 K (f + 1) = ref02_Key_added_l0_b K (ref02_Key_added_l0 K f) := rfl
    rw [eu]
    unfold ref02_Key_added_l0_b
    rw [if_pos (decide_eq_true (by omega)), if_pos (nat_in hi), Option.bind_some, Int.toNat_natCast, l1, Option.bind_some, rf_1 pd.b, Option.bind_some, hq, Option.bind_some, e2, if_pos (nat_in (show 16 * r + i < sr.len by omega)), Int.toNat_natCast, lk, Option.bind_some, if_pos (nat_in hi), xorb8 hx hy, c1', Option.bind_some, e1, g1]

theorem added_ok {K : Nat} (hK : 300 ≤ K) {w : World} {g : Nat} {sb sr : Sl} {by_ : List Value} {wp : Bool} {S : List W4} (p : RefP w g sb sr by_ wp S) (hS : ∀ x ∈ S, x.ok) {r : Nat} (hr : 4 * r + 4 ≤ S.length) (hr2 : r ≤ 100) {st : List W4} (hs : ∀ x ∈ st, x.ok) (hl : st.length = 4) :
    ∃ w', ref02_Key_added K (some ⟨g, 0, none⟩) (ints .u8 (roundB st)).toArray (r : Int) w = some (((ints .u8 (roundB (addR S r st))).toArray, ()), w') ∧ Upd none_ w w' := by
  obtain ⟨w1, n1, b1, u1, z1⟩ := newB_ok (ints .u8 (roundB st)).toArray 41 w
  obtain ⟨w2, n2, b2, u2, z2⟩ := newB_ok z41 41 w1
  have b1 : Bk 41 w1 w.heap.size (ints .u8 ((roundB (addR S r st)).take 0 ++ (roundB st).drop 0)) := by rw [List.take_zero, List.drop_zero, List.nil_append]; exact b1
  have hold := p.old
  have hT := bl_16 (addR_ok hS r hs) (addR_len S r st)
  obtain ⟨w3, a3, b3, u3⟩ := added_loop (K := K) (by_ := by_) (wp := wp) (sb := sb) hS hr hr2 hs hl (gb := w.heap.size) (a6 := ⟨w1.heap.size, 0, none⟩) ⟨by omega, fun k hk => by have := hold.2 k hk; omega⟩ 16 0 K w2 rfl (by omega) (p.upd0 (u1.and0 u2)) (b1.upd0 u2)
  have a3 : ref02_Key_added_l0 K K (some ⟨g, 0, none⟩) (r : Int) ⟨w.heap.size, 0, none⟩ ⟨w1.heap.size, 0, none⟩ 0 w2 = _ := a3
  obtain ⟨w4, a4, b4, u4⟩ := stA16 (b2.upd u3 (by omega)) z41_len hT
  refine ⟨w4, ?_, ((u1.and0 u2).trans' u3 fun k hk e => by omega).trans' u4 fun k hk e => by omega⟩
  unfold ref02_Key_added
  rw [n1, bnd_ok, n2, bnd_ok, a3, bnd_ok, ldA16 b3 hT, Option.bind_some, if_pos (size16 hT), a4, Option.bind_some, ldA16 b4 hT, Option.bind_some]

/-! ### columns -/
def rowSet (Y : W4) : Prop := bySet Y.a ∧ bySet Y.b ∧ bySet Y.c ∧ bySet Y.d
def rowV (Y : W4) : List Int := [(Y.a : Int), (Y.d : Int), (Y.c : Int), (Y.b : Int)]
theorem rowV_get (Y : W4) {k : Nat} (hk : k < 4) : (rowV Y)[k]? = some (((rowOf Y).getD k 0 : Nat) : Int) := by
  have : k = 0 ∨ k = 1 ∨ k = 2 ∨ k = 3 := by omega
  rcases this with rfl | rfl | rfl | rfl <;> rfl
theorem rowOf_set {Y : W4} (h : rowSet Y) {k : Nat} (hk : k < 4) : bySet ((rowOf Y).getD k 0) := by
  obtain ⟨h1, h2, h3, h4⟩ := h
  have : k = 0 ∨ k = 1 ∨ k = 2 ∨ k = 3 := by omega
  rcases this with rfl | rfl | rfl | rfl
  · exact h1
  · exact h4
  · exact h3
  · exact h2

/-- the first j summands of a byte of a column -/
def colP (Y x : W4) (r : Nat) : Nat → Nat
  | 0 => 0
  | j + 1 => colP Y x r j ^^^ mul (byteW x j) ((rowOf Y).getD ((j + 4 - r) % 4) 0)
theorem colP_four (Y x : W4) {r : Nat} (hr : r < 4) : colP Y x r 4 = byteW (mcW Y x) r := by
  rw [mcW_byte Y x hr]
  show ((((0 ^^^ _) ^^^ _) ^^^ _) ^^^ _) = _
  rw [Nat.zero_xor]
theorem colP_lt {Y x : W4} (hx : x.ok) (r : Nat) : ∀ j, colP Y x r j < 256
  | 0 => by show 0 < 256; decide
  | j + 1 => xor8_lt (colP_lt hx r j) (mul_lt (byteW_lt hx j))

theorem cols_l2 {K : Nat} {w0 : World} {g : Nat} {sb sr : Sl} {by_ : List Value} {wp : Bool} {S : List W4} {Y : W4} (hY : rowSet Y) {st : List W4} (hs : ∀ x ∈ st, x.ok) (hl : st.length = 4) {gb gr : Nat} {a6 a7 : Addr} {c r : Nat} (hc : c < 4) (hr : r < 4) :
    ∀ (d j f : Nat) (w : World), d + j = 4 → d < f → RefP w g sb sr by_ wp S → Bk 41 w gb (ints .u8 (roundB st)) → Bk 105 w gr (ints .u8 (rowV Y)) →
      ∃ w', ref02_Key_columns_l2 K f (some ⟨g, 0, none⟩) ⟨gb, 0, none⟩ ⟨gr, 0, none⟩ a6 a7 (c : Int) (r : Int) ((colP Y (st.getD c z4) r j : Nat) : Int) (j : Int) w = some ((((byteW (mcW Y (st.getD c z4)) r : Nat) : Int), ()), w') ∧ Upd none_ w w' := by
  intro d
  induction d with
  | zero =>
    intro j f w hd hf p b br
    obtain ⟨f, rfl⟩ : ∃ m, f = m + 1 := ⟨f - 1, by omega⟩
    obtain rfl : j = 4 := by omega
    refine ⟨w, ?_, Upd.refl _ w⟩
    have eu : ref02_Key_columns_l2 K (f + 1) = ref02_Key_columns_l2_b K (ref02_Key_columns_l2 K f) := rfl
    rw [eu]
    unfold ref02_Key_columns_l2_b
    rw [if_neg (by decide), colP_four Y _ hr]
  | succ d ih =>
    intro j f w hd hf p b br
    obtain ⟨f, rfl⟩ : ∃ m, f = m + 1 := ⟨f - 1, by omega⟩
    have hj : j < 4 := by omega
    have hx := getD_ok hs c
    have hbj := byteW_lt hx j
    have hk4 : (j + 4 - r) % 4 < 4 := Nat.mod_lt _ (by decide)
    have hset := rowOf_set hY hk4
    obtain ⟨m, hm⟩ : ∃ m, m = (rowOf Y).getD ((j + 4 - r) % 4) 0 := ⟨_, rfl⟩
    have hm16 : m < 16 := by rw [← hm] at hset; unfold bySet at hset; omega
    have e1 : IntKind.i64.wrap ((j : Int) + 1) = ((j + 1 : Nat) : Int) := by rw [w64 (by omega) (by omega)]; rfl
    have e2 : IntKind.i64.wrap (IntKind.i64.wrap (4 * (c : Int)) + (j : Int)) = ((4 * c + j : Nat) : Int) := by
      have : IntKind.i64.wrap (4 * (c : Int)) = ((4 * c : Nat) : Int) := by rw [w64 (by omega) (by omega)]; omega
      rw [this, w64 (by omega) (by omega)]; omega
    have e3 : Int.tmod (IntKind.i64.wrap (IntKind.i64.wrap ((j : Int) + 4) - (r : Int))) 4 = (((j + 4 - r) % 4 : Nat) : Int) := by
      have h1 : IntKind.i64.wrap ((j : Int) + 4) = ((j + 4 : Nat) : Int) := by rw [w64 (by omega) (by omega)]; omega
      have h2 : IntKind.i64.wrap (((j + 4 : Nat) : Int) - (r : Int)) = ((j + 4 - r : Nat) : Int) := by rw [w64 (by omega) (by omega)]; omega
      rw [h1, h2]; exact tmod_nat (j + 4 - r) 4
    have lr : ldI .u8 ((⟨gr, 0, none⟩ : Addr).add ((j + 4 - r) % 4 * 1)) w.drew = some ((m : Nat) : Int) := by
      rw [add_lit, Nat.mul_one, Nat.zero_add]
      refine br.drew.ldI ?_
      unfold ints; rw [List.getElem?_map, rowV_get Y hk4, hm]; rfl
    have lb : ldI .u8 ((⟨gb, 0, none⟩ : Addr).add ((4 * c + j) * 1)) w.drew = some ((byteW (st.getD c z4) j : Nat) : Int) := by
      rw [add_lit, Nat.mul_one, Nat.zero_add]
      refine b.drew.ldI ?_
      unfold ints; rw [List.getElem?_map, roundB_get st c j (by omega) hj]; rfl
    have pd := p.upd0 (Upd.refl none_ w).drew
    have ly := rf_by pd.b pd.y (r := m) (i := byteW (st.getD c z4) j) (by rw [hm]; exact hset) hbj
    have hbm : byV m (byteW (st.getD c z4) j) = mul (byteW (st.getD c z4) j) m := byV_mul hbj (by rw [hm]; exact hset)
    rw [hbm] at ly
    have hml := mul_lt (b := m) hbj
    have hcl := colP_lt (Y := Y) hx r j
    obtain ⟨w2, g1, g2⟩ := ih (j + 1) f w.drew (by omega) (by omega) pd b.drew br.drew
    refine ⟨w2, ?_, g2.predrew⟩
    have en : colP Y (st.getD c z4) r (j + 1) = colP Y (st.getD c z4) r j ^^^ mul (byteW (st.getD c z4) j) m := by rw [hm]; rfl
    rw [en] at g1
    have eu : ref02_Key_columns_l2 K (f + 1) = ref02_Key_columns_l2_b K (ref02_Key_columns_l2 K f) := rfl
    rw [eu]
    unfold ref02_Key_columns_l2_b
    rw [if_pos (decide_eq_true (by omega)), e3, if_pos (nat_in hk4), e2, if_pos (nat_in (show 4 * c + j < 16 by omega)), Option.bind_some, Int.toNat_natCast, lr, Option.bind_some, if_pos (nat_in hm16), Int.toNat_natCast, lb, Option.bind_some, if_pos (nat_in hbj), Int.toNat_natCast, Int.toNat_natCast, ly, Option.bind_some, xorb8 hcl hml, e1, g1]

/-- bytes laid one behind the other: the first m of F, noughts behind -/
def fillB (F : Nat → Nat) (m : Nat) : List Int := (List.range m).map (fun p => ((F p : Nat) : Int)) ++ List.replicate (16 - m) 0
theorem fillB_len (F : Nat → Nat) {m : Nat} (h : m ≤ 16) : (ints .u8 (fillB F m)).length = 16 := by unfold fillB; rw [ints_length, List.length_append, List.length_map, List.length_range, List.length_replicate]; omega
theorem fillB_set (F : Nat → Nat) {m : Nat} (h : m < 16) : (ints .u8 (fillB F m)).set m (.int .u8 ((F m : Nat) : Int)) = ints .u8 (fillB F (m + 1)) := by
  unfold fillB
  rw [ints_set_]
  have e : List.replicate (16 - m) (0 : Int) = 0 :: List.replicate (16 - (m + 1)) 0 := by rw [show 16 - m = (16 - (m + 1)) + 1 by omega]; rfl
  have hl : ((List.range m).map fun p => ((F p : Nat) : Int)).length = m := by simp
  rw [e, List.set_append_right _ _ (by omega), hl, Nat.sub_self, List.set_cons_zero, List.range_succ, List.map_append, List.append_assoc]
  rfl
theorem fillB_all {st : List W4} (hl : st.length = 4) : fillB (byteB st) 16 = roundB st := by
  unfold fillB
  rw [Nat.sub_self, List.replicate_zero, List.append_nil]
  apply List.ext_getElem?
  intro p
  rw [List.getElem?_map]
  by_cases hp : p < 16
  · rw [List.getElem?_range hp, rB_get (by omega)]; rfl
  · rw [List.getElem?_eq_none (by simp; omega), List.getElem?_eq_none (by rw [roundB_len, hl]; omega)]; rfl
theorem fillB_zero (F : Nat → Nat) : fillB F 0 = zero16 := rfl

theorem byte_at {f : Nat → W4} {c r : Nat} (hc : c < 4) (hr : r < 4) : byteB (fourL f) (4 * c + r) = byteW (f c) r := by
  unfold byteB; rw [show (4 * c + r) / 4 = c by omega, show (4 * c + r) % 4 = r by omega, fourL_get _ hc]

theorem cols_l1 {K : Nat} (hK : 300 ≤ K) {g : Nat} {sb sr : Sl} {by_ : List Value} {wp : Bool} {S : List W4} {Y : W4} (hY : rowSet Y) {st : List W4} (hs : ∀ x ∈ st, x.ok) (hl : st.length = 4) {gb gr go : Nat} {a6 : Addr} {c : Nat} (hc : c < 4) (hgo : g ≠ go ∧ ∀ k, sr.blk = some k → k ≠ go) (h1 : gb ≠ go) (h2 : gr ≠ go) :
    ∀ (d r f : Nat) (w : World), d + r = 4 → d < f → RefP w g sb sr by_ wp S → Bk 41 w gb (ints .u8 (roundB st)) → Bk 105 w gr (ints .u8 (rowV Y)) → Bk 41 w go (ints .u8 (fillB (byteB (colsL Y st)) (4 * c + r))) →
      ∃ w', ref02_Key_columns_l1 K f (some ⟨g, 0, none⟩) ⟨gb, 0, none⟩ ⟨gr, 0, none⟩ a6 ⟨go, 0, none⟩ (c : Int) (r : Int) w = some ((), w') ∧ Bk 41 w' go (ints .u8 (fillB (byteB (colsL Y st)) (4 * (c + 1)))) ∧ Upd (· = go) w w' := by
  intro d
  induction d with
  | zero =>
    intro r f w hd hf p b br bo
    obtain ⟨f, rfl⟩ : ∃ m, f = m + 1 := ⟨f - 1, by omega⟩
    obtain rfl : r = 4 := by omega
    refine ⟨w, ?_, bo, Upd.refl _ w⟩
    have eu : ref02_Key_columns_l1 K (f + 1) = ref02_Key_columns_l1_b K (ref02_Key_columns_l1 K f) := rfl
    rw [eu]
    unfold ref02_Key_columns_l1_b
    rw [if_neg (by decide)]
  | succ d ih =>
    intro r f w hd hf p b br bo
    obtain ⟨f, rfl⟩ : ∃ m, f = m + 1 := ⟨f - 1, by omega⟩
    have hr : r < 4 := by omega
    obtain ⟨w1, a1, u1⟩ := cols_l2 (K := K) (w0 := w) (by_ := by_) (wp := wp) (sb := sb) (sr := sr) (S := S) (g := g) hY hs hl (gb := gb) (gr := gr) (a6 := a6) (a7 := ⟨go, 0, none⟩) hc hr 4 0 K w rfl (by omega) p b br
    have a1 : ref02_Key_columns_l2 K K (some ⟨g, 0, none⟩) ⟨gb, 0, none⟩ ⟨gr, 0, none⟩ a6 ⟨go, 0, none⟩ (c : Int) (r : Int) 0 0 w = _ := a1
    have eF : byteB (colsL Y st) (4 * c + r) = byteW (mcW Y (st.getD c z4)) r := byte_at hc hr
    obtain ⟨w2, c1, c2, c3⟩ := (bo.upd0 u1).stC (i := 4 * c + r) (by rw [fillB_len _ (by omega)]; omega) (.int .u8 ((byteB (colsL Y st) (4 * c + r) : Nat) : Int))
    rw [fillB_set _ (by omega)] at c2
    have q2 : Upd (· = go) w w2 := (u1.mono fun _ _ e => e.elim).trans' c3 fun _ _ e => e
    obtain ⟨w3, g1, g2, g3⟩ := ih (r + 1) f w2 (by omega) (by omega) (p.new q2 hgo) (b.upd q2 h1) (br.upd q2 h2) c2
    refine ⟨w3, ?_, g2, q2.trans' g3 fun _ _ e => e⟩
    have e1 : IntKind.i64.wrap ((r : Int) + 1) = ((r + 1 : Nat) : Int) := by rw [w64 (by omega) (by omega)]; rfl
    have e2 : IntKind.i64.wrap (IntKind.i64.wrap (4 * (c : Int)) + (r : Int)) = ((4 * c + r : Nat) : Int) := by
      have : IntKind.i64.wrap (4 * (c : Int)) = ((4 * c : Nat) : Int) := by rw [w64 (by omega) (by omega)]; omega
      rw [this, w64 (by omega) (by omega)]; omega
    have c1' : stC ((⟨go, 0, none⟩ : Addr).add ((4 * c + r) * 1)) (.int .u8 ((byteW (mcW Y (st.getD c z4)) r : Nat) : Int)) w1 = some w2 := by rw [add_lit, Nat.mul_one, Nat.zero_add, ← eF]; exact c1
    have eu : ref02_Key_columns_l1 K (f + 1) = ref02_Key_columns_l1_b K (ref02_Key_columns_l1 K f) := rfl
    rw [eu]
    unfold ref02_Key_columns_l1_b
    rw [if_pos (decide_eq_true (by omega)), a1, bnd_ok, e2, if_pos (nat_in (show 4 * c + r < 16 by omega)), Int.toNat_natCast, c1', Option.bind_some, e1, g1]

theorem cols_l0 {K : Nat} (hK : 300 ≤ K) {g : Nat} {sb sr : Sl} {by_ : List Value} {wp : Bool} {S : List W4} {Y : W4} (hY : rowSet Y) {st : List W4} (hs : ∀ x ∈ st, x.ok) (hl : st.length = 4) {gb gr go : Nat} {a6 : Addr} (hgo : g ≠ go ∧ ∀ k, sr.blk = some k → k ≠ go) (h1 : gb ≠ go) (h2 : gr ≠ go) :
    ∀ (d c f : Nat) (w : World), d + c = 4 → d < f → RefP w g sb sr by_ wp S → Bk 41 w gb (ints .u8 (roundB st)) → Bk 105 w gr (ints .u8 (rowV Y)) → Bk 41 w go (ints .u8 (fillB (byteB (colsL Y st)) (4 * c))) →
      ∃ w', ref02_Key_columns_l0 K f (some ⟨g, 0, none⟩) ⟨gb, 0, none⟩ ⟨gr, 0, none⟩ a6 ⟨go, 0, none⟩ (c : Int) w = some ((), w') ∧ Bk 41 w' go (ints .u8 (roundB (colsL Y st))) ∧ Upd (· = go) w w' := by
  intro d
  induction d with
  | zero =>
    intro c f w hd hf p b br bo
    obtain ⟨f, rfl⟩ : ∃ m, f = m + 1 := ⟨f - 1, by omega⟩
    obtain rfl : c = 4 := by omega
    refine ⟨w, ?_, by rw [← fillB_all (colsL_len Y st)]; exact bo, Upd.refl _ w⟩
    have eu : ref02_Key_columns_l0 K (f + 1) = ref02_Key_columns_l0_b K (ref02_Key_columns_l0 K f) := rfl
    rw [eu]
    unfold ref02_Key_columns_l0_b
    rw [if_neg (by decide)]
  | succ d ih =>
    intro c f w hd hf p b br bo
    obtain ⟨f, rfl⟩ : ∃ m, f = m + 1 := ⟨f - 1, by omega⟩
    obtain ⟨w1, a1, b1, u1⟩ := cols_l1 (K := K) hK (g := g) (sb := sb) (sr := sr) (by_ := by_) (wp := wp) (S := S) hY hs hl (gb := gb) (gr := gr) (go := go) (a6 := a6) (c := c) (by omega) hgo h1 h2 4 0 K w rfl (by omega) p b br bo
    have a1 : ref02_Key_columns_l1 K K (some ⟨g, 0, none⟩) ⟨gb, 0, none⟩ ⟨gr, 0, none⟩ a6 ⟨go, 0, none⟩ (c : Int) 0 w = _ := a1
    obtain ⟨w2, g1, g2, g3⟩ := ih (c + 1) f w1 (by omega) (by omega) (p.new u1 hgo) (b.upd u1 h1) (br.upd u1 h2) b1
    refine ⟨w2, ?_, g2, u1.trans' g3 fun _ _ e => e⟩
    have e1 : IntKind.i64.wrap ((c : Int) + 1) = ((c + 1 : Nat) : Int) := by rw [w64 (by omega) (by omega)]; rfl
    have eu : ref02_Key_columns_l0 K (f + 1) = ref02_Key_columns_l0_b K (ref02_Key_columns_l0 K f) := rfl
    rw [eu]
    unfold ref02_Key_columns_l0_b
    rw [if_pos (decide_eq_true (by omega)), a1, bnd_ok, e1, g1]

theorem columns_ok {K : Nat} (hK : 300 ≤ K) {w : World} {g : Nat} {sb sr : Sl} {by_ : List Value} {wp : Bool} {S : List W4} (p : RefP w g sb sr by_ wp S) {Y : W4} (hY : rowSet Y) {st : List W4} (hs : ∀ x ∈ st, x.ok) (hl : st.length = 4) :
    ∃ w', ref02_Key_columns K (some ⟨g, 0, none⟩) (ints .u8 (roundB st)).toArray (ints .u8 (rowV Y)).toArray w = some (((ints .u8 (roundB (colsL Y st))).toArray, ()), w') ∧ Upd none_ w w' := by
  obtain ⟨w1, n1, b1, u1, z1⟩ := newB_ok (ints .u8 (roundB st)).toArray 41 w
  obtain ⟨w2, n2, b2, u2, z2⟩ := newB_ok (ints .u8 (rowV Y)).toArray 105 w1
  obtain ⟨w3, n3, b3, u3, z3⟩ := newB_ok z41 41 w2
  obtain ⟨w4, n4, b4, u4, z4'⟩ := newB_ok z41 41 w3
  have b1 : Bk 41 w1 w.heap.size (ints .u8 (roundB st)) := b1
  have b2 : Bk 105 w2 w1.heap.size (ints .u8 (rowV Y)) := b2
  have b4 : Bk 41 w4 w3.heap.size (ints .u8 (fillB (byteB (colsL Y st)) (4 * 0))) := b4
  have hold := p.old
  have hT := bl_16 (colsL_ok Y hs) (colsL_len Y st)
  have q4 := ((u1.and0 u2).and0 u3).and0 u4
  obtain ⟨w5, a5, b5, u5⟩ := cols_l0 (K := K) hK (g := g) (sb := sb) (sr := sr) (by_ := by_) (wp := wp) (S := S) hY hs hl (gb := w.heap.size) (gr := w1.heap.size) (go := w3.heap.size) (a6 := ⟨w2.heap.size, 0, none⟩) ⟨by omega, fun k hk => by have := hold.2 k hk; omega⟩ (by omega) (by omega) 4 0 K w4 rfl (by omega) (p.upd0 q4) (((b1.upd0 u2).upd0 u3).upd0 u4) ((b2.upd0 u3).upd0 u4) b4
  have a5 : ref02_Key_columns_l0 K K (some ⟨g, 0, none⟩) ⟨w.heap.size, 0, none⟩ ⟨w1.heap.size, 0, none⟩ ⟨w2.heap.size, 0, none⟩ ⟨w3.heap.size, 0, none⟩ 0 w4 = _ := a5
  obtain ⟨w6, a6, b6, u6⟩ := stA16 ((b3.upd0 u4).upd u5 (by omega)) z41_len hT
  refine ⟨w6, ?_, (q4.trans' u5 fun k hk e => by omega).trans' u6 fun k hk e => by omega⟩
  unfold ref02_Key_columns
  rw [n1, bnd_ok, n2, bnd_ok, n3, bnd_ok, n4, bnd_ok, a5, bnd_ok, ldA16 b5 hT, Option.bind_some, if_pos (size16 hT), a6, Option.bind_some, ldA16 b6 hT, Option.bind_some]

end Go.Sh

/- The document's Encrypt and Decrypt. -/
set_option linter.unusedVariables false
set_option maxRecDepth 100000
namespace Go.Sh
open Go.Fw Go.Gf Go.RowKit Go.Proofs.Tryd

theorem sub_byte (f : Nat → Nat) (st : List W4) {c i : Nat} (hc : c < 4) (hi : i < 4) : byteB (subL f 1 st) (4 * c + i) = f (byteW (st.getD ((c + i) % 4) z4) i) := by
  unfold subL
  rw [byte_at hc hi]
  have : i = 0 ∨ i = 1 ∨ i = 2 ∨ i = 3 := by omega
  rcases this with rfl | rfl | rfl | rfl
  · rw [Nat.add_zero, Nat.mod_eq_of_lt hc]; rfl
  · rfl
  · rfl
  · rfl
theorem unsub_byte (f : Nat → Nat) (st : List W4) {c i : Nat} (hc : c < 4) (hi : i < 4) : byteB (subL f 3 st) (4 * ((c + i) % 4) + i) = f (byteW (st.getD c z4) i) := by
  unfold subL
  rw [byte_at (Nat.mod_lt _ (by decide)) hi]
  have h1 : i = 0 ∨ i = 1 ∨ i = 2 ∨ i = 3 := by omega
  have h2 : c = 0 ∨ c = 1 ∨ c = 2 ∨ c = 3 := by omega
  rcases h1 with rfl | rfl | rfl | rfl <;> rcases h2 with rfl | rfl | rfl | rfl <;> rfl

theorem ix4 {c i : Nat} (hc : c < 4) (hi : i < 4) : IntKind.i64.wrap (IntKind.i64.wrap (4 * (c : Int)) + (i : Int)) = ((4 * c + i : Nat) : Int) := by
  have : IntKind.i64.wrap (4 * (c : Int)) = ((4 * c : Nat) : Int) := by rw [w64 (by omega) (by omega)]; omega
  rw [this, w64 (by omega) (by omega)]; omega
theorem ixm {c i : Nat} (hc : c < 4) (hi : i < 4) : IntKind.i64.wrap (IntKind.i64.wrap (4 * Int.tmod (IntKind.i64.wrap ((c : Int) + (i : Int))) 4) + (i : Int)) = ((4 * ((c + i) % 4) + i : Nat) : Int) := by
  rw [mod4_ok hc (by omega)]
  exact ix4 (Nat.mod_lt _ (by decide)) hi
theorem st_byte {w : World} {gb : Nat} {st : List W4} (b : Bk 41 w gb (ints .u8 (roundB st))) (hl : st.length = 4) {c i : Nat} (hc : c < 4) (hi : i < 4) : ldI .u8 ((⟨gb, 0, none⟩ : Addr).add ((4 * c + i) * 1)) w = some ((byteW (st.getD c z4) i : Nat) : Int) := by
  rw [add_lit, Nat.mul_one, Nat.zero_add]
  refine b.ldI ?_
  unfold ints; rw [List.getElem?_map, roundB_get st c i (by omega) hi]; rfl

theorem enc_l2 {K : Nat} {g : Nat} {sb sr : Sl} {by_ : List Value} {wp : Bool} {S : List W4} {st : List W4} (hs : ∀ x ∈ st, x.ok) (hl : st.length = 4) {gb gt : Nat} {a4 : Addr} {n5 r6 : Int} {c : Nat} (hc : c < 4) (hgt : g ≠ gt ∧ ∀ k, sr.blk = some k → k ≠ gt) (h1 : gb ≠ gt) :
    ∀ (d i f : Nat) (w : World), d + i = 4 → d < f → RefP w g sb sr by_ wp S → Bk 41 w gb (ints .u8 (roundB st)) → Bk 41 w gt (ints .u8 (fillB (byteB (subL sx 1 st)) (4 * c + i))) →
      ∃ w', ref02_Key_Encrypt_l2 K f (some ⟨g, 0, none⟩) ⟨gb, 0, none⟩ a4 n5 r6 ⟨gt, 0, none⟩ (c : Int) (i : Int) w = some ((), w') ∧ Bk 41 w' gt (ints .u8 (fillB (byteB (subL sx 1 st)) (4 * (c + 1)))) ∧ Upd (· = gt) w w' := by
  intro d
  induction d with
  | zero =>
    intro i f w hd hf p b bt
    obtain ⟨f, rfl⟩ : ∃ m, f = m + 1 := ⟨f - 1, by omega⟩
    obtain rfl : i = 4 := by omega
    refine ⟨w, ?_, bt, Upd.refl _ w⟩
    have eu : ref02_Key_Encrypt_l2 K (f + 1) = ref02_Key_Encrypt_l2_b K (ref02_Key_Encrypt_l2 K f) := rfl
    rw [eu]
    unfold ref02_Key_Encrypt_l2_b
    rw [if_neg (by decide)]
  | succ d ih =>
    intro i f w hd hf p b bt
    obtain ⟨f, rfl⟩ : ∃ m, f = m + 1 := ⟨f - 1, by omega⟩
    have hi : i < 4 := by omega
    have hm4 : (c + i) % 4 < 4 := Nat.mod_lt _ (by decide)
    have hx := byteW_lt (getD_ok hs ((c + i) % 4)) i
    have lb := st_byte b.drew hl hm4 hi
    have pd := p.upd0 (Upd.refl none_ w).drew
    have ls := rf_s pd.b hx
    have eF := sub_byte sx st hc hi
    obtain ⟨w1, c1, c2, c3⟩ := bt.drew.stC (i := 4 * c + i) (by rw [fillB_len _ (by omega)]; omega) (.int .u8 ((byteB (subL sx 1 st) (4 * c + i) : Nat) : Int))
    rw [fillB_set _ (by omega)] at c2
    have c3 : Upd (· = gt) w w1 := c3.predrew
    obtain ⟨w2, g1, g2, g3⟩ := ih (i + 1) f w1 (by omega) (by omega) (p.new c3 hgt) (b.upd c3 h1) c2
    refine ⟨w2, ?_, g2, c3.trans' g3 fun _ _ e => e⟩
    have e1 : IntKind.i64.wrap ((i : Int) + 1) = ((i + 1 : Nat) : Int) := by rw [w64 (by omega) (by omega)]; rfl
    have c1' : stC ((⟨gt, 0, none⟩ : Addr).add ((4 * c + i) * 1)) (.int .u8 ((sx (byteW (st.getD ((c + i) % 4) z4) i) : Nat) : Int)) w.drew = some w1 := by rw [add_lit, Nat.mul_one, Nat.zero_add, ← eF]; exact c1
    have eu : ref02_Key_Encrypt_l2 K (f + 1) = ref02_Key_Encrypt_l2_b K (ref02_Key_Encrypt_l2 K f) := rfl
    rw [eu]
    unfold ref02_Key_Encrypt_l2_b
    rw [if_pos (decide_eq_true (by omega)), ixm hc hi, if_pos (nat_in (show 4 * ((c + i) % 4) + i < 16 by omega)), Option.bind_some, Int.toNat_natCast, lb, Option.bind_some, if_pos (nat_in hx), Int.toNat_natCast, ls, Option.bind_some, ix4 hc hi, if_pos (nat_in (show 4 * c + i < 16 by omega)), Int.toNat_natCast, c1', Option.bind_some, e1, g1]

theorem enc_l1 {K : Nat} (hK : 300 ≤ K) {g : Nat} {sb sr : Sl} {by_ : List Value} {wp : Bool} {S : List W4} {st : List W4} (hs : ∀ x ∈ st, x.ok) (hl : st.length = 4) {gb gt : Nat} {a4 : Addr} {n5 r6 : Int} (hgt : g ≠ gt ∧ ∀ k, sr.blk = some k → k ≠ gt) (h1 : gb ≠ gt) :
    ∀ (d c f : Nat) (w : World), d + c = 4 → d < f → RefP w g sb sr by_ wp S → Bk 41 w gb (ints .u8 (roundB st)) → Bk 41 w gt (ints .u8 (fillB (byteB (subL sx 1 st)) (4 * c))) →
      ∃ w', ref02_Key_Encrypt_l1 K f (some ⟨g, 0, none⟩) ⟨gb, 0, none⟩ a4 n5 r6 ⟨gt, 0, none⟩ (c : Int) w = some ((), w') ∧ Bk 41 w' gt (ints .u8 (roundB (subL sx 1 st))) ∧ Upd (· = gt) w w' := by
  intro d
  induction d with
  | zero =>
    intro c f w hd hf p b bt
    obtain ⟨f, rfl⟩ : ∃ m, f = m + 1 := ⟨f - 1, by omega⟩
    obtain rfl : c = 4 := by omega
    refine ⟨w, ?_, by rw [← fillB_all (subL_len sx 1 st)]; exact bt, Upd.refl _ w⟩
    have eu : ref02_Key_Encrypt_l1 K (f + 1) = ref02_Key_Encrypt_l1_b K (ref02_Key_Encrypt_l1 K f) := rfl
    rw [eu]
    unfold ref02_Key_Encrypt_l1_b
    rw [if_neg (by decide)]
  | succ d ih =>
    intro c f w hd hf p b bt
    obtain ⟨f, rfl⟩ : ∃ m, f = m + 1 := ⟨f - 1, by omega⟩
    obtain ⟨w1, a1, b1, u1⟩ := enc_l2 (K := K) (sb := sb) (by_ := by_) (wp := wp) (S := S) hs hl (gb := gb) (a4 := a4) (n5 := n5) (r6 := r6) (c := c) (by omega) hgt h1 4 0 K w rfl (by omega) p b bt
    have a1 : ref02_Key_Encrypt_l2 K K (some ⟨g, 0, none⟩) ⟨gb, 0, none⟩ a4 n5 r6 ⟨gt, 0, none⟩ (c : Int) 0 w = _ := a1
    obtain ⟨w2, g1, g2, g3⟩ := ih (c + 1) f w1 (by omega) (by omega) (p.new u1 hgt) (b.upd u1 h1) b1
    refine ⟨w2, ?_, g2, u1.trans' g3 fun _ _ e => e⟩
    have e1 : IntKind.i64.wrap ((c : Int) + 1) = ((c + 1 : Nat) : Int) := by rw [w64 (by omega) (by omega)]; rfl
    have eu : ref02_Key_Encrypt_l1 K (f + 1) = ref02_Key_Encrypt_l1_b K (ref02_Key_Encrypt_l1 K f) := rfl
    rw [eu]
    unfold ref02_Key_Encrypt_l1_b
    rw [if_pos (decide_eq_true (by omega)), a1, bnd_ok, e1, g1]

theorem built105e : prog.built 105 [(0, (.int .u8 2)), (1, (.int .u8 3)), (2, (.int .u8 1)), (3, (.int .u8 1))] = some (ints .u8 (rowV encY)).toArray := by kernel_rfl
theorem built105d : prog.built 105 [(0, (.int .u8 14)), (1, (.int .u8 11)), (2, (.int .u8 13)), (3, (.int .u8 9))] = some (ints .u8 (rowV decY)).toArray := by kernel_rfl
theorem rowSet_e : rowSet encY := ⟨.inr (.inl rfl), .inl rfl, .inl rfl, .inr (.inr (.inl rfl))⟩
theorem rowSet_d : rowSet decY := ⟨.inr (.inr (.inr (.inr (.inr (.inr rfl))))), .inr (.inr (.inr (.inl rfl))), .inr (.inr (.inr (.inr (.inr (.inl rfl))))), .inr (.inr (.inr (.inr (.inl rfl))))⟩

/-- the round's columns: none in the last -/
def mayC (Y : W4) (m : Bool) (st : List W4) : List W4 := if m = true then colsL Y st else st
theorem mayC_ok {Y : W4} {m : Bool} {st : List W4} (h : ∀ x ∈ st, x.ok) : ∀ x ∈ mayC Y m st, x.ok := by
  unfold mayC; split
  · exact colsL_ok Y h
  · exact h
theorem mayC_len {Y : W4} {m : Bool} {st : List W4} (h : st.length = 4) : (mayC Y m st).length = 4 := by
  unfold mayC; split
  · exact colsL_len Y st
  · exact h

theorem enc_s3 {K : Nat} (hK : 300 ≤ K) {g : Nat} {sb sr : Sl} {by_ : List Value} {wp : Bool} {S : List W4} {w : World} (p : RefP w g sb sr by_ wp S) {st : List W4} (hs : ∀ x ∈ st, x.ok) (hl : st.length = 4) {gt : Nat} (b : Bk 41 w gt (ints .u8 (roundB st))) (m : Bool) :
    ∃ w', ref02_Key_Encrypt_s3 K (some ⟨g, 0, none⟩) ⟨gt, 0, none⟩ m w = some ((), w') ∧ Bk 41 w' gt (ints .u8 (roundB (mayC encY m st))) ∧ Upd (· = gt) w w' := by
  have hB := bl_16 hs hl
  cases m with
  | false => exact ⟨w, by unfold ref02_Key_Encrypt_s3; rw [if_neg (show ¬ false = true by decide)], b, Upd.refl _ w⟩
  | true =>
    obtain ⟨w1, a1, u1⟩ := columns_ok hK p rowSet_e hs hl
    have hT := bl_16 (colsL_ok encY hs) (colsL_len encY st)
    obtain ⟨w2, a2, b2, u2⟩ := stA16 (b.upd0 u1) (ints16 hB) hT
    refine ⟨w2, ?_, b2, (u1.mono fun _ _ e => e.elim).trans' u2 fun _ _ e => e⟩
    unfold ref02_Key_Encrypt_s3
    rw [if_pos rfl, ldA16 b hB, Option.bind_some, built105e, Option.bind_some, a1, bnd_ok, if_pos (size16 hT), a2, Option.bind_some]

theorem enc_body {K : Nat} (hK : 300 ≤ K) {g : Nat} {sb sr : Sl} {by_ : List Value} {wp : Bool} {S : List W4} (hS : ∀ x ∈ S, x.ok) {w : World} (p : RefP w g sb sr by_ wp S) {r n : Nat} (hr : 4 * r + 4 ≤ S.length) (hrn : r ≤ n) (hn : n ≤ 100) {st : List W4} (hs : ∀ x ∈ st, x.ok) (hl : st.length = 4) {gb : Nat} {a4 : Addr} (b : Bk 41 w gb (ints .u8 (roundB st))) (rec : Option Addr → Addr → Addr → Int → Int → World → Option ((Unit) × World)) :
    ∃ w', ref02_Key_Encrypt_l0_b K rec (some ⟨g, 0, none⟩) ⟨gb, 0, none⟩ a4 (n : Int) (r : Int) w = rec (some ⟨g, 0, none⟩) ⟨gb, 0, none⟩ a4 (n : Int) ((r + 1 : Nat) : Int) w' ∧ Bk 41 w' gb (ints .u8 (roundB (addR S r (mayC encY (decide (r < n)) (subL sx 1 st))))) ∧ Upd (· = gb) w w' := by
  obtain ⟨w1, n1, b1, u1, z1⟩ := newB_ok z41 41 w
  have b1 : Bk 41 w1 w.heap.size (ints .u8 (fillB (byteB (subL sx 1 st)) (4 * 0))) := b1
  have hold := p.old
  have hgb := b.lt
  obtain ⟨w2, a2, b2, u2⟩ := enc_l1 (K := K) hK (sb := sb) (by_ := by_) (wp := wp) (S := S) hs hl (gb := gb) (gt := w.heap.size) (a4 := a4) (n5 := (n : Int)) (r6 := (r : Int)) ⟨by omega, fun k hk => by have := hold.2 k hk; omega⟩ (by omega) 4 0 K w1 rfl (by omega) (p.upd0 u1) (b.upd0 u1) b1
  have a2 : ref02_Key_Encrypt_l1 K K (some ⟨g, 0, none⟩) ⟨gb, 0, none⟩ a4 (n : Int) (r : Int) ⟨w.heap.size, 0, none⟩ 0 w1 = _ := a2
  have q2 : Upd none_ w w2 := u1.trans' u2 fun k hk e => by omega
  have hso := subL_ok (f := sx) (fun i hi => sx_lt hi) 1 hs
  obtain ⟨w3, a3, b3, u3⟩ := enc_s3 hK (p.upd0 q2) hso (subL_len sx 1 st) b2 (decide (r < n))
  have q3 : Upd none_ w w3 := q2.trans' u3 fun k hk e => by omega
  have hmo := mayC_ok (Y := encY) (m := decide (r < n)) hso
  have hml := mayC_len (Y := encY) (m := decide (r < n)) (subL_len sx 1 st)
  obtain ⟨w4, a4', u4⟩ := added_ok hK (p.upd0 q3) hS hr (by omega) hmo hml
  have hT := bl_16 (addR_ok hS r hmo) (addR_len S r _)
  obtain ⟨w5, a5, b5, u5⟩ := stA16 ((b.upd0 q3).upd0 u4) (ints16 (bl_16 hs hl)) hT
  refine ⟨w5, ?_, b5, ((q3.and0 u4).mono fun _ _ e => e.elim).trans' u5 fun _ _ e => e⟩
  have e1 : IntKind.i64.wrap ((r : Int) + 1) = ((r + 1 : Nat) : Int) := by rw [w64 (by omega) (by omega)]; rfl
  have ed : decide ((r : Int) < (n : Int)) = decide (r < n) := by
    by_cases c : r < n
    · rw [decide_eq_true c, decide_eq_true (by omega)]
    · rw [decide_eq_false c, decide_eq_false (by omega)]
  unfold ref02_Key_Encrypt_l0_b
  rw [if_pos (decide_eq_true (by omega)), n1, bnd_ok, a2, bnd_ok, ed, a3, bnd_ok, ldA16 b3 (bl_16 hmo hml), Option.bind_some, a4', bnd_ok, if_pos (size16 hT), a5, Option.bind_some, e1]

theorem enc_l0 {K : Nat} (hK : 300 ≤ K) {g : Nat} {sb sr : Sl} {by_ : List Value} {wp : Bool} {S : List W4} (hS : ∀ x ∈ S, x.ok) {n : Nat} (hSl : S.length = 4 * (n + 1)) (hn : n ≤ 100) {gb : Nat} {a4 : Addr} (hgb : g ≠ gb ∧ ∀ k, sr.blk = some k → k ≠ gb) :
    ∀ (d r f : Nat) (w : World) (st : List W4), r + d = n → d + 1 < f → (∀ x ∈ st, x.ok) → st.length = 4 → RefP w g sb sr by_ wp S → Bk 41 w gb (ints .u8 (roundB st)) →
      ∃ w', ref02_Key_Encrypt_l0 K f (some ⟨g, 0, none⟩) ⟨gb, 0, none⟩ a4 (n : Int) (r : Int) w = some ((), w') ∧ Bk 41 w' gb (ints .u8 (roundB (encR S d r st))) ∧ Upd (· = gb) w w' := by
  intro d
  induction d with
  | zero =>
    intro r f w st hd hf hs hl p b
    obtain ⟨f, rfl⟩ : ∃ m, f = m + 2 := ⟨f - 2, by omega⟩
    obtain rfl : r = n := by omega
    obtain ⟨w1, a1, b1, u1⟩ := enc_body hK hS p (r := r) (n := r) (by omega) (Nat.le_refl _) hn hs hl (a4 := a4) b (ref02_Key_Encrypt_l0 K (f + 1))
    rw [decide_eq_false (Nat.lt_irrefl r)] at b1
    refine ⟨w1, ?_, b1, u1⟩
    have eu : ref02_Key_Encrypt_l0 K (f + 2) = ref02_Key_Encrypt_l0_b K (ref02_Key_Encrypt_l0 K (f + 1)) := rfl
    have eu2 : ref02_Key_Encrypt_l0 K (f + 1) = ref02_Key_Encrypt_l0_b K (ref02_Key_Encrypt_l0 K f) := rfl
    rw [eu, a1, eu2]
    unfold ref02_Key_Encrypt_l0_b
    rw [if_neg (fun e => by have := of_decide_eq_true e; omega)]
  | succ d ih =>
    intro r f w st hd hf hs hl p b
    obtain ⟨f, rfl⟩ : ∃ m, f = m + 1 := ⟨f - 1, by omega⟩
    obtain ⟨w1, a1, b1, u1⟩ := enc_body hK hS p (r := r) (n := n) (by omega) (by omega) hn hs hl (a4 := a4) b (ref02_Key_Encrypt_l0 K f)
    rw [decide_eq_true (show r < n by omega)] at b1
    have hso := subL_ok (f := sx) (fun i hi => sx_lt hi) 1 hs
    obtain ⟨w2, g1, g2, g3⟩ := ih (r + 1) f w1 (addR S r (colsL encY (subL sx 1 st))) (by omega) (by omega) (addR_ok hS r (colsL_ok encY hso)) (addR_len S r _) (p.new u1 hgb) b1
    refine ⟨w2, ?_, g2, u1.trans' g3 fun _ _ e => e⟩
    have eu : ref02_Key_Encrypt_l0 K (f + 1) = ref02_Key_Encrypt_l0_b K (ref02_Key_Encrypt_l0 K f) := rfl
    rw [eu, a1, g1]

theorem refEnc_ok {K : Nat} (hK : 300 ≤ K) {w : World} {B0 N g kl : Nat} {S : List W4} {wp : Bool} (r : RefAt w B0 N g kl S wp) {B : List Int} (hB : B16 B) :
    ∃ w', ref02_Key_Encrypt K (some ⟨g, 0, none⟩) (ints .u8 B).toArray w = some (((ints .u8 (encB S B)).toArray, ()), w') ∧ Upd none_ w w' := by
  have hkl := r.len
  have hk := r.kl
  have hS := r.ok
  have hR := fun (w' : World) (u : Upd none_ w w') => refRounds_ok (r.upd0 u)
  obtain ⟨sb, sr, by_, x1, x2, x3, x4, x5⟩ := r.ex
  have p : RefP w g sb sr by_ wp S := ⟨x1, x3, x4⟩
  have hold := p.old
  obtain ⟨n, hn⟩ : ∃ n, n = kl / 4 + 6 := ⟨_, rfl⟩
  have hSl : S.length = 4 * (n + 1) := by omega
  have hs := wsB_ok hB
  have hl := wsB_len B
  have hrb := roundB_ws hB
  obtain ⟨w1, n1, b1, u1, z1⟩ := newB_ok (ints .u8 B).toArray 41 w
  obtain ⟨w2, n2, b2, u2, z2⟩ := newB_ok z41 41 w1
  have b1 : Bk 41 w1 w.heap.size (ints .u8 B) := b1
  have q2 := u1.and0 u2
  obtain ⟨w3, a3, u3⟩ := added_ok hK (p.upd0 q2) hS (r := 0) (by omega) (by decide) hs hl
  rw [hrb] at a3
  have a3 : ref02_Key_added K (some ⟨g, 0, none⟩) (ints .u8 B).toArray 0 w2 = _ := a3
  have hT := bl_16 (addR_ok hS 0 hs) (addR_len S 0 (wsB B))
  obtain ⟨w4, a4, b4, u4⟩ := stA16 ((b1.upd0 u2).upd0 u3) (ints16 hB) hT
  have q4 : Upd none_ w w4 := (q2.and0 u3).trans' u4 fun k hk e => by omega
  obtain ⟨w5, a5, b5, u5⟩ := enc_l0 (K := K) hK (sb := sb) (by_ := by_) (wp := wp) hS hSl (by omega) (gb := w.heap.size) (a4 := ⟨w1.heap.size, 0, none⟩) ⟨by omega, fun k hk => by have := hold.2 k hk; omega⟩ (n - 1) 1 K w4 _ (by omega) (by omega) (addR_ok hS 0 hs) (addR_len S 0 _) (p.upd0 q4) b4
  have a5 : ref02_Key_Encrypt_l0 K K (some ⟨g, 0, none⟩) ⟨w.heap.size, 0, none⟩ ⟨w1.heap.size, 0, none⟩ (n : Int) 1 w4 = _ := a5
  rw [encR_ok S hSl (by omega)] at b5
  have b5 : Bk 41 w5 w.heap.size (ints .u8 (encB S B)) := b5
  have hE := encB_16 hS hB
  have hz3 := u3.size
  have b25 := (((b2.upd0 u3).upd u4 (by omega)).upd u5 (by omega))
  obtain ⟨w6, a6, b6, u6⟩ := stA16 b25 z41_len hE
  refine ⟨w6, ?_, (q4.trans' u5 fun k hk e => by omega).trans' u6 fun k hk e => by omega⟩
  have eR := hR w4 q4
  rw [← hn] at eR
  unfold ref02_Key_Encrypt
  rw [n1, bnd_ok, n2, bnd_ok, ldA16 (b1.upd0 u2) hB, Option.bind_some, a3, bnd_ok, if_pos (size16 hT), a4, Option.bind_some, eR, Option.bind_some, a5, bnd_ok, ldA16 b5 hE, Option.bind_some, if_pos (size16 hE), a6, Option.bind_some, ldA16 b6 hE, Option.bind_some]

/-! ### back -/
def srcP (p : Nat) : Nat := 4 * ((p / 4 + 4 - p % 4) % 4) + p % 4
def dstP (m : Nat) : Nat := 4 * ((m / 4 + m % 4) % 4) + m % 4
theorem src_dst : ∀ p, p < 16 → ∀ m, m < 16 → (p = dstP m ↔ srcP p = m) := by decide +kernel
def scatB (F : Nat → Nat) (m : Nat) : List Int := (List.range 16).map fun p => if srcP p < m then ((F p : Nat) : Int) else 0
theorem scatB_len (F : Nat → Nat) (m : Nat) : (ints .u8 (scatB F m)).length = 16 := by unfold scatB; rw [ints_length, List.length_map, List.length_range]
theorem scatB_set (F : Nat → Nat) {m : Nat} (h : m < 16) : (ints .u8 (scatB F m)).set (dstP m) (.int .u8 ((F (dstP m) : Nat) : Int)) = ints .u8 (scatB F (m + 1)) := by
  unfold scatB ints
  rw [List.map_map, List.map_map, range_set]
  refine map_range_ext fun p hp => ?_
  have hsd := src_dst p hp m h
  show (if p = dstP m then _ else Value.int .u8 (if srcP p < m then ((F p : Nat) : Int) else 0)) = Value.int .u8 (if srcP p < m + 1 then ((F p : Nat) : Int) else 0)
  by_cases e : p = dstP m
  · rw [if_pos e, if_pos (by have := hsd.1 e; omega), e]
  · have : srcP p ≠ m := fun e2 => e (hsd.2 e2)
    rw [if_neg e]
    by_cases c : srcP p < m
    · rw [if_pos c, if_pos (by omega)]
    · rw [if_neg c, if_neg (by omega)]
theorem scatB_all {st : List W4} (hl : st.length = 4) : scatB (byteB st) 16 = roundB st := by
  have hlt : ∀ p, p < 16 → srcP p < 16 := by decide
  unfold scatB
  apply List.ext_getElem?
  intro p
  rw [List.getElem?_map]
  by_cases hp : p < 16
  · rw [List.getElem?_range hp, rB_get (by omega)]
    show some (if srcP p < 16 then _ else _) = _
    rw [if_pos (hlt p hp)]
  · rw [List.getElem?_eq_none (by simp; omega), List.getElem?_eq_none (by rw [roundB_len, hl]; omega)]; rfl
theorem scatB_zero (F : Nat → Nat) : scatB F 0 = zero16 := rfl
theorem dst_ci {c i : Nat} (hc : c < 4) (hi : i < 4) : dstP (4 * c + i) = 4 * ((c + i) % 4) + i := by
  unfold dstP; rw [show (4 * c + i) / 4 = c by omega, show (4 * c + i) % 4 = i by omega]

theorem dec_l3 {K : Nat} {g : Nat} {sb sr : Sl} {by_ : List Value} {wp : Bool} {S : List W4} {st : List W4} (hs : ∀ x ∈ st, x.ok) (hl : st.length = 4) {gb gt : Nat} {a4 : Addr} {n5 r6 : Int} {c : Nat} (hc : c < 4) (hgt : g ≠ gt ∧ ∀ k, sr.blk = some k → k ≠ gt) (h1 : gb ≠ gt) :
    ∀ (d i f : Nat) (w : World), d + i = 4 → d < f → RefP w g sb sr by_ wp S → Bk 41 w gb (ints .u8 (roundB st)) → Bk 41 w gt (ints .u8 (scatB (byteB (subL ux 3 st)) (4 * c + i))) →
      ∃ w', ref02_Key_Decrypt_l3 K f (some ⟨g, 0, none⟩) ⟨gb, 0, none⟩ a4 n5 r6 ⟨gt, 0, none⟩ (c : Int) (i : Int) w = some ((), w') ∧ Bk 41 w' gt (ints .u8 (scatB (byteB (subL ux 3 st)) (4 * (c + 1)))) ∧ Upd (· = gt) w w' := by
  intro d
  induction d with
  | zero =>
    intro i f w hd hf p b bt
    obtain ⟨f, rfl⟩ : ∃ m, f = m + 1 := ⟨f - 1, by omega⟩
    obtain rfl : i = 4 := by omega
    refine ⟨w, ?_, bt, Upd.refl _ w⟩
    have eu : ref02_Key_Decrypt_l3 K (f + 1) = ref02_Key_Decrypt_l3_b K (ref02_Key_Decrypt_l3 K f) := rfl
    rw [eu]
    unfold ref02_Key_Decrypt_l3_b
    rw [if_neg (by decide)]
  | succ d ih =>
    intro i f w hd hf p b bt
    obtain ⟨f, rfl⟩ : ∃ m, f = m + 1 := ⟨f - 1, by omega⟩
    have hi : i < 4 := by omega
    have hx := byteW_lt (getD_ok hs c) i
    have lb := st_byte b.drew hl hc hi
    have pd := p.upd0 (Upd.refl none_ w).drew
    have ls := rf_u pd.b hx
    have eF := unsub_byte ux st hc hi
    have hm4 : (c + i) % 4 < 4 := Nat.mod_lt _ (by decide)
    obtain ⟨w1, c1, c2, c3⟩ := bt.drew.stC (i := dstP (4 * c + i)) (by rw [scatB_len, dst_ci hc hi]; omega) (.int .u8 ((byteB (subL ux 3 st) (dstP (4 * c + i)) : Nat) : Int))
    rw [scatB_set _ (by omega)] at c2
    rw [dst_ci hc hi, eF] at c1
    have c3 : Upd (· = gt) w w1 := c3.predrew
    obtain ⟨w2, g1, g2, g3⟩ := ih (i + 1) f w1 (by omega) (by omega) (p.new c3 hgt) (b.upd c3 h1) c2
    refine ⟨w2, ?_, g2, c3.trans' g3 fun _ _ e => e⟩
    have e1 : IntKind.i64.wrap ((i : Int) + 1) = ((i + 1 : Nat) : Int) := by rw [w64 (by omega) (by omega)]; rfl
    have c1' : stC ((⟨gt, 0, none⟩ : Addr).add ((4 * ((c + i) % 4) + i) * 1)) (.int .u8 ((ux (byteW (st.getD c z4) i) : Nat) : Int)) w.drew = some w1 := by rw [add_lit, Nat.mul_one, Nat.zero_add]; exact c1
    have eu : ref02_Key_Decrypt_l3 K (f + 1) = ref02_Key_Decrypt_l3_b K (ref02_Key_Decrypt_l3 K f) := rfl
    rw [eu]
    unfold ref02_Key_Decrypt_l3_b
    rw [if_pos (decide_eq_true (by omega)), ix4 hc hi, if_pos (nat_in (show 4 * c + i < 16 by omega)), Option.bind_some, Int.toNat_natCast, lb, Option.bind_some, if_pos (nat_in hx), Int.toNat_natCast, ls, Option.bind_some, ixm hc hi, if_pos (nat_in (show 4 * ((c + i) % 4) + i < 16 by omega)), Int.toNat_natCast, c1', Option.bind_some, e1, g1]

theorem dec_l2 {K : Nat} (hK : 300 ≤ K) {g : Nat} {sb sr : Sl} {by_ : List Value} {wp : Bool} {S : List W4} {st : List W4} (hs : ∀ x ∈ st, x.ok) (hl : st.length = 4) {gb gt : Nat} {a4 : Addr} {n5 r6 : Int} (hgt : g ≠ gt ∧ ∀ k, sr.blk = some k → k ≠ gt) (h1 : gb ≠ gt) :
    ∀ (d c f : Nat) (w : World), d + c = 4 → d < f → RefP w g sb sr by_ wp S → Bk 41 w gb (ints .u8 (roundB st)) → Bk 41 w gt (ints .u8 (scatB (byteB (subL ux 3 st)) (4 * c))) →
      ∃ w', ref02_Key_Decrypt_l2 K f (some ⟨g, 0, none⟩) ⟨gb, 0, none⟩ a4 n5 r6 ⟨gt, 0, none⟩ (c : Int) w = some ((), w') ∧ Bk 41 w' gt (ints .u8 (roundB (subL ux 3 st))) ∧ Upd (· = gt) w w' := by
  intro d
  induction d with
  | zero =>
    intro c f w hd hf p b bt
    obtain ⟨f, rfl⟩ : ∃ m, f = m + 1 := ⟨f - 1, by omega⟩
    obtain rfl : c = 4 := by omega
    refine ⟨w, ?_, by rw [← scatB_all (subL_len ux 3 st)]; exact bt, Upd.refl _ w⟩
    have eu : ref02_Key_Decrypt_l2 K (f + 1) = ref02_Key_Decrypt_l2_b K (ref02_Key_Decrypt_l2 K f) := rfl
    rw [eu]
    unfold ref02_Key_Decrypt_l2_b
    rw [if_neg (by decide)]
  | succ d ih =>
    intro c f w hd hf p b bt
    obtain ⟨f, rfl⟩ : ∃ m, f = m + 1 := ⟨f - 1, by omega⟩
    obtain ⟨w1, a1, b1, u1⟩ := dec_l3 (K := K) (sb := sb) (by_ := by_) (wp := wp) (S := S) hs hl (gb := gb) (a4 := a4) (n5 := n5) (r6 := r6) (c := c) (by omega) hgt h1 4 0 K w rfl (by omega) p b bt
    have a1 : ref02_Key_Decrypt_l3 K K (some ⟨g, 0, none⟩) ⟨gb, 0, none⟩ a4 n5 r6 ⟨gt, 0, none⟩ (c : Int) 0 w = _ := a1
    obtain ⟨w2, g1, g2, g3⟩ := ih (c + 1) f w1 (by omega) (by omega) (p.new u1 hgt) (b.upd u1 h1) b1
    refine ⟨w2, ?_, g2, u1.trans' g3 fun _ _ e => e⟩
    have e1 : IntKind.i64.wrap ((c : Int) + 1) = ((c + 1 : Nat) : Int) := by rw [w64 (by omega) (by omega)]; rfl
    have eu : ref02_Key_Decrypt_l2 K (f + 1) = ref02_Key_Decrypt_l2_b K (ref02_Key_Decrypt_l2 K f) := rfl
    rw [eu]
    unfold ref02_Key_Decrypt_l2_b
    rw [if_pos (decide_eq_true (by omega)), a1, bnd_ok, e1, g1]

theorem dec_s1 {K : Nat} (hK : 300 ≤ K) {g : Nat} {sb sr : Sl} {by_ : List Value} {wp : Bool} {S : List W4} {w : World} (p : RefP w g sb sr by_ wp S) {st : List W4} (hs : ∀ x ∈ st, x.ok) (hl : st.length = 4) {gt : Nat} (b : Bk 41 w gt (ints .u8 (roundB st))) (m : Bool) :
    ∃ w', ref02_Key_Decrypt_s1 K (some ⟨g, 0, none⟩) ⟨gt, 0, none⟩ m w = some ((), w') ∧ Bk 41 w' gt (ints .u8 (roundB (mayC decY m st))) ∧ Upd (· = gt) w w' := by
  have hB := bl_16 hs hl
  cases m with
  | false => exact ⟨w, by unfold ref02_Key_Decrypt_s1; rw [if_neg (show ¬ false = true by decide)], b, Upd.refl _ w⟩
  | true =>
    obtain ⟨w1, a1, u1⟩ := columns_ok hK p rowSet_d hs hl
    have hT := bl_16 (colsL_ok decY hs) (colsL_len decY st)
    obtain ⟨w2, a2, b2, u2⟩ := stA16 (b.upd0 u1) (ints16 hB) hT
    refine ⟨w2, ?_, b2, (u1.mono fun _ _ e => e.elim).trans' u2 fun _ _ e => e⟩
    unfold ref02_Key_Decrypt_s1
    rw [if_pos rfl, ldA16 b hB, Option.bind_some, built105d, Option.bind_some, a1, bnd_ok, if_pos (size16 hT), a2, Option.bind_some]

theorem dec_body {K : Nat} (hK : 300 ≤ K) {g : Nat} {sb sr : Sl} {by_ : List Value} {wp : Bool} {S : List W4} (hS : ∀ x ∈ S, x.ok) {w : World} (p : RefP w g sb sr by_ wp S) {r n : Nat} (hr : 4 * (r + 1) + 4 ≤ S.length) (hn : n ≤ 100) (hrn : r + 1 ≤ n) {st : List W4} (hs : ∀ x ∈ st, x.ok) (hl : st.length = 4) {gb : Nat} {a4 : Addr} (b : Bk 41 w gb (ints .u8 (roundB st))) (hgb : g ≠ gb ∧ ∀ k, sr.blk = some k → k ≠ gb) (rec : Option Addr → Addr → Addr → Int → Int → World → Option ((Unit) × World)) :
    ∃ w', ref02_Key_Decrypt_l0_b K rec (some ⟨g, 0, none⟩) ⟨gb, 0, none⟩ a4 (n : Int) ((r + 1 : Nat) : Int) w = rec (some ⟨g, 0, none⟩) ⟨gb, 0, none⟩ a4 (n : Int) (r : Int) w' ∧ Bk 41 w' gb (ints .u8 (roundB (subL ux 3 (mayC decY (decide (r + 1 < n)) (addR S (r + 1) st))))) ∧ Upd (· = gb) w w' := by
  have hold := p.old
  have hB := bl_16 hs hl
  obtain ⟨w1, a1, u1⟩ := added_ok hK p hS hr (by omega) hs hl
  have hao := addR_ok hS (r + 1) hs
  have hT := bl_16 hao (addR_len S (r + 1) st)
  obtain ⟨w2, a2, b2, u2⟩ := stA16 (b.upd0 u1) (ints16 hB) hT
  have q2 : Upd (· = gb) w w2 := (u1.mono fun _ _ e => e.elim).trans' u2 fun _ _ e => e
  obtain ⟨w3, a3, b3, u3⟩ := dec_s1 hK (p.new q2 hgb) hao (addR_len S (r + 1) st) b2 (decide (r + 1 < n))
  have q3 : Upd (· = gb) w w3 := q2.trans' u3 fun _ _ e => e
  have hmo := mayC_ok (Y := decY) (m := decide (r + 1 < n)) hao
  have hml := mayC_len (Y := decY) (m := decide (r + 1 < n)) (addR_len S (r + 1) st)
  obtain ⟨w4, n4, b4, u4, z4'⟩ := newB_ok z41 41 w3
  have b4 : Bk 41 w4 w3.heap.size (ints .u8 (scatB (byteB (subL ux 3 (mayC decY (decide (r + 1 < n)) (addR S (r + 1) st)))) (4 * 0))) := b4
  have hz3 := q3.size
  have hgl := b.lt
  obtain ⟨w5, a5, b5, u5⟩ := dec_l2 (K := K) hK (sb := sb) (by_ := by_) (wp := wp) (S := S) hmo hml (gb := gb) (gt := w3.heap.size) (a4 := a4) (n5 := (n : Int)) (r6 := ((r + 1 : Nat) : Int)) ⟨by omega, fun k hk => by have := hold.2 k hk; omega⟩ (by omega) 4 0 K w4 rfl (by omega) ((p.new q3 hgb).upd0 u4) (b3.upd0 u4) b4
  have a5 : ref02_Key_Decrypt_l2 K K (some ⟨g, 0, none⟩) ⟨gb, 0, none⟩ a4 (n : Int) ((r + 1 : Nat) : Int) ⟨w3.heap.size, 0, none⟩ 0 w4 = _ := a5
  have hso := subL_ok (f := ux) (fun i hi => ux_lt hi) 3 hmo
  have hU := bl_16 hso (subL_len ux 3 _)
  have u45 : Upd none_ w3 w5 := u4.trans' u5 fun k hk e => by omega
  obtain ⟨w6, a6, b6, u6⟩ := stA16 (b3.upd0 u45) (ints16 (bl_16 hmo hml)) hU
  refine ⟨w6, ?_, b6, (q3.trans' u45 fun _ _ e => e.elim).trans' u6 fun _ _ e => e⟩
  have e1 : IntKind.i64.wrap (((r + 1 : Nat) : Int) - 1) = (r : Int) := by rw [w64 (by omega) (by omega)]; omega
  have ed : decide (((r + 1 : Nat) : Int) < (n : Int)) = decide (r + 1 < n) := by
    by_cases c : r + 1 < n
    · rw [decide_eq_true c, decide_eq_true (by omega)]
    · rw [decide_eq_false c, decide_eq_false (by omega)]
  unfold ref02_Key_Decrypt_l0_b
  rw [if_pos (decide_eq_true (by omega)), ldA16 b hB, Option.bind_some, a1, bnd_ok, if_pos (size16 hT), a2, Option.bind_some, ed, a3, bnd_ok, n4, bnd_ok, a5, bnd_ok, ldA16 b5 hU, Option.bind_some, if_pos (size16 hU), a6, Option.bind_some, e1]

theorem dec_l0 {K : Nat} (hK : 300 ≤ K) {g : Nat} {sb sr : Sl} {by_ : List Value} {wp : Bool} {S : List W4} (hS : ∀ x ∈ S, x.ok) {n : Nat} (hSl : S.length = 4 * (n + 1)) (hn : n ≤ 100) {gb : Nat} {a4 : Addr} (hgb : g ≠ gb ∧ ∀ k, sr.blk = some k → k ≠ gb) :
    ∀ (r f : Nat) (w : World) (st : List W4), r < n → r < f → (∀ x ∈ st, x.ok) → st.length = 4 → RefP w g sb sr by_ wp S → Bk 41 w gb (ints .u8 (roundB st)) →
      ∃ w' st', ref02_Key_Decrypt_l0 K f (some ⟨g, 0, none⟩) ⟨gb, 0, none⟩ a4 (n : Int) (r : Int) w = some ((), w') ∧ Bk 41 w' gb (ints .u8 (roundB st')) ∧ (∀ x ∈ st', x.ok) ∧ st'.length = 4 ∧ addR S 0 st' = decR S r st ∧ Upd (· = gb) w w' := by
  intro r
  induction r with
  | zero =>
    intro f w st hr hf hs hl p b
    obtain ⟨f, rfl⟩ : ∃ m, f = m + 1 := ⟨f - 1, by omega⟩
    refine ⟨w, st, ?_, b, hs, hl, rfl, Upd.refl _ w⟩
    have eu : ref02_Key_Decrypt_l0 K (f + 1) = ref02_Key_Decrypt_l0_b K (ref02_Key_Decrypt_l0 K f) := rfl
    rw [eu]
    unfold ref02_Key_Decrypt_l0_b
    rw [if_neg (by decide)]
  | succ r ih =>
    intro f w st hr hf hs hl p b
    obtain ⟨f, rfl⟩ : ∃ m, f = m + 1 := ⟨f - 1, by omega⟩
    obtain ⟨w1, a1, b1, u1⟩ := dec_body hK hS p (r := r) (n := n) (by omega) hn (by omega) hs hl (a4 := a4) b hgb (ref02_Key_Decrypt_l0 K f)
    rw [decide_eq_true (show r + 1 < n by omega)] at b1
    obtain ⟨w2, st', g1, g2, g3, g4, g5, g6⟩ := ih f w1 (subL ux 3 (colsL decY (addR S (r + 1) st))) (by omega) (by omega) (subL_ok (fun i hi => ux_lt hi) 3 (colsL_ok decY (addR_ok hS (r + 1) hs))) (subL_len ux 3 _) (p.new u1 hgb) b1
    refine ⟨w2, st', ?_, g2, g3, g4, g5, u1.trans' g6 fun _ _ e => e⟩
    have eu : ref02_Key_Decrypt_l0 K (f + 1) = ref02_Key_Decrypt_l0_b K (ref02_Key_Decrypt_l0 K f) := rfl
    rw [eu, a1, g1]

theorem refDec_ok {K : Nat} (hK : 300 ≤ K) {w : World} {B0 N g kl : Nat} {S : List W4} {wp : Bool} (r : RefAt w B0 N g kl S wp) {B : List Int} (hB : B16 B) :
    ∃ w', ref02_Key_Decrypt K (some ⟨g, 0, none⟩) (ints .u8 B).toArray w = some (((ints .u8 (decB S B)).toArray, ()), w') ∧ Upd none_ w w' := by
  have hkl := r.len
  have hk := r.kl
  have hS := r.ok
  have hR := fun (w' : World) (u : Upd none_ w w') => refRounds_ok (r.upd0 u)
  obtain ⟨sb, sr, by_, x1, x2, x3, x4, x5⟩ := r.ex
  have p : RefP w g sb sr by_ wp S := ⟨x1, x3, x4⟩
  have hold := p.old
  obtain ⟨n, hn⟩ : ∃ n, n = kl / 4 + 6 := ⟨_, rfl⟩
  have hSl : S.length = 4 * (n + 1) := by omega
  have hs := wsB_ok hB
  have hl := wsB_len B
  have hrb := roundB_ws hB
  obtain ⟨w1, n1, b1, u1, z1⟩ := newB_ok (ints .u8 B).toArray 41 w
  obtain ⟨w2, n2, b2, u2, z2⟩ := newB_ok z41 41 w1
  have b1 : Bk 41 w1 w.heap.size (ints .u8 B) := b1
  rw [← hrb] at b1
  have q2 := u1.and0 u2
  have hgb : g ≠ w.heap.size ∧ ∀ k, sr.blk = some k → k ≠ w.heap.size := ⟨by omega, fun k hk => by have := hold.2 k hk; omega⟩
  obtain ⟨m, hm⟩ : ∃ m, n = m + 1 := ⟨n - 1, by omega⟩
  obtain ⟨f, hf⟩ : ∃ f, K = f + 1 := ⟨K - 1, by omega⟩
  obtain ⟨w3, a3, b3, u3⟩ := dec_body hK hS (p.upd0 q2) (r := m) (n := n) (by omega) (by omega) (by omega) hs hl (a4 := ⟨w1.heap.size, 0, none⟩) (b1.upd0 u2) hgb (ref02_Key_Decrypt_l0 K f)
  rw [decide_eq_false (show ¬ m + 1 < n by omega)] at b3
  have b3 : Bk 41 w3 w.heap.size (ints .u8 (roundB (subL ux 3 (addR S (m + 1) (wsB B))))) := b3
  have q3 : Upd none_ w w3 := q2.trans' u3 fun k hk e => by omega
  have hao := addR_ok hS (m + 1) hs
  obtain ⟨w4, st', a4, b4, h4, h4l, h4e, u4⟩ := dec_l0 (K := K) hK (sb := sb) (by_ := by_) (wp := wp) hS hSl (by omega) (gb := w.heap.size) (a4 := ⟨w1.heap.size, 0, none⟩) hgb m f w3 _ (by omega) (by omega) (subL_ok (fun i hi => ux_lt hi) 3 hao) (subL_len ux 3 _) (p.upd0 q3) b3
  have hd := decR_ok hS hSl (by omega) hs
  rw [show n - 1 = m by omega, hm] at hd
  rw [hd] at h4e
  have q4 : Upd none_ w w4 := q3.trans' u4 fun k hk e => by omega
  obtain ⟨w5, a5, u5⟩ := added_ok hK (p.upd0 q4) hS (r := 0) (by omega) (by decide) h4 h4l
  rw [h4e] at a5
  have a5 : ref02_Key_added K (some ⟨g, 0, none⟩) (ints .u8 (roundB st')).toArray 0 w4 = some (((ints .u8 (decB S B)).toArray, ()), w5) := a5
  have hD := decB_16 hS hB
  have b25 := (((b2.upd u3 (by omega)).upd u4 (by omega)).upd0 u5)
  obtain ⟨w6, a6, b6, u6⟩ := stA16 b25 z41_len hD
  refine ⟨w6, ?_, (q4.and0 u5).trans' u6 fun k hk e => by omega⟩
  have eR := hR w2 q2
  rw [← hn, hm] at eR
  have a34 : ref02_Key_Decrypt_l0 K K (some ⟨g, 0, none⟩) ⟨w.heap.size, 0, none⟩ ⟨w1.heap.size, 0, none⟩ ((m + 1 : Nat) : Int) ((m + 1 : Nat) : Int) w2 = some ((), w4) := by
    have eu : ref02_Key_Decrypt_l0 K K = ref02_Key_Decrypt_l0_b K (ref02_Key_Decrypt_l0 K f) := by
      have h0 : ref02_Key_Decrypt_l0 K (f + 1) = ref02_Key_Decrypt_l0_b K (ref02_Key_Decrypt_l0 K f) := rfl
      rw [← hf] at h0; exact h0
    rw [hm] at a3 a4
    rw [eu, a3, a4]
  unfold ref02_Key_Decrypt
  rw [n1, bnd_ok, n2, bnd_ok, eR, Option.bind_some, a34, bnd_ok, ldA16 b4 (bl_16 h4 h4l), Option.bind_some, a5, bnd_ok, if_pos (size16 hD), a6, Option.bind_some, ldA16 b6 hD, Option.bind_some]

end Go.Sh

/- RijndaelBlocks: every block under every key, both ways. -/
set_option linter.unusedVariables false
set_option maxRecDepth 100000
namespace Go.Sh
open Go.Fw Go.Gf Go.RowKit Go.Proofs.Tryd

theorem ldA_at {w : World} {p : Addr} {vs : List Value} (h : Rd w p vs) (hne : vs ≠ []) : ldA vs.length p w = some vs.toArray := by
  have h0 := h.lt hne
  unfold ldA
  obtain ⟨v, r, rfl⟩ : ∃ v r, vs = v :: r := by cases vs with
    | nil => exact absurd rfl hne
    | cons v r => exact ⟨v, r, rfl⟩
  have hc := h 0 v rfl
  have ha0 : p.add 0 = p := rfl
  rw [ha0] at hc
  unfold World.cell? at hc
  cases ho : w.heap[p.block]? with
  | none => rw [ho] at hc; cases hc
  | some o =>
    rw [ho] at hc
    cases o with
    | cells c e fz =>
      dsimp only at hc ⊢
      have hsp : p.spot = none := by
        cases hs : p.spot with
        | none => rfl
        | some x => rw [hs] at hc; cases hc
      have hall : ∀ i u, (v :: r)[i]? = some u → c[p.off + i]? = some u := fun i u hu => by
        have := h i u hu
        unfold World.cell? at this
        rw [show (p.add i).block = p.block by unfold Addr.add; split <;> rfl, ho] at this
        dsimp only at this
        by_cases hi : i = 0
        · subst hi
          rw [ha0, hsp] at this
          simpa using this
        · have ea : p.add i = { p with off := p.off + i, spot := none } := by unfold Addr.add; rw [if_neg hi]
          rw [ea] at this
          simpa using this
      have hsz : p.off + (v :: r).length ≤ c.size := by
        have hl := hall r.length _ (List.getElem?_eq_getElem (by simp))
        have := (Array.getElem?_eq_some_iff.1 hl).1
        simp; omega
      rw [if_pos ⟨hsp, hsz⟩]
      congr 1
      apply Array.ext_getElem?
      intro i
      rw [Array.getElem?_extract]
      by_cases hi : i < (v :: r).length
      · rw [if_pos (by rw [Nat.min_eq_left hsz]; omega), hall i _ (List.getElem?_eq_getElem hi), List.getElem?_toArray, List.getElem?_eq_getElem hi]
      · rw [if_neg (by rw [Nat.min_eq_left hsz]; omega), List.getElem?_toArray, List.getElem?_eq_none (by omega)]
    | _ => cases hc

/-- a list of blocks -/
structure BlocksIn (w : World) (s : Sl) (Bs : List (List Int)) : Prop where
  len : s.len = Bs.length
  ok : ∀ B ∈ Bs, B16 B
  rd : Bs = [] ∨ ∃ p : Addr, s.a = some p ∧ ∀ i B, Bs[i]? = some B → Rd w (p.add (i * 16)) (ints .u8 B)
theorem BlocksIn.upd0 {w w' : World} {s : Sl} {Bs : List (List Int)} (h : BlocksIn w s Bs) (u : Upd none_ w w') : BlocksIn w' s Bs :=
  ⟨h.len, h.ok, h.rd.imp id fun ⟨p, e, hr⟩ => ⟨p, e, fun i B hB => (hr i B hB).upd u fun _ => id⟩⟩
theorem BlocksIn.ld {w : World} {s : Sl} {Bs : List (List Int)} (h : BlocksIn w s Bs) {i : Nat} (hi : i < s.len) : ∃ p B, s.a = some p ∧ B16 B ∧ ∀ w', Upd none_ w w' → ldA 16 (p.add (i * 16)) w' = some (ints .u8 B).toArray := by
  have hl := h.len
  have hg : Bs[i]? = some (Bs[i]'(by omega)) := List.getElem?_eq_getElem (by omega)
  have hok := h.ok _ (List.getElem_mem (l := Bs) (n := i) (by omega))
  rcases h.rd with e | ⟨p, e, hr⟩
  · rw [e] at hl; simp at hl; omega
  · refine ⟨p, _, e, hok, fun w' u => ?_⟩
    have := ldA_at ((hr i _ hg).upd u fun _ => id) (by intro e; have := congrArg List.length e; rw [ints16 hok] at this; cases this)
    rw [ints16 hok] at this
    exact this

theorem blocks_s2 {K : Nat} {bs : Sl} {i : Nat} (w : World) : law02_RijndaelBlocks_s2 K bs (i : Int) w = some ((decide (i < bs.len ∧ i < 8), ()), w) := by
  unfold law02_RijndaelBlocks_s2
  by_cases c : i < bs.len
  · rw [if_pos (decide_eq_true (by omega))]
    have : decide ((i : Int) < 8) = decide (i < bs.len ∧ i < 8) := by
      by_cases d : i < 8
      · rw [decide_eq_true (by omega), decide_eq_true ⟨c, d⟩]
      · rw [decide_eq_false (by omega), decide_eq_false (fun e => d e.2)]
    rw [this]
  · rw [if_neg (fun e => by have := of_decide_eq_true e; omega), decide_eq_false (fun e => c e.1)]

theorem blocks_good {K : Nat} (hK : 300 ≤ K) {bs : Sl} {Bs : List (List Int)} {g t gw gb kl B0 N h : Nat} {S : List W4} {wp : Bool} :
    ∀ (d i f : Nat) (w : World), d + i = 8 → d < f → KeyAt w g t gw gb kl S → RefAt w B0 N h kl S wp → BlocksIn w bs Bs →
      ∃ w', law02_RijndaelBlocks_l1 K f bs (some ⟨g, 0, none⟩) (some ⟨h, 0, none⟩) (i : Int) w = some (.norm (), w') ∧ Upd none_ w w' := by
  intro d
  induction d with
  | zero =>
    intro i f w hd hf k r b
    obtain ⟨f, rfl⟩ : ∃ m, f = m + 1 := ⟨f - 1, by omega⟩
    refine ⟨w, ?_, Upd.refl _ w⟩
    have eu : law02_RijndaelBlocks_l1 K (f + 1) = law02_RijndaelBlocks_l1_b K (law02_RijndaelBlocks_l1 K f) := rfl
    rw [eu]
    unfold law02_RijndaelBlocks_l1_b
    rw [blocks_s2, bnd_ok, if_neg (fun e => by have := (of_decide_eq_true e).2; omega)]
  | succ d ih =>
    intro i f w hd hf k r b
    obtain ⟨f, rfl⟩ : ∃ m, f = m + 1 := ⟨f - 1, by omega⟩
    have eu : law02_RijndaelBlocks_l1 K (f + 1) = law02_RijndaelBlocks_l1_b K (law02_RijndaelBlocks_l1 K f) := rfl
    by_cases hi : i < bs.len
    · obtain ⟨p, B, hp, hB, hld⟩ := b.ld hi
      obtain ⟨w1, a1, u1⟩ := Encrypt_ok hK k hB
      have hE := encB_16 k.ok hB
      have hD := decB_16 k.ok hB
      obtain ⟨w2, n2, b2, u2, z2⟩ := newB_ok z42 42 w1
      obtain ⟨w3, a3, b3, u3⟩ := stA16 b2 z42_len hE
      have u13 : Upd none_ w1 w3 := u2.trans' u3 fun k hk e => by omega
      have q3 := u1.and0 u13
      obtain ⟨w4, a4, u4⟩ := Decrypt_ok hK (k.upd0 q3) hB
      obtain ⟨w5, n5, b5, u5, z5⟩ := newB_ok z42 42 w4
      obtain ⟨w6, a6, b6, u6⟩ := stA16 b5 z42_len hD
      have u46 : Upd none_ w4 w6 := u5.trans' u6 fun k hk e => by omega
      have q6 := (q3.and0 u4).and0 u46
      have q6d : Upd none_ w w6.drew := q6.drew
      obtain ⟨w7, a7, u7⟩ := refEnc_ok hK (r.upd0 q6d) hB
      have q7 := q6d.and0 u7
      obtain ⟨w8, a8, u8⟩ := refDec_ok hK (r.upd0 q7) hB
      have q8 := q7.and0 u8
      have bA6 : Bk 42 w6.drew w1.heap.size (ints .u8 (encB S B)) := ((b3.upd0 u4).upd0 u46).drew
      have bB6 : Bk 42 w6.drew w4.heap.size (ints .u8 (decB S B)) := b6.drew
      obtain ⟨w9, g1, g2⟩ := ih (i + 1) f w8 (by omega) (by omega) (k.upd0 q8) (r.upd0 q8) (b.upd0 q8)
      have e1 : IntKind.i64.wrap ((i : Int) + 1) = ((i + 1 : Nat) : Int) := by rw [w64 (by omega) (by omega)]; rfl
      have es4 : law02_RijndaelBlocks_s4 K bs (some ⟨h, 0, none⟩) (i : Int) ⟨w1.heap.size, 0, none⟩ 0 ⟨w4.heap.size, 0, none⟩ 0 w6 = some ((false, ()), w8) := by
        have hn : ∀ e : Int, law02_num e = some (e, ()) := fun _ => rfl
        have hs : ∀ (v : Value) (k : Option ((Bool × Unit) × World)), sameK v v k = k := fun v k => by unfold sameK; rw [if_pos rfl]
        have c1 := ldA16 bA6 hE
        have c2 := ldA16 (bA6.upd0 u7) hE
        have c3 := ldA16 ((bA6.upd0 u7).upd0 u8) hE
        have c4 := ldA16 (bB6.upd0 u7) hD
        have c5 := ldA16 ((bB6.upd0 u7).upd0 u8) hD
        unfold law02_RijndaelBlocks_s4
        rw [hn, Option.bind_some, if_neg (show ¬ ((0 : Int) != 0) = true by decide), Option.bind_some, if_neg (show ¬ ((0 : Int) != 0) = true by decide), hp, Option.bind_some, if_pos (nat_in hi), c1, Option.bind_some, Int.toNat_natCast, hld w6.drew q6d, Option.bind_some, a7, bnd_ok, hld w7 q7, Option.bind_some, hs, c2, Option.bind_some, hs, eq42 hE.1 hE.1, decide_eq_true rfl, Option.bind_some, if_neg (show ¬ (!true) = true by decide), Option.bind_some, if_pos (nat_in hi), c4, Option.bind_some, hld w7 q7, Option.bind_some, a8, bnd_ok, hld w8 q8, Option.bind_some, hs, c5, Option.bind_some, hs, Option.bind_some, hs, c3, Option.bind_some, hs, eq42 hD.1 hD.1, decide_eq_true rfl, Option.bind_some]
        rfl
      refine ⟨w9, ?_, q8.and0 g2⟩
      rw [eu]
      unfold law02_RijndaelBlocks_l1_b
      rw [blocks_s2, bnd_ok, if_pos (decide_eq_true ⟨hi, by omega⟩), hp, Option.bind_some, if_pos (nat_in hi), Int.toNat_natCast, hld w (Upd.refl _ w), Option.bind_some, a1, bnd_ok, n2, bnd_ok, if_pos (size16 hE), a3, Option.bind_some, Option.bind_some, if_pos (nat_in hi), hld w3 q3, Option.bind_some, a4, bnd_ok, n5, bnd_ok, if_pos (size16 hD), a6, Option.bind_some, if_neg (show ¬ (some (⟨h, 0, none⟩ : Addr)).isNone = true from Bool.noConfusion), es4, bnd_ok, if_neg (show ¬ false = true by decide), e1, g1]
    · refine ⟨w, ?_, Upd.refl _ w⟩
      rw [eu]
      unfold law02_RijndaelBlocks_l1_b
      rw [blocks_s2, bnd_ok, if_neg (fun e => hi (of_decide_eq_true e).1)]

theorem blocks_nil {K : Nat} {bs : Sl} {Bs : List (List Int)} :
    ∀ (d i f : Nat) (w : World), d + i = 8 → d < f → BlocksIn w bs Bs →
      ∃ w', law02_RijndaelBlocks_l1 K f bs none none (i : Int) w = some (.norm (), w') ∧ Upd none_ w w' := by
  intro d
  induction d with
  | zero =>
    intro i f w hd hf b
    obtain ⟨f, rfl⟩ : ∃ m, f = m + 1 := ⟨f - 1, by omega⟩
    refine ⟨w, ?_, Upd.refl _ w⟩
    have eu : law02_RijndaelBlocks_l1 K (f + 1) = law02_RijndaelBlocks_l1_b K (law02_RijndaelBlocks_l1 K f) := rfl
    rw [eu]
    unfold law02_RijndaelBlocks_l1_b
    rw [blocks_s2, bnd_ok, if_neg (fun e => by have := (of_decide_eq_true e).2; omega)]
  | succ d ih =>
    intro i f w hd hf b
    obtain ⟨f, rfl⟩ : ∃ m, f = m + 1 := ⟨f - 1, by omega⟩
    have eu : law02_RijndaelBlocks_l1 K (f + 1) = law02_RijndaelBlocks_l1_b K (law02_RijndaelBlocks_l1 K f) := rfl
    by_cases hi : i < bs.len
    · obtain ⟨p, B, hp, hB, hld⟩ := b.ld hi
      obtain ⟨w1, a1, u1⟩ := Encrypt_err (K := K) (k0 := none) (e := 1) (by decide) (w := w) (fun w' _ => sched_nil false w') (B := B)
      obtain ⟨w2, n2, b2, u2, z2⟩ := newB_ok z42 42 w1
      obtain ⟨w3, a3, b3, u3⟩ := stA16 b2 z42_len zero16_ok
      have u13 : Upd none_ w1 w3 := u2.trans' u3 fun k hk e => by omega
      have q3 := u1.and0 u13
      obtain ⟨w4, a4, u4⟩ := Decrypt_err (K := K) (k0 := none) (e := 1) (by decide) (w := w3) (fun w' _ => sched_nil true w') (B := B)
      obtain ⟨w5, n5, b5, u5, z5⟩ := newB_ok z42 42 w4
      obtain ⟨w6, a6, b6, u6⟩ := stA16 b5 z42_len zero16_ok
      have u46 : Upd none_ w4 w6 := u5.trans' u6 fun k hk e => by omega
      have q6 := (q3.and0 u4).and0 u46
      obtain ⟨w9, g1, g2⟩ := ih (i + 1) f w6 (by omega) (by omega) (b.upd0 q6)
      have e1 : IntKind.i64.wrap ((i : Int) + 1) = ((i + 1 : Nat) : Int) := by rw [w64 (by omega) (by omega)]; rfl
      have es3 : law02_RijndaelBlocks_s3 K ⟨w1.heap.size, 0, none⟩ 1 ⟨w4.heap.size, 0, none⟩ 1 w6 = some ((false, ()), w6) := by
        have hn : ∀ e : Int, law02_num e = some (e, ()) := fun _ => rfl
        have c1 := ldA16 ((b3.upd0 u4).upd0 u46) zero16_ok
        have c2 := ldA16 b6 zero16_ok
        unfold law02_RijndaelBlocks_s3
        rw [c1, Option.bind_some, built42n, Option.bind_some, eq42 rfl rfl, decide_eq_true rfl, Option.bind_some, if_neg (show ¬ (!true) = true by decide), c2, Option.bind_some, Option.bind_some, eq42 rfl rfl, decide_eq_true rfl, Option.bind_some, if_neg (show ¬ (!true) = true by decide), hn, Option.bind_some, if_neg (show ¬ ((1 : Int) != 1) = true by decide), Option.bind_some]
        rfl
      refine ⟨w9, ?_, q6.and0 g2⟩
      rw [eu]
      unfold law02_RijndaelBlocks_l1_b
      rw [blocks_s2, bnd_ok, if_pos (decide_eq_true ⟨hi, by omega⟩), hp, Option.bind_some, if_pos (nat_in hi), Int.toNat_natCast, hld w (Upd.refl _ w), Option.bind_some, a1, bnd_ok, n2, bnd_ok, if_pos (size16 zero16_ok), a3, Option.bind_some, Option.bind_some, if_pos (nat_in hi), hld w3 q3, Option.bind_some, a4, bnd_ok, n5, bnd_ok, if_pos (size16 zero16_ok), a6, Option.bind_some, if_pos (show (none : Option Addr).isNone = true from rfl), es3, bnd_ok, if_neg (show ¬ false = true by decide), e1, g1]
    · refine ⟨w, ?_, Upd.refl _ w⟩
      rw [eu]
      unfold law02_RijndaelBlocks_l1_b
      rw [blocks_s2, bnd_ok, if_neg (fun e => hi (of_decide_eq_true e).1)]

theorem RijndaelBlocks_ok {K : Nat} (hK : 18446744073709551616 ≤ K) {w : World} (rc : Rc w) {key : Sl} {ks : List Int} (hks : ∀ z ∈ ks, InK .u8 z) (r : Src w key (ints .u8 ks)) {bs : Sl} {Bs : List (List Int)} (b : BlocksIn w bs Bs) :
    ∃ w', law02_RijndaelBlocks K key bs w = some ((true, ()), w') ∧ Upd none_ w w' := by
  have hlen : key.len = ks.length := by rw [r.len, ints_length]
  have hn : ∀ e : Int, law02_num e = some (e, ()) := fun _ => rfl
  by_cases hl : ks.length = 16 ∨ ks.length = 24 ∨ ks.length = 32
  · have hb : ∀ p, key.a = some p → p.block < w.heap.size := fun p hp => by
      rcases r.rd with ⟨e, _⟩ | ⟨q, e, hr⟩
      · rw [e] at hp; cases hp
      · rw [e] at hp; cases hp
        exact hr.lt (fun e => by have := congrArg List.length e; rw [ints_length, List.length_nil] at this; omega)
    obtain ⟨g, t, gw, gb, w1, a1, k, x1, x2, x3, x4, u1⟩ := New_ok (K := K) (by omega) rc hks r.rds hb hl
    obtain ⟨h, w2, a2, rf, u2⟩ := refNew_ok (K := K) (by omega) hks (r.upd0 u1) hl
    have q2 := u1.and0 u2
    obtain ⟨w3, a3, u3⟩ := blocks_good (K := K) (by omega) 8 0 K w2 rfl (by omega) (k.upd0 u2) rf (b.upd0 q2)
    have a3 : law02_RijndaelBlocks_l1 K K bs (some ⟨g, 0, none⟩) (some ⟨h, 0, none⟩) 0 w2 = _ := a3
    have es0 : law02_RijndaelBlocks_s0 K (some ⟨g, 0, none⟩) 0 (some ⟨h, 0, none⟩) 0 w2 = some ((false, ()), w2) := rfl
    refine ⟨w3, ?_, q2.and0 u3⟩
    unfold law02_RijndaelBlocks
    rw [a1, bnd_ok, a2, bnd_ok, es0, bnd_ok, if_neg (show ¬ false = true by decide), a3, bnd_ok]
  · obtain ⟨w3, a3, u3⟩ := blocks_nil (K := K) 8 0 K w rfl (by omega) b
    have a3 : law02_RijndaelBlocks_l1 K K bs none none 0 w = _ := a3
    have es0 : law02_RijndaelBlocks_s0 K none 20 none 20 w = some ((false, ()), w) := rfl
    refine ⟨w3, ?_, u3⟩
    unfold law02_RijndaelBlocks
    rw [New_err hlen hl, bnd_ok, refNew_err hlen hl, bnd_ok, es0, bnd_ok, if_neg (show ¬ false = true by decide), a3, bnd_ok]

end Go.Sh

/- A list of blocks that came in. -/
set_option linter.unusedVariables false
namespace Go.Sh
open Go.Fw Go.RowKit Go.Proofs.Tryd Go.Deep Go.ChangeShapes Go.WideShapes

theorem und40 : prog.underlying 40 = some (.slice 42) := by kernel_rfl

theorem open_blocks {H : Type} {enc : TypeId × Value → H} {W : World} {d : DataW H} {p : List MemPlace} {a : Option Addr} {len cap : Nat} (h : DataW.Trod enc prog W 0 (fun _ => true) true 40 (.slice a len cap) d p) :
    ∃ Bs, BlocksIn W ⟨a, len, cap⟩ Bs := by
  obtain ⟨fuel, hf⟩ := h
  rcases open_slice und40 hf with ⟨hcs, hx⟩ | ⟨a', len', cap', m, n, D, Pl, hcs, _, hl, hm, hmm, hx, hrows⟩
  · simp [Value.cells] at hcs
    obtain ⟨rfl, rfl, rfl⟩ := hcs
    exact ⟨[], rfl, by simp, .inl rfl⟩
  simp [Value.cells] at hcs
  obtain ⟨rfl, rfl, rfl⟩ := hcs
  have hm2 : m = cap := by simpa using hmm
  have each : ∀ i, ∃ B : List Int, B16 B ∧ (i < len → Rd W (a'.add (i * 16)) (ints .u8 B)) := by
    intro i
    by_cases hi : i < len
    · obtain ⟨cs', h1, h2⟩ := hrows i (by omega)
      rw [cells42] at h1
      obtain ⟨_, hlen, hcell⟩ := World.cells?_some h1
      obtain ⟨B, hB, hok⟩ := open_block_t h2
      refine ⟨B, hok, fun _ j v hv => ?_⟩
      rw [← hB] at hv
      have hj := (List.getElem?_eq_some_iff.1 hv).1
      rw [hcell j (by omega)]; exact hv
    · exact ⟨zero16, zero16_ok, fun h => absurd h hi⟩
  obtain ⟨f, hfo⟩ := Classical.axiomOfChoice each
  refine ⟨(List.range len).map f, by simp, fun B hB => ?_, .inr ⟨a', rfl, fun i B hB => ?_⟩⟩
  · obtain ⟨i, _, rfl⟩ := List.mem_map.1 hB
    exact (hfo i).1
  · have hi : i < len := by have := (List.getElem?_eq_some_iff.1 hB).1; simpa using this
    rw [List.getElem?_map, List.getElem?_range hi] at hB
    rw [← Option.some.inj hB]
    exact (hfo i).2 hi

end Go.Sh

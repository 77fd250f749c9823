/- Texts of this claim, put together: Mac, None, Code, Expand, Again, Stretch, StrA, Bld, Hex, B64, Vecs -/
import Derived.Test.YtgmdbhckccmhjaaDoorAllLawmoekla
import Derived.Test.YtgmdbhckccmhjaaDoorAllFwnapiji
import Derived.Lib.UnsafeStr
/- HMAC of package digest: a key is taken in; its code is told. -/
set_option linter.unusedVariables false
namespace Go.Fw
/-- a struct of two fields is built of them -/
theorem built_two {P : Program} {t : TypeId} {it : TypeInfo} {f0 f1 : Field} {z : Value} (h1 : P.info? t = some it) (h2 : P.underlying t = some (.struct #[f0, f1])) (h3 : it.zero = some z) {i0 i1 : TypeInfo} (h4 : P.info? f0.type = some i0) (h5 : P.info? f1.type = some i1) (h6 : f0.offset = 0) (h7 : f1.offset = i0.size)
    {vs us : List Value} (h8 : vs.length = i0.size) (h9 : us.length = i1.size) (h10 : z.cells.size = i0.size + i1.size) :
    P.built t [(0, .agg vs.toArray), (1, .agg us.toArray)] = some (vs ++ us).toArray := by
  unfold Program.built
  simp only [h1, h2, h3]
  simp only [List.mapM_cons, List.mapM_nil, h4, h5, Option.map_some, Option.bind_eq_bind, Option.bind_some, Option.pure_def, h6, h7]
  unfold Instr.fill
  have c : (Value.agg vs.toArray).cells = vs.toArray := rfl
  have c2 : (Value.agg us.toArray).cells = us.toArray := rfl
  simp only [c]
  have e0 : (#[((0 : Nat), i0.size), (i0.size, i1.size)] : Array (Nat × Nat))[0]? = some (0, i0.size) := rfl
  have e1 : (#[((0 : Nat), i0.size), (i0.size, i1.size)] : Array (Nat × Nat))[1]? = some (i0.size, i1.size) := rfl
  rw [e0]
  dsimp only
  have hz : z.cells.toList.length = z.cells.size := Array.length_toList
  have a1 := fold_seg vs 0 0 z.cells (by omega)
  have hs1 : (vs.zipIdx.foldl (fun cs p => cs.setIfInBounds (0 + p.2) p.1) z.cells).size = z.cells.size := by
    have := congrArg List.length a1
    rw [seg_length (by omega)] at this
    simpa using this
  rw [if_neg (by simp [h8, h10])]
  unfold Instr.fill
  simp only [c2]
  rw [e1]
  dsimp only
  have fe : ∀ (a : Array Value) (l : List Value) (o : Nat), l.toArray.zipIdx.foldl (fun cs (p : Value × Nat) => cs.setIfInBounds (o + p.2) p.1) a = l.zipIdx.foldl (fun cs p => cs.setIfInBounds (o + p.2) p.1) a := by
    intro a l o
    rw [← Array.foldl_toList, Array.toList_zipIdx]
  have hs2 : (vs.toArray.zipIdx.foldl (fun cs (p : Value × Nat) => cs.setIfInBounds (0 + p.2) p.1) z.cells).size = z.cells.size := by rw [fe]; exact hs1
  rw [if_neg (by simp only [List.size_toArray, h9, hs2, h10]; simp)]
  unfold Instr.fill
  congr 1
  rw [fe, fe]
  apply Array.ext'
  have a2 := fold_seg us 0 i0.size (vs.zipIdx.foldl (fun cs p => cs.setIfInBounds (0 + p.2) p.1) z.cells) (by omega)
  refine Eq.trans a2 ?_
  rw [a1]
  unfold seg
  simp only [List.take_zero, List.nil_append, Nat.zero_add, Nat.add_zero]
  have : (z.cells.toList.drop vs.length).length = us.length := by rw [List.length_drop]; omega
  rw [← h8, List.take_left, List.drop_append, List.drop_eq_nil_of_le (show vs.length ≤ vs.length + us.length by omega)]
  rw [List.drop_eq_nil_of_le (by rw [List.length_drop]; omega)]
  simp
end Go.Fw
namespace Go.Sh
open Go.Fw Go.Sha Go.RowKit Go.Proofs.Tryd

theorem built89 {a b : List Value} (ha : a.length = 142) (hb : b.length = 142) : prog.built 89 [(0, (.agg a.toArray)), (1, (.agg b.toArray))] = some (a ++ b).toArray :=
  built_two (P := prog) (t := 89) (it := t89) (f0 := { name := "inner", type := 87, offset := 0, embedded := false, tag := "", pkgPath := "coffer/digest", byteOffset := 0 }) (f1 := { name := "outer", type := 87, offset := 142, embedded := false, tag := "", pkgPath := "coffer/digest", byteOffset := 240 }) (z := .agg z89)
    (by kernel_rfl) (by kernel_rfl) (by kernel_rfl) (i0 := t87) (i1 := t87) (by kernel_rfl) (by kernel_rfl) rfl (by kernel_rfl) (by rw [ha]; kernel_rfl) (by rw [hb]; kernel_rfl) (by kernel_rfl)

/-- every byte with a number -/
def xorB (c : Int) (l : List Int) : List Int := l.map fun x => bits .xor .u8 x c
/-- a key with zeros behind it, a block's bytes in all -/
def padK (h : Int) (l : List Int) : List Int := l ++ List.replicate (blk h - l.length) 0
/-- a key, or its digest, if it is longer than a block -/
def keyH (C S : List Int) (h : Int) (ks : List Int) : List Int := if ks.length > blk h then digestOf h C (firstH S h) ks else ks
def ipad (C S : List Int) (h : Int) (ks : List Int) : List Int := xorB 54 (padK h (keyH C S h ks))
def opad (C S : List Int) (h : Int) (ks : List Int) : List Int := xorB 92 (padK h (keyH C S h ks))
/-- the code of bytes under a key -/
def macOf (C S : List Int) (h : Int) (ks xs : List Int) : List Int := digestOf h C (firstH S h) (opad C S h ks ++ digestOf h C (firstH S h) (ipad C S h ks ++ xs))
/-- .. nothing of no such digest -/
def codeOf (C S : List Int) (h : Int) (ks xs : List Int) : List Int := if known h = true then macOf C S h ks xs else []

theorem xorB_len (c : Int) (l : List Int) : (xorB c l).length = l.length := List.length_map ..
theorem xorB_in {c : Int} (hc : InK .u8 c) {l : List Int} (h : ∀ x ∈ l, InK .u8 x) : ∀ x ∈ xorB c l, InK .u8 x := by
  intro x hx
  obtain ⟨y, hy, rfl⟩ := List.mem_map.1 hx
  exact InK.xor rfl (h y hy) hc
theorem in54 : InK .u8 54 := ⟨by decide, by decide⟩
theorem in92 : InK .u8 92 := ⟨by decide, by decide⟩
theorem in0 : InK .u8 0 := ⟨by decide, by decide⟩
theorem padK_in {h : Int} {l : List Int} (hl : ∀ x ∈ l, InK .u8 x) : ∀ x ∈ padK h l, InK .u8 x := by
  intro x hx
  rcases List.mem_append.1 hx with hx | hx
  · exact hl x hx
  · rw [(List.mem_replicate.1 hx).2]; exact in0
theorem digestOf_lt {h : Int} (hk : known h = true) (C H0 xs : List Int) : (digestOf h C H0 xs).length ≤ blk h := by
  have := digestOf_len h C H0 xs
  have := known_blk hk
  omega
theorem keyH_len {h : Int} (hk : known h = true) (C S ks : List Int) : (keyH C S h ks).length ≤ blk h := by
  unfold keyH; split
  · exact digestOf_lt hk ..
  · omega
theorem keyH_in {h : Int} (C S : List Int) {ks : List Int} (hl : ∀ x ∈ ks, InK .u8 x) : ∀ x ∈ keyH C S h ks, InK .u8 x := by
  unfold keyH; split
  · exact digestOf_in h C _ ks
  · exact hl
theorem padK_len {h : Int} {l : List Int} (hl : l.length ≤ blk h) : (padK h l).length = blk h := by
  unfold padK; rw [List.length_append, List.length_replicate]; omega
theorem ipad_len {h : Int} (hk : known h = true) (C S ks : List Int) : (ipad C S h ks).length = blk h := by unfold ipad; rw [xorB_len, padK_len (keyH_len hk ..)]
theorem opad_len {h : Int} (hk : known h = true) (C S ks : List Int) : (opad C S h ks).length = blk h := by unfold opad; rw [xorB_len, padK_len (keyH_len hk ..)]
theorem ipad_in {h : Int} (C S : List Int) {ks : List Int} (hl : ∀ x ∈ ks, InK .u8 x) : ∀ x ∈ ipad C S h ks, InK .u8 x := xorB_in in54 (padK_in (keyH_in C S hl))
theorem opad_in {h : Int} (C S : List Int) {ks : List Int} (hl : ∀ x ∈ ks, InK .u8 x) : ∀ x ∈ opad C S h ks, InK .u8 x := xorB_in in92 (padK_in (keyH_in C S hl))

/-! ### A digest in the midst, in a row of cells -/

theorem st_mk {w : World} {e : TypeId} {g : Nat} {pre post : List Value} {h : Int} {cnt : Nat} {H half : List Int} (hH : H.length = 8) (hh : half.length = 128) (hi : ∀ x ∈ half, InK .u8 x) {o : Nat} (ho : pre.length = o)
    (hb : Bk e w g (pre ++ stCells h cnt H half ++ post)) : StAt w e g o (pre ++ stCells h cnt H half ++ post) h cnt H half := by
  have hl := stCells_len h cnt hH hh
  refine ⟨?_, by rw [List.length_append, List.length_append]; omega, hH, hh, hi⟩
  have : seg (pre ++ stCells h cnt H half ++ post) o (stCells h cnt H half) = pre ++ stCells h cnt H half ++ post := by
    unfold seg
    subst ho
    have e1 : (pre ++ stCells h cnt H half ++ post).take pre.length = pre := by rw [List.append_assoc, List.take_left]
    have e2 : (pre ++ stCells h cnt H half ++ post).drop (pre.length + (stCells h cnt H half).length) = post := by rw [← List.length_append, List.drop_left]
    rw [e1, e2]
  rw [this]; exact hb

theorem StAt.cells {w : World} {e : TypeId} {g o : Nat} {pre old post : List Value} {h : Int} {cnt : Nat} {H half : List Int} (s : StAt w e g o (pre ++ old ++ post) h cnt H half) (ho : pre.length = o) (hl : old.length = 142) : Bk e w g (pre ++ stCells h cnt H half ++ post) := by
  have hsl := stCells_len h cnt s.words s.len
  have : seg (pre ++ old ++ post) o (stCells h cnt H half) = pre ++ stCells h cnt H half ++ post := by
    unfold seg
    subst ho
    have e1 : (pre ++ old ++ post).take pre.length = pre := by rw [List.append_assoc, List.take_left]
    have e2 : (pre ++ old ++ post).drop (pre.length + (stCells h cnt H half).length) = post := by rw [hsl, ← hl, ← List.length_append, List.drop_left]
    rw [e1, e2]
  rw [← this]; exact s.bk

theorem _root_.Go.Sha.Fed.H8 {h : Int} {C S xs H half : List Int} (f : Fed h C (firstH S h) xs H half) : H.length = 8 := by rw [f.words]; exact compsH_len _ _ _ _ _ (firstH_len S h)

/-- the cells of a digest that was fed -/
structure StC (C S : List Int) (h : Int) (xs : List Int) (cs : List Value) : Prop where
  ex : ∃ H half, cs = stCells h xs.length H half ∧ Fed h C (firstH S h) xs H half ∧ ∀ x ∈ half, InK .u8 x

theorem StC.len {C S : List Int} {h : Int} {xs : List Int} {cs : List Value} (s : StC C S h xs cs) : cs.length = 142 := by
  obtain ⟨H, half, rfl, f, _⟩ := s.ex
  exact stCells_len _ _ f.H8 f.len
theorem StC.one {C S : List Int} {h : Int} {xs : List Int} {cs : List Value} (s : StC C S h xs cs) : ∀ v ∈ cs, v.oneCell' = true := by
  obtain ⟨H, half, rfl, f, _⟩ := s.ex
  exact stCells_one _ _ _ _
theorem StC.start (C S : List Int) (h : Int) : StC C S h [] (stCells h 0 (firstH S h) half0) := ⟨_, _, rfl, Fed.start .., half0_in⟩

/-- take, on cells -/
theorem take_cells {K : Nat} (hK : 18446744073709551616 ≤ K) {w : World} {e : TypeId} {g o : Nat} {pre old post : List Value} {h : Int} (hk : known h = true) {C S xs ys : List Int} (T : Tabs w C S) (s : StC C S h xs old) (hb : Bk e w g (pre ++ old ++ post)) (ho : pre.length = o) (hg : 4 ≤ g)
    {b : Sl} (hy : ∀ x ∈ ys, InK .u8 x) (hlim : xs.length + ys.length ≤ 140737488355328) (hx : Src w b (ints .u8 ys)) (hbg : ∀ p, b.a = some p → p.block ≠ g) (hbv : ∀ p, b.a = some p → p.block < w.heap.size) :
    ∃ w' cs', digest_state_take K (some ⟨g, o, none⟩) b w = some ((), w') ∧ Bk e w' g (pre ++ cs' ++ post) ∧ StC C S h (xs ++ ys) cs' ∧ Upd (· = g) w w' := by
  have hol := s.len
  obtain ⟨H, half, rfl, f, hi⟩ := s.ex
  have st := st_mk f.H8 f.len hi ho hb
  obtain ⟨w', H', half', h1, h2, h3, h4⟩ := take_ok hK hk st f T.cl (show g ≠ 2 by omega) T.gc hy hlim hx hbg hbv
  exact ⟨w', _, h1, h2.cells ho hol, ⟨H', half', rfl, h3, h2.inn⟩, h4⟩

/-- end, on cells -/
theorem end_cells {K : Nat} (hK : 18446744073709551616 ≤ K) {w : World} {h : Int} (hk : known h = true) {C S xs : List Int} {cs : List Value} (T : Tabs w C S) (s : StC C S h xs cs) (hlim : xs.length ≤ 1099511627776) :
    ∃ s' w', digest_state_end K cs.toArray w = some ((s', ()), w') ∧ Ans w.heap.size w' s' (digestOf h C (firstH S h) xs) ∧ Upd none_ w w' := by
  obtain ⟨H, half, rfl, f, hi⟩ := s.ex
  exact end_ok hK hk f f.H8 hi T.cl T.gc hlim

/-! ### The key -/

def mx (c : Int) (xs : List Int) (i : Nat) : List Int := xorB c (xs.take i) ++ xs.drop i

theorem mx_len (c : Int) (xs : List Int) (i : Nat) : (mx c xs i).length = xs.length := by
  unfold mx; rw [List.length_append, xorB_len, List.length_take, List.length_drop]; omega
theorem mx_zero (c : Int) (xs : List Int) : mx c xs 0 = xs := by unfold mx xorB; rw [List.take_zero, List.map_nil, List.nil_append, List.drop_zero]
theorem mx_at (c : Int) {xs : List Int} {i : Nat} (hi : i < xs.length) : (mx c xs i)[i]? = some (xs.getD i 0) := by
  unfold mx
  have hl : (xorB c (xs.take i)).length = i := by rw [xorB_len, List.length_take]; omega
  rw [List.getElem?_append_right (by omega), hl, Nat.sub_self, List.getElem?_drop, Nat.add_zero, List.getD_eq_getElem?_getD, List.getElem?_eq_getElem hi]; rfl
theorem mx_set (c : Int) {xs : List Int} {i : Nat} (hi : i < xs.length) : (mx c xs i).set i (bits .xor .u8 (xs.getD i 0) c) = mx c xs (i + 1) := by
  unfold mx
  have hl : (xorB c (xs.take i)).length = i := by rw [xorB_len, List.length_take]; omega
  rw [List.set_append_right _ _ (by omega), hl, Nat.sub_self, drop_getD hi 0, List.set_cons_zero, take_succ_getD hi 0]
  unfold xorB
  rw [List.map_append, List.append_assoc]; rfl

theorem key_l1 {K : Nat} {a4 s6 m9 : Addr} {e : TypeId} {gi go : Nat} (hne : gi ≠ go) {xs ys : List Int} (hx : xs.length = 128) (hy : ys.length = 128) :
    ∀ (d i n : Nat) (w : World), i + d = 128 → d < n → Bk e w gi (ints .u8 (mx 54 xs i)) → Bk e w go (ints .u8 (mx 92 ys i)) →
      ∃ w', digest_key_l1 K n a4 s6 m9 ⟨gi, 0, none⟩ ⟨go, 0, none⟩ (i : Int) w = some ((), w') ∧ Bk e w' gi (ints .u8 (xorB 54 xs)) ∧ Bk e w' go (ints .u8 (xorB 92 ys)) ∧ Upd (fun k => k = gi ∨ k = go) w w' := by
  intro d
  induction d with
  | zero =>
    intro i n w hi hn hb hc
    obtain ⟨n, rfl⟩ : ∃ m, n = m + 1 := ⟨n - 1, by omega⟩
    have e1 : mx 54 xs i = xorB 54 xs := by unfold mx; rw [List.take_of_length_le (by omega), List.drop_eq_nil_of_le (by omega), List.append_nil]
    have e2 : mx 92 ys i = xorB 92 ys := by unfold mx; rw [List.take_of_length_le (by omega), List.drop_eq_nil_of_le (by omega), List.append_nil]
    have hd : decide ((i : Int) < 128) = false := by simp; omega
    refine ⟨w, ?_, e1 ▸ hb, e2 ▸ hc, Upd.refl _ _⟩
    have eu : digest_key_l1 K (n + 1) = digest_key_l1_b K (digest_key_l1 K n) := rfl
    rw [eu]
    unfold digest_key_l1_b
    rw [hd, if_neg (by decide)]
  | succ d ih =>
    intro i n w hi hn hb hc
    obtain ⟨n, rfl⟩ : ∃ m, n = m + 1 := ⟨n - 1, by omega⟩
    have hd : decide ((i : Int) < 128) = true := by simp; omega
    have c : (0 : Int) ≤ (i : Int) ∧ (i : Int) < ((128 : Nat) : Int) := by omega
    have e1 : IntKind.i64.wrap ((i : Int) + 1) = ((i + 1 : Nat) : Int) := by rw [w64 (by omega) (by omega)]; rfl
    have l1 : ldI .u8 ⟨gi, i, none⟩ w = some (xs.getD i 0) := hb.ldI (by simp only [ints, List.getElem?_map, mx_at 54 (show i < xs.length by omega)]; rfl)
    obtain ⟨w1, s1, b1, u1⟩ := hb.stC (i := i) (by rw [ints_length, mx_len]; omega) (.int .u8 (bits .xor .u8 (xs.getD i 0) 54))
    rw [ints_set, mx_set 54 (by omega)] at b1
    have hc1 := hc.upd u1 (fun e => hne e.symm)
    have l2 : ldI .u8 ⟨go, i, none⟩ w1 = some (ys.getD i 0) := hc1.ldI (by simp only [ints, List.getElem?_map, mx_at 92 (show i < ys.length by omega)]; rfl)
    obtain ⟨w2, s2, b2, u2⟩ := hc1.stC (i := i) (by rw [ints_length, mx_len]; omega) (.int .u8 (bits .xor .u8 (ys.getD i 0) 92))
    rw [ints_set, mx_set 92 (by omega)] at b2
    obtain ⟨w3, h3, b3, c3, u3⟩ := ih (i + 1) n w2 (by omega) (by omega) (b1.upd u2 hne) b2
    refine ⟨w3, ?_, b3, c3, ((u1.trans u2).mono fun k _ e => e).trans' u3 fun _ _ e => e⟩
    have eu : digest_key_l1 K (n + 1) = digest_key_l1_b K (digest_key_l1 K n) := rfl
    rw [eu]
    unfold digest_key_l1_b
    rw [hd, if_pos rfl, if_pos c, Int.toNat_natCast, Nat.mul_one, add_lit, add_lit, Nat.zero_add, l1, Option.bind_some, if_pos c, s1, Option.bind_some, if_pos c, l2, Option.bind_some, if_pos c, s2, Option.bind_some, e1, h3]

/-- what a key is made to: two digests -/
structure KdC (C S : List Int) (h : Int) (ks xs : List Int) (cs : List Value) : Prop where
  ex : ∃ a b, cs = a ++ b ∧ StC C S h (ipad C S h ks ++ xs) a ∧ StC C S h (opad C S h ks) b

theorem KdC.len {C S : List Int} {h : Int} {ks xs : List Int} {cs : List Value} (s : KdC C S h ks xs cs) : cs.length = 284 := by
  obtain ⟨a, b, rfl, ha, hb⟩ := s.ex
  rw [List.length_append, ha.len, hb.len]
theorem KdC.one {C S : List Int} {h : Int} {ks xs : List Int} {cs : List Value} (s : KdC C S h ks xs cs) : ∀ v ∈ cs, v.oneCell' = true := by
  obtain ⟨a, b, rfl, ha, hb⟩ := s.ex
  intro v hv
  exact (List.mem_append.1 hv).elim (ha.one v) (hb.one v)

theorem z85_eq : z85.toList = ints .u8 (List.replicate 128 0) := by unfold z85 ints; rw [Array.toList_replicate, List.map_replicate]

theorem seg_zero_copy {ks : List Int} (hk : ks.length ≤ 128) : seg (ints .u8 (List.replicate 128 0)) 0 ((ints .u8 ks).take (min ks.length 128)) = ints .u8 (ks ++ List.replicate (128 - ks.length) 0) := by
  unfold seg
  have e : (ints .u8 ks).take (min ks.length 128) = ints .u8 ks := List.take_of_length_le (by rw [ints_length]; omega)
  have e2 : (ints .u8 (List.replicate 128 0)).drop ks.length = ints .u8 (List.replicate (128 - ks.length) 0) := by
    unfold ints; rw [← List.map_drop, List.drop_replicate]
  rw [e, List.take_zero, List.nil_append, Nat.zero_add, ints_length, ints_append, e2]

theorem pad_front {h : Int} {c : Int} {kk : List Int} (hl : kk.length ≤ blk h) : (xorB c (kk ++ List.replicate (128 - kk.length) 0)).take (blk h) = xorB c (padK h kk) := by
  have hb := blk_le h
  unfold xorB padK
  rw [← List.map_take, List.take_append, List.take_of_length_le hl, List.take_replicate, Nat.min_eq_left (by omega)]

theorem key_s0_ok {K : Nat} (hK : 18446744073709551616 ≤ K) {h : Int} (hk : known h = true) {C S ks : List Int} {w : World} (T : Tabs w C S) {k : Sl} (hx : Src w k (ints .u8 ks)) (hin : ∀ x ∈ ks, InK .u8 x) (hlim : ks.length ≤ 1099511627776) (hbv : ∀ p, k.a = some p → p.block < w.heap.size)
    {g : Nat} (hb : Bk 87 w g (stCells h 0 (firstH S h) half0)) :
    ∃ k' w', digest_key_s0 K k ⟨g, 0, none⟩ (decide (((k.len : Nat) : Int) > ((blk h : Nat) : Int))) w = some ((k', ()), w') ∧ Src w' k' (ints .u8 (keyH C S h ks)) ∧ (∀ p, k'.a = some p → p.block < w'.heap.size) ∧ Upd none_ w w' := by
  have hkl : k.len = ks.length := by rw [hx.len, ints_length]
  unfold keyH
  by_cases hl : ks.length > blk h
  · have hd : decide (((k.len : Nat) : Int) > ((blk h : Nat) : Int)) = true := by rw [hkl]; simp only [decide_eq_true_eq]; omega
    have hcl := stCells_len h 0 (firstH_len S h) (List.length_replicate (n := 128) (a := (0 : Int)))
    have lA := hb.ldA (i := 0) (n := 142) (by rw [hcl]; decide)
    rw [List.drop_zero, List.take_of_length_le (by rw [hcl]; decide)] at lA
    obtain ⟨w1, n1, b1, u1, z1⟩ := newB_ok z87 87 w
    obtain ⟨w2, s2, b2, u2, l2⟩ := lay b1 (vs := stCells h 0 (firstH S h) half0) (by rw [hcl]; rfl) (stCells_one _ _ _ _)
    have q2 : Upd none_ w w2 := u1.trans' u2 fun k hk e => by omega
    have h4 := T.lt
    have hs1 := u1.size
    obtain ⟨w3, cs3, h3, b3, st3, u3⟩ := take_cells hK hk (pre := []) (post := []) (o := 0) (ys := ks) (T.upd0 q2) (StC.start C S h) (by rw [List.nil_append, List.append_nil]; exact b2) rfl (by omega) hin (by simp; omega) (hx.upd0 q2) (fun p hp e => by have := hbv p hp; omega) (fun p hp => by have := hbv p hp; have := q2.size; omega)
    rw [List.nil_append, List.append_nil] at b3
    rw [List.nil_append] at st3
    have q3 : Upd none_ w w3 := q2.trans' u3 fun k hk e => by omega
    have lB := b3.ldA (i := 0) (n := 142) (by rw [st3.len]; decide)
    rw [List.drop_zero, List.take_of_length_le (by rw [st3.len]; decide)] at lB
    obtain ⟨s4, w4, h4', a4, u4⟩ := end_cells hK hk (T.upd0 q3) st3 hlim
    refine ⟨s4, w4, ?_, ?_, lt_of_blk fun k hk => a4.lt hk, q3.and0 u4⟩
    · unfold digest_key_s0
      rw [hd, if_pos rfl, lA, Option.bind_some, n1, bnd_ok, if_pos (by rw [List.size_toArray, hcl]), s2, Option.bind_some, h3, bnd_ok, lB, Option.bind_some, h4', bnd_ok]
    · rw [if_pos hl]; exact a4.src
  · have hd : decide (((k.len : Nat) : Int) > ((blk h : Nat) : Int)) = false := by rw [hkl]; simp only [decide_eq_false_iff_not]; omega
    refine ⟨k, w, ?_, by rw [if_neg hl]; exact hx, hbv, Upd.refl _ _⟩
    unfold digest_key_s0
    rw [hd, if_neg (by decide)]

theorem key_ok {K : Nat} (hK : 18446744073709551616 ≤ K) {h : Int} (hk : known h = true) {C S ks : List Int} {w : World} (T : Tabs w C S) {k : Sl} (hx : Src w k (ints .u8 ks)) (hin : ∀ x ∈ ks, InK .u8 x) (hlim : ks.length ≤ 1099511627776) (hbv : ∀ p, k.a = some p → p.block < w.heap.size) :
    ∃ cs w', digest_key K h k w = some ((cs.toArray, true, ()), w') ∧ KdC C S h ks [] cs ∧ Upd none_ w w' := by
  have h4 := T.lt
  have hbk := blk_le h
  obtain ⟨w1, n1, b1, u1, z1⟩ := newB_ok z89 89 w
  have b1 : Bk 89 w1 w.heap.size z89.toList := b1
  have T1 := T.upd0 u1
  obtain ⟨w2, h2, u2⟩ := begin_ok hK h T1.sl T1.sin T1.gs
  rw [hk] at h2
  have hcl := stCells_len h 0 (firstH_len S h) (List.length_replicate (n := 128) (a := (0 : Int)))
  obtain ⟨w3, n3, b3, u3, z3⟩ := newB_ok z87 87 w2
  obtain ⟨w4, s4, b4, u4, l4⟩ := lay b3 (vs := stCells h 0 (firstH S h) half0) (by rw [hcl]; rfl) (stCells_one _ _ _ _)
  rw [hcl] at l4
  have hs1 := u1.size
  have hs2 := u2.size
  have hs3 := u3.size
  have q4 : Upd none_ w w4 := ((u1.and0 u2).and0 u3).trans' u4 fun k hk e => by omega
  have hs4 := q4.size
  have hs34 := u4.size
  have T4 := T.upd0 q4
  have st4 : StAt w4 87 w2.heap.size 0 (stCells h 0 (firstH S h) half0) h 0 (firstH S h) half0 := by
    have := st_mk (pre := []) (post := []) (w := w4) (e := 87) (g := w2.heap.size) (h := h) (cnt := 0) (firstH_len S h) (List.length_replicate (n := 128) (a := (0 : Int))) half0_in (o := 0) rfl (by rw [List.nil_append, List.append_nil]; exact b4)
    rw [List.nil_append, List.append_nil] at this
    exact this
  obtain ⟨m1, _, _⟩ := st4.ld hk
  obtain ⟨kk, w5, h5, sk, vk, u5⟩ := key_s0_ok hK hk T4 (hx.upd0 q4) hin hlim (fun p hp => by have := hbv p hp; omega) b4
  have hs5 := u5.size
  have b5 := b4.upd0 u5
  have l5 : ldA 142 ⟨w2.heap.size, 0, none⟩ w5 = some (stCells h 0 (firstH S h) half0).toArray := by
    have := b5.ldA (i := 0) (n := 142) (by rw [hcl]; decide)
    rw [List.drop_zero, List.take_of_length_le (by rw [hcl]; decide)] at this
    exact this
  obtain ⟨w6, n6, b6, u6, z6⟩ := newB_ok z89 89 w5
  have hc2 : (stCells h 0 (firstH S h) half0 ++ stCells h 0 (firstH S h) half0).length = 284 := by rw [List.length_append, hcl]
  obtain ⟨w7, s7, b7, u7, _⟩ := lay b6 (vs := stCells h 0 (firstH S h) half0 ++ stCells h 0 (firstH S h) half0) (by rw [hc2]; kernel_rfl) (fun v hv => (List.mem_append.1 hv).elim (stCells_one _ _ _ _ v) (stCells_one _ _ _ _ v))
  have hs6 := u6.size
  have hs7 := u7.size
  obtain ⟨w8, n8, b8, u8, z8⟩ := newB_ok z85 85 w7
  obtain ⟨w9, n9, b9, u9, z9⟩ := newB_ok z85 85 w8
  have hs8 := u8.size
  have hs9 := u9.size
  have b8 : Bk 85 w8 w7.heap.size z85.toList := b8
  have b9 : Bk 85 w9 w8.heap.size z85.toList := b9
  rw [z85_eq] at b8 b9
  have hkl := keyH_len hk C S ks
  have hkkl : kk.len = (keyH C S h ks).length := by rw [sk.len, ints_length]
  have q57 : Upd none_ w5 w7 := u6.trans' u7 fun k hk e => by have e : k = w5.heap.size := e; omega
  have q59 := (q57.and0 u8).and0 u9
  have sk9 := sk.upd0 q59
  obtain ⟨w10, h10, b10, u10⟩ := cpy_ok sk9 (o := 0) (dLen := 128) (dCap := 128) (b8.upd0 u9) (by rw [ints_length, List.length_replicate]; omega)
  rw [hkkl, seg_zero_copy (by omega)] at b10
  have sk10 := sk9.upd u10 fun p hp e => by have := vk p hp; omega
  obtain ⟨w11, h11, b11, u11⟩ := cpy_ok sk10 (o := 0) (dLen := 128) (dCap := 128) (b9.upd u10 (by omega)) (by rw [ints_length, List.length_replicate]; omega)
  rw [hkkl, seg_zero_copy (by omega)] at b11
  have hs10 := u10.size
  have hs11 := u11.size
  have hpl : (keyH C S h ks ++ List.replicate (128 - (keyH C S h ks).length) 0).length = 128 := by rw [List.length_append, List.length_replicate]; omega
  obtain ⟨w12, h12, b12, c12, u12⟩ := key_l1 (K := K) (a4 := ⟨w.heap.size, 0, none⟩) (s6 := ⟨w2.heap.size, 0, none⟩) (m9 := ⟨w5.heap.size, 0, none⟩) (gi := w7.heap.size) (go := w8.heap.size) (by omega) hpl hpl 128 0 K w11 rfl (by omega)
    (by rw [mx_zero]; exact b10.upd u11 (by omega)) (by rw [mx_zero]; exact b11)
  have hs12 := u12.size
  have h12 : digest_key_l1 K K ⟨w.heap.size, 0, none⟩ ⟨w2.heap.size, 0, none⟩ ⟨w5.heap.size, 0, none⟩ ⟨w7.heap.size, 0, none⟩ ⟨w8.heap.size, 0, none⟩ 0 w11 = _ := h12
  have q59' : Upd none_ w w9 := (q4.and0 u5).and0 q59
  have q12 : Upd none_ w w12 := ((q59'.trans' u10 fun k hk e => by omega).trans' u11 fun k hk e => by omega).trans' u12 fun k hk e => by omega
  have q912 : Upd (fun k => k = w7.heap.size ∨ k = w8.heap.size) w9 w12 := ((u10.mono fun k _ e => .inl e).trans' (u11.mono (T := fun k => k = w7.heap.size ∨ k = w8.heap.size) fun k _ e => .inr e) fun _ _ e => e).trans' u12 fun _ _ e => e
  have st12 := ((st4.upd u5 id).upd q59 id).upd q912 (by omega)
  obtain ⟨m12, _, _⟩ := st12.ld hk
  have b7' : Bk 89 w12 w5.heap.size (stCells h 0 (firstH S h) half0 ++ stCells h 0 (firstH S h) half0) := ((b7.upd0 u8).upd0 u9).upd q912 (by omega)
  have T12 := T.upd0 q12
  have hsrc : ∀ {c : Int} {g : Nat} {w' : World}, Bk 85 w' g (ints .u8 (xorB c (keyH C S h ks ++ List.replicate (128 - (keyH C S h ks).length) 0))) → Src w' ⟨some ⟨g, 0, none⟩, blk h, 128⟩ (ints .u8 (xorB c (padK h (keyH C S h ks)))) := by
    intro c g w' hb
    rw [← pad_front hkl, ← ints_take]
    refine ⟨by rw [List.length_take, ints_length, xorB_len, hpl]; exact (Nat.min_eq_left hbk).symm, hbk, .inr ⟨_, rfl, hb.rd 0 _ fun i v hv => ?_⟩, fun v hv => ints_one v (List.mem_of_mem_take hv)⟩
    rw [List.getElem?_take] at hv
    split at hv
    · rw [Nat.zero_add]; exact hv
    · cases hv
  obtain ⟨w13, ci, h13, b13, st13, u13⟩ := take_cells hK hk (pre := []) (post := stCells h 0 (firstH S h) half0) (o := 0) (ys := ipad C S h ks) T12 (StC.start C S h) (by rw [List.nil_append]; exact b7') rfl (by omega) (ipad_in C S hin) (by rw [ipad_len hk]; simp; omega) (hsrc b12)
    (fun p hp e => by have e1 : p = ⟨w7.heap.size, 0, none⟩ := by simpa using hp.symm
                      rw [e1] at e; simp at e; omega) (fun p hp => by have e1 : p = ⟨w7.heap.size, 0, none⟩ := by simpa using hp.symm
                                                                      rw [e1]; exact b12.lt)
  rw [List.nil_append] at b13 st13
  have hs13 := u13.size
  have q13 : Upd none_ w w13 := q12.trans' u13 fun k hk e => by omega
  obtain ⟨m13, _, _⟩ := (st12.upd u13 (by omega)).ld hk
  obtain ⟨w14, co, h14, b14, st14, u14⟩ := take_cells hK hk (pre := ci) (post := []) (o := 142) (ys := opad C S h ks) (T.upd0 q13) (StC.start C S h) (by rw [List.append_nil]; exact b13) st13.len (by omega) (opad_in C S hin) (by rw [opad_len hk]; simp; omega) (hsrc (c12.upd u13 (by omega)))
    (fun p hp e => by have e1 : p = ⟨w8.heap.size, 0, none⟩ := by simpa using hp.symm
                      rw [e1] at e; simp at e; omega) (fun p hp => by have e1 : p = ⟨w8.heap.size, 0, none⟩ := by simpa using hp.symm
                                                                      rw [e1]; have := c12.lt; show w8.heap.size < w13.heap.size; omega)
  rw [List.append_nil] at b14
  rw [List.nil_append] at st14
  have kd : KdC C S h ks [] (ci ++ co) := ⟨ci, co, rfl, by rw [List.append_nil]; exact st13, st14⟩
  have hs14 := u14.size
  have l14 := b14.ldA (i := 0) (n := 284) (by rw [kd.len]; decide)
  rw [List.drop_zero, List.take_of_length_le (by rw [kd.len]; decide)] at l14
  have b1' : Bk 89 w14 w.heap.size z89.toList := ((((((b1.upd0 u2).upd0 u3).upd u4 (by omega)).upd0 u5).upd0 q59).upd q912 (by omega)).upd (u13.trans' u14 fun _ _ e => e) (by omega)
  obtain ⟨w15, s15, b15, u15, l15⟩ := lay b1' (vs := ci ++ co) (by rw [kd.len]; kernel_rfl) kd.one
  rw [kd.len] at l15
  refine ⟨ci ++ co, w15, ?_, kd, (q13.trans' u14 fun k hk e => by omega).trans' u15 fun k hk e => by omega⟩
  have cb : (0 : Int) ≤ ((blk h : Nat) : Int) ∧ ((blk h : Nat) : Int) ≤ ((128 : Nat) : Int) := by omega
  unfold digest_key
  rw [n1, bnd_ok, h2, bnd_ok, n3, bnd_ok]
  dsimp only
  rw [if_pos (by rw [List.size_toArray, hcl]), s4, Option.bind_some, if_neg (by decide)]
  simp only [add_lit, Nat.zero_add, Nat.add_zero, sla_zero, Nat.sub_zero] at m1 m12 m13 ⊢
  rw [m1, Option.bind_some, h5, bnd_ok, l5, Option.bind_some, Option.bind_some, built89 hcl hcl, Option.bind_some, n6, bnd_ok, if_pos (by rw [List.size_toArray, hc2]), s7, Option.bind_some, n8, bnd_ok, n9, bnd_ok, h10, bnd_ok, h11, bnd_ok, h12, bnd_ok, m12, Option.bind_some, if_pos cb, Int.toNat_natCast, add_lit, Nat.add_zero, h13, bnd_ok, m13, Option.bind_some, if_pos cb, Int.toNat_natCast, add_lit, Nat.zero_add, h14, bnd_ok, l14, Option.bind_some, if_pos (by rw [List.size_toArray, kd.len]), s15, Option.bind_some, l15, Option.bind_some]

/-- its code -/
theorem keyedEnd_ok {K : Nat} (hK : 18446744073709551616 ≤ K) {h : Int} (hk : known h = true) {C S ks xs : List Int} {w : World} (T : Tabs w C S) {cs : List Value} (kd : KdC C S h ks xs cs) (hlim : xs.length ≤ 549755813888) :
    ∃ s' w', digest_keyed_end K cs.toArray w = some ((s', ()), w') ∧ Ans w.heap.size w' s' (macOf C S h ks xs) ∧ Upd none_ w w' := by
  have h4 := T.lt
  have hcl := kd.len
  obtain ⟨a, b, rfl, ha, hb⟩ := kd.ex
  have hbk := blk_le h
  obtain ⟨w1, n1, b1, u1, z1⟩ := newB_ok (a ++ b).toArray 89 w
  have b1 : Bk 89 w1 w.heap.size (a ++ b) := b1
  have l1 := b1.ldA (i := 0) (n := 142) (by rw [hcl]; decide)
  rw [List.drop_zero, List.take_append_of_le_length (by rw [ha.len]; decide), List.take_of_length_le (by rw [ha.len]; decide)] at l1
  obtain ⟨s2, w2, h2, a2, u2⟩ := end_cells hK hk (T.upd0 u1) ha (by rw [List.length_append, ipad_len hk]; omega)
  have hs1 := u1.size
  have hs2 := u2.size
  obtain ⟨w3, co, h3, b3, st3, u3⟩ := take_cells hK hk (pre := a) (post := []) (o := 142) (ys := digestOf h C (firstH S h) (ipad C S h ks ++ xs)) ((T.upd0 u1).upd0 u2) hb (by rw [List.append_nil]; exact b1.upd0 u2) ha.len (by omega) (digestOf_in h C _ _) (by have := digestOf_len h C (firstH S h) (ipad C S h ks ++ xs); rw [opad_len hk]; omega) a2.src
    (fun p hp e => by have := a2.fresh p.block (by simp [Sl.blk, hp]); omega) (lt_of_blk fun k hk => a2.lt hk)
  rw [List.append_nil] at b3
  have q3 : Upd none_ w w3 := (u1.and0 u2).trans' u3 fun k hk e => by omega
  have l3 := b3.ldA (i := 142) (n := 142) (by rw [List.length_append, ha.len, st3.len]; decide)
  rw [← ha.len, List.drop_left, ha.len, List.take_of_length_le (by rw [st3.len]; decide)] at l3
  have hs3 := u3.size
  obtain ⟨s4, w4, h4', a4, u4⟩ := end_cells hK hk (T.upd0 q3) st3 (by have := digestOf_len h C (firstH S h) (ipad C S h ks ++ xs); rw [List.length_append, opad_len hk]; omega)
  refine ⟨s4, w4, ?_, a4.mono (by omega), q3.and0 u4⟩
  unfold digest_keyed_end
  rw [n1, bnd_ok]
  simp only [add_lit, Nat.zero_add, Nat.add_zero]
  rw [l1, Option.bind_some, h2, bnd_ok, h3, bnd_ok, l3, Option.bind_some, h4', bnd_ok]

end Go.Sh

/- DigestNone: of a nil Stream and a nil Mac. -/
set_option linter.unusedVariables false
namespace Go.Sh
open Go.Fw Go.Sha Go.RowKit Go.Proofs.Tryd

theorem NewMac_none {K : Nat} {h : Int} (hk : known h = false) (k : Sl) (w : World) : ∃ w', digest_NewMac K h k w = some ((none, 10, ()), w') ∧ Upd none_ w w' := by
  obtain ⟨w1, h1, u1⟩ := Size_ok h w
  refine ⟨w1, ?_, u1⟩
  unfold digest_NewMac
  rw [h1, bnd_ok]
  dsimp only
  rw [size_zero, hk, if_pos (show (!false) = true from rfl)]

theorem DigestNone_ok {K : Nat} (hK : 18446744073709551616 ≤ K) {C S : List Int} {w : World} (T : Tabs w C S) :
    ∃ w', law01_DigestNone K w = some ((true, ()), w') ∧ Upd none_ w w' := by
  have hn : (none : Option Addr).isNone = true := rfl
  obtain ⟨w1, h1, o1, u1, z1⟩ := bldS1_ok sliceB (.int .u8 1) rfl w
  obtain ⟨w2, h2, o2, u2, z2⟩ := bldS1_ok sliceSS (.slice (some ⟨w.heap.size, 0, none⟩) 1 1) rfl w1
  have hs0 : law01_DigestNone_s0 K none w = some ((false, ()), w2) := by
    unfold law01_DigestNone_s0 digest_Stream_Hash digest_Stream_Size digest_Stream_Block digest_Stream_Count digest_Stream_Sum digest_Stream_Copy digest_Stream_Write digest_Stream_Reset law01_num
    rw [if_pos hn, Option.bind_some]
    dsimp only
    rw [if_neg (by decide), if_pos hn, Option.bind_some]
    dsimp only
    rw [if_neg (by decide), if_pos hn, Option.bind_some]
    dsimp only
    rw [if_neg (by decide), if_pos hn, Option.bind_some]
    dsimp only
    rw [if_neg (by decide), if_pos hn, bnd_ok]
    dsimp only
    rw [if_neg (by decide), if_pos hn, bnd_ok]
    dsimp only
    rw [if_neg (by decide), h1, bnd_ok]
    dsimp only
    rw [h2, bnd_ok, if_pos hn, bnd_ok, Option.bind_some]
    dsimp only
    rw [if_neg (by decide), if_pos hn, bnd_ok, Option.bind_some]
    rfl
  have hs1 : law01_DigestNone_s1 K none w2 = some ((false, ()), w2) := by
    unfold law01_DigestNone_s1 digest_Mac_Size digest_Mac_Sum digest_Mac_Copy digest_Mac_Write digest_Mac_Reset law01_num
    rw [if_pos hn, Option.bind_some]
    dsimp only
    rw [if_neg (by decide), if_pos hn, bnd_ok]
    dsimp only
    rw [if_neg (by decide), if_pos hn, bnd_ok]
    dsimp only
    rw [if_neg (by decide), if_pos hn, bnd_ok, Option.bind_some]
    dsimp only
    rw [if_neg (by decide), if_pos hn, bnd_ok, Option.bind_some]
    rfl
  have T2 := (T.upd0 u1).upd0 u2
  obtain ⟨w3, g, h3, u3, hg, _⟩ := New_ok hK 0 T2.sl T2.sin T2.gs
  rw [if_neg (by decide), if_neg (by decide)] at h3
  obtain ⟨w4, h4, u4⟩ := NewMac_none (K := K) (h := -256) (by decide) ⟨none, 0, 0⟩ w3
  obtain ⟨w5, h5, u5⟩ := Size_ok 256 w4
  refine ⟨w5, ?_, (((u1.and0 u2).and0 u3).and0 u4).and0 u5⟩
  unfold law01_DigestNone law01_num
  rw [hs0, bnd_ok]
  dsimp only
  rw [if_neg (by decide), hs1, bnd_ok]
  dsimp only
  rw [if_neg (by decide), h3, bnd_ok, h4, bnd_ok]
  dsimp only
  rw [if_pos hn, if_pos hn, Option.bind_some]
  dsimp only
  rw [if_pos (by decide), Option.bind_some]
  dsimp only
  rw [if_pos (by decide), h5, bnd_ok]
  rfl

end Go.Sh

/- Code of package digest and of the document's answer; DigestCodes. -/
set_option linter.unusedVariables false
namespace Go.Sh
open Go.Fw Go.Sha Go.RowKit Go.Proofs.Tryd

theorem built101 {a b : List Value} (ha : a.length = 284) (hb : b.length = 284) : prog.built 101 [(0, (.agg a.toArray)), (1, (.agg b.toArray))] = some (a ++ b).toArray :=
  built_two (P := prog) (t := 101) (it := t101) (f0 := { name := "keyed", type := 89, offset := 0, embedded := true, tag := "", pkgPath := "coffer/digest", byteOffset := 0 }) (f1 := { name := "begun", type := 89, offset := 284, embedded := false, tag := "", pkgPath := "coffer/digest", byteOffset := 480 }) (z := .agg z101)
    (by kernel_rfl) (by kernel_rfl) (by kernel_rfl) (i0 := t89) (i1 := t89) (by kernel_rfl) (by kernel_rfl) rfl (by kernel_rfl) (by rw [ha]; kernel_rfl) (by rw [hb]; kernel_rfl) (by kernel_rfl)

/-- A Mac in a block: what it was fed, and how it began. -/
structure MacAt (w : World) (g : Nat) (C S : List Int) (h : Int) (ks xs : List Int) : Prop where
  ex : ∃ cs cs0, Bk 101 w g (cs ++ cs0) ∧ KdC C S h ks xs cs ∧ KdC C S h ks [] cs0

theorem MacAt.upd {w w' : World} {g : Nat} {C S : List Int} {h : Int} {ks xs : List Int} {X : Nat → Prop} (m : MacAt w g C S h ks xs) (u : Upd X w w') (hn : ¬ X g) : MacAt w' g C S h ks xs := by
  obtain ⟨cs, cs0, h1, h2, h3⟩ := m.ex
  exact ⟨cs, cs0, h1.upd u hn, h2, h3⟩
theorem MacAt.upd0 {w w' : World} {g : Nat} {C S : List Int} {h : Int} {ks xs : List Int} (m : MacAt w g C S h ks xs) (u : Upd none_ w w') : MacAt w' g C S h ks xs := m.upd u id
theorem MacAt.lt {w : World} {g : Nat} {C S : List Int} {h : Int} {ks xs : List Int} (m : MacAt w g C S h ks xs) : g < w.heap.size := by
  obtain ⟨cs, cs0, h1, _⟩ := m.ex
  exact h1.lt

theorem NewMac_ok {K : Nat} (hK : 18446744073709551616 ≤ K) {h : Int} (hk : known h = true) {C S ks : List Int} {w : World} (T : Tabs w C S) {k : Sl} (hx : Src w k (ints .u8 ks)) (hin : ∀ x ∈ ks, InK .u8 x) (hlim : ks.length ≤ 33554432) (hbv : ∀ p, k.a = some p → p.block < w.heap.size) :
    ∃ w' g, digest_NewMac K h k w = some ((some ⟨g, 0, none⟩, 0, ()), w') ∧ MacAt w' g C S h ks [] ∧ w.heap.size ≤ g ∧ Upd none_ w w' := by
  obtain ⟨w1, h1, u1⟩ := Size_ok h w
  have hkl : k.len = ks.length := by rw [hx.len, ints_length]
  have hd : decide (((k.len : Nat) : Int) > 33554432) = false := by rw [hkl]; simp only [decide_eq_false_iff_not]; omega
  have hs1 := u1.size
  obtain ⟨cs, w2, h2, kd, u2⟩ := key_ok hK hk (T.upd0 u1) (hx.upd0 u1) hin (by omega) (fun p hp => by have := hbv p hp; omega)
  have hs2 := u2.size
  have hcl := kd.len
  obtain ⟨w3, n3, b3, u3, z3⟩ := newB_ok z89 89 w2
  obtain ⟨w4, s4, b4, u4, l4⟩ := lay b3 (vs := cs) (by rw [hcl]; kernel_rfl) kd.one
  rw [hcl] at l4
  have hs3 := u3.size
  have hs4 := u4.size
  obtain ⟨w5, n5, b5, u5, z5⟩ := newB_ok (cs ++ cs).toArray 101 w4
  have b5 : Bk 101 w5 w4.heap.size (cs ++ cs) := b5
  refine ⟨w5, w4.heap.size, ?_, ⟨cs, cs, b5, kd, kd⟩, by omega, (((u1.and0 u2).and0 u3).trans' u4 fun k hk e => by omega).and0 u5⟩
  unfold digest_NewMac
  rw [h1, bnd_ok]
  dsimp only
  rw [size_zero, hk, if_neg (by decide), hd, if_neg (by decide), h2, bnd_ok, n3, bnd_ok]
  dsimp only
  rw [if_pos (by rw [List.size_toArray, hcl]), s4, Option.bind_some, l4, Option.bind_some, Option.bind_some, built101 hcl hcl, Option.bind_some, n5, bnd_ok]

theorem MacWrite_loop {K : Nat} (hK : 18446744073709551616 ≤ K) {e : TypeId} {g : Nat} {post : List Value} {h : Int} (hk : known h = true) {C S : List Int} (hg : 4 ≤ g) {s : Sl} {xss : List (List Int)} {Q : Nat → Prop} (hQ : ¬ Q g) :
    ∀ (d i n : Nat) (w : World) (xs : List Int) (a : List Value), i + d = xss.length → d < n → Bk e w g (a ++ post) → StC C S h xs a → Tabs w C S → Parts w s xss Q → xs.length + (xss.drop i).flatten.length ≤ 140737488355328 →
      ∃ w' a', digest_Mac_Write_l0 K n (some ⟨g, 0, none⟩) s ((s.len : Nat) : Int) (i : Int) w = some ((), w') ∧ Bk e w' g (a' ++ post) ∧ StC C S h (xs ++ (xss.drop i).flatten) a' ∧ Upd (· = g) w w' := by
  intro d
  induction d with
  | zero =>
    intro i n w xs a hi hn hb sa hT hp hl
    obtain ⟨n, rfl⟩ : ∃ m, n = m + 1 := ⟨n - 1, by omega⟩
    have hd : decide ((i : Int) < ((s.len : Nat) : Int)) = false := by rw [hp.len]; simp; omega
    have e0 : xs ++ (xss.drop i).flatten = xs := by rw [List.drop_eq_nil_of_le (by omega)]; simp
    refine ⟨w, a, ?_, hb, by rw [e0]; exact sa, Upd.refl _ _⟩
    show digest_Mac_Write_l0_b K (digest_Mac_Write_l0 K n) (some ⟨g, 0, none⟩) s ((s.len : Nat) : Int) (i : Int) w = _
    unfold digest_Mac_Write_l0_b
    rw [hd, if_neg (by decide)]
  | succ d ih =>
    intro i n w xs a hi hn hb sa hT hp hl
    obtain ⟨n, rfl⟩ : ∃ m, n = m + 1 := ⟨n - 1, by omega⟩
    have hm := hp.many
    have hd : decide ((i : Int) < ((s.len : Nat) : Int)) = true := by rw [hp.len]; simp; omega
    obtain ⟨p, t, h1, h2, h3, h4, h5, h6, h7⟩ := hp.at (i := i) (by omega)
    have c : (0 : Int) ≤ (i : Int) ∧ (i : Int) < ((s.len : Nat) : Int) := by rw [hp.len]; omega
    have e1 : IntKind.i64.wrap ((i : Int) + 1) = ((i + 1 : Nat) : Int) := by rw [w64 (by omega) (by omega)]; rfl
    have hdr : (xss.drop i).flatten = xss.getD i [] ++ (xss.drop (i + 1)).flatten := by rw [drop_getD (by omega) [], List.flatten_cons]
    rw [hdr, List.length_append] at hl
    obtain ⟨w1, a1, b1, b2, b3, b4⟩ := take_cells hK hk (pre := []) (post := post) (o := 0) hT sa (by rw [List.nil_append]; exact hb) rfl hg h7 (by omega) h3 (fun q hq e => hQ (e ▸ (h4 q hq).1)) (fun q hq => (h4 q hq).2)
    rw [List.nil_append] at b2
    obtain ⟨w2, a2, c1, c2, c3, c4⟩ := ih (i + 1) n w1 (xs ++ xss.getD i []) a1 (by omega) (by omega) b2 b3 (hT.upd b4 fun k hk e => by omega) (hp.upd b4 fun k hk e => hQ (e ▸ hk)) (by rw [List.length_append]; omega)
    rw [List.append_assoc, ← hdr] at c3
    refine ⟨w2, a2, ?_, c2, c3, b4.trans' c4 fun _ _ e => e⟩
    show digest_Mac_Write_l0_b K (digest_Mac_Write_l0 K n) (some ⟨g, 0, none⟩) s ((s.len : Nat) : Int) (i : Int) w = _
    unfold digest_Mac_Write_l0_b
    rw [hd, if_pos rfl, h1, Option.bind_some, if_pos c, Int.toNat_natCast, Nat.mul_one, h2, Option.bind_some, Option.bind_some, add_lit, add_lit, Nat.add_zero, b1, bnd_ok, e1, c1]

/-- its count and its block -/
theorem KdC.ld {C S : List Int} {h : Int} (hk : known h = true) {ks xs : List Int} {cs cs0 : List Value} {e : TypeId} {g : Nat} {w : World} (kd : KdC C S h ks xs cs) (hb : Bk e w g (cs ++ cs0)) :
    ldI .u64 ⟨g, 5, none⟩ w = some (((blk h + xs.length : Nat) : Int)) ∧ ldI .i64 ⟨g, 1, none⟩ w = some (((blk h : Nat) : Int)) := by
  obtain ⟨a, b, rfl, ha, hb'⟩ := kd.ex
  obtain ⟨H, half, rfl, f, hi⟩ := ha.ex
  have st := st_mk (pre := []) (post := b ++ cs0) (o := 0) (w := w) (e := e) (g := g) f.H8 f.len hi rfl (by rw [List.nil_append, ← List.append_assoc]; exact hb)
  obtain ⟨l1, l5, _⟩ := st.ld hk
  rw [List.length_append, ipad_len hk] at l5
  exact ⟨by simpa using l5, by simpa using l1⟩

theorem MacWrite_ok {K : Nat} (hK : 18446744073709551616 ≤ K) {w : World} {g : Nat} {h : Int} (hk : known h = true) {C S ks xs : List Int} (T : Tabs w C S) (hg : 4 ≤ g) (m : MacAt w g C S h ks xs) {s : Sl} {xss : List (List Int)} {Q : Nat → Prop} (hQ : ¬ Q g) (hp : Parts w s xss Q) (hl : xs.length + xss.flatten.length ≤ 33554432) :
    ∃ w', digest_Mac_Write K (some ⟨g, 0, none⟩) s w = some ((0, ()), w') ∧ MacAt w' g C S h ks (xs ++ xss.flatten) ∧ Upd (· = g) w w' := by
  obtain ⟨cs, cs0, h1, h2, h3⟩ := m.ex
  obtain ⟨l5, l1⟩ := h2.ld hk h1.drew
  obtain ⟨a, b, rfl, ha, hb⟩ := h2.ex
  have hpd := hp.upd0 (Upd.refl none_ w).drew
  have ht := total_ok hK hpd
  have hbk := blk_le h
  obtain ⟨w2, a2, b1, b2, b3, b4⟩ := MacWrite_loop hK hk hg hQ (post := b ++ cs0) xss.length 0 K w.drew _ a (by omega) (by have := hp.many; omega) (by rw [← List.append_assoc]; exact h1.drew) ha T.drew hpd (by rw [List.drop_zero, List.length_append, ipad_len hk]; omega)
  rw [List.drop_zero] at b3
  rw [List.append_assoc] at b3
  have b1 : digest_Mac_Write_l0 K K (some ⟨g, 0, none⟩) s ((s.len : Nat) : Int) 0 w.drew = _ := b1
  have htl := totB_le xss 0 (by omega)
  have h1' : totB 0 xss ≤ 33554432 := htl.1.2 (by omega)
  have h2' := htl.2 h1'
  have hd : decide (((xs.length + totB 0 xss : Nat) : Int) > 33554432) = false := by simp only [decide_eq_false_iff_not]; omega
  have ew : IntKind.u64.wrap (((blk h + xs.length : Nat) : Int) - IntKind.u64.wrap ((blk h : Nat) : Int)) = ((xs.length : Nat) : Int) := by rw [IntKind.wrap_u64, IntKind.wrap_u64]; omega
  refine ⟨w2, ?_, ⟨a2 ++ b, cs0, by rw [List.append_assoc]; exact b2, ⟨a2, b, rfl, b3, hb⟩, h3⟩, b4.predrew⟩
  unfold digest_Mac_Write
  rw [if_neg (by simp), Option.bind_some, Option.bind_some]
  simp only [add_lit, Nat.add_zero, Nat.zero_add]
  rw [l5, Option.bind_some, l1, Option.bind_some, ht, Option.bind_some]
  dsimp only
  rw [ew, tot_wrap hp.lens (by omega), hd, if_neg (by decide), b1, bnd_ok]

theorem MacWrite_long {K : Nat} (hK : 18446744073709551616 ≤ K) {w : World} {g : Nat} {h : Int} (hk : known h = true) {C S ks xs : List Int} (m : MacAt w g C S h ks xs) (hn : xs.length ≤ 33554432) {s : Sl} {xss : List (List Int)} {Q : Nat → Prop} (hp : Parts w s xss Q) (hl : ¬ xs.length + xss.flatten.length ≤ 33554432) :
    digest_Mac_Write K (some ⟨g, 0, none⟩) s w = some ((4, ()), w.drew) := by
  obtain ⟨cs, cs0, h1, h2, h3⟩ := m.ex
  obtain ⟨l5, l1⟩ := h2.ld hk h1.drew
  have ht := total_ok hK (hp.upd0 (Upd.refl none_ w).drew)
  have hbk := blk_le h
  have htl := totB_le xss 0 (by omega)
  have h1' : ¬ xs.length + totB 0 xss ≤ 33554432 := fun e => by have := htl.2 (by omega); omega
  have hd : decide (((xs.length + totB 0 xss : Nat) : Int) > 33554432) = true := by simp only [decide_eq_true_eq]; omega
  have ew : IntKind.u64.wrap (((blk h + xs.length : Nat) : Int) - IntKind.u64.wrap ((blk h : Nat) : Int)) = ((xs.length : Nat) : Int) := by rw [IntKind.wrap_u64, IntKind.wrap_u64]; omega
  unfold digest_Mac_Write
  rw [if_neg (by simp), Option.bind_some, Option.bind_some]
  simp only [add_lit, Nat.add_zero, Nat.zero_add]
  rw [l5, Option.bind_some, l1, Option.bind_some, ht, Option.bind_some]
  dsimp only
  rw [ew, tot_wrap hp.lens hn, hd, if_pos rfl]

theorem MacSum_ok {K : Nat} (hK : 18446744073709551616 ≤ K) {w : World} {g : Nat} {h : Int} (hk : known h = true) {C S ks xs : List Int} (T : Tabs w C S) (m : MacAt w g C S h ks xs) (hlim : xs.length ≤ 549755813888) :
    ∃ s' w', digest_Mac_Sum K (some ⟨g, 0, none⟩) w = some ((s', ()), w') ∧ Ans w.heap.size w' s' (macOf C S h ks xs) ∧ Upd none_ w w' := by
  obtain ⟨cs, cs0, h1, h2, h3⟩ := m.ex
  have lA := h1.ldA (i := 0) (n := 284) (by rw [List.length_append, h2.len, h3.len]; decide)
  rw [List.drop_zero, List.take_append_of_le_length (by rw [h2.len]; decide), List.take_of_length_le (by rw [h2.len]; decide)] at lA
  obtain ⟨s', w', a1, a2, a3⟩ := keyedEnd_ok hK hk T h2 hlim
  refine ⟨s', w', ?_, a2, a3⟩
  unfold digest_Mac_Sum
  rw [if_neg (by simp), Option.bind_some, add_lit, lA, Option.bind_some, a1, bnd_ok]

theorem macOf_len (C S : List Int) (h : Int) (ks xs : List Int) : (macOf C S h ks xs).length ≤ 64 := digestOf_len ..
theorem codeOf_len (C S : List Int) (h : Int) (ks xs : List Int) : (codeOf C S h ks xs).length ≤ 64 := by
  unfold codeOf; split
  · exact macOf_len ..
  · exact Nat.zero_le _
theorem codeOf_in (C S : List Int) (h : Int) (ks xs : List Int) : ∀ x ∈ codeOf C S h ks xs, InK .u8 x := by
  unfold codeOf; split
  · exact digestOf_in h C _ _
  · intro x hx; simp at hx

theorem Code_any {K : Nat} (hK : 18446744073709551616 ≤ K) (h : Int) {C S ks : List Int} {w : World} (T : Tabs w C S) {k : Sl} (hx : Src w k (ints .u8 ks)) (hin : ∀ x ∈ ks, InK .u8 x) (hlim : ks.length ≤ 33554432) (hbv : ∀ p, k.a = some p → p.block < w.heap.size)
    {s : Sl} {xss : List (List Int)} {Q : Nat → Prop} (hp : Parts w s xss Q) (hQ : ∀ k, Q k → k < w.heap.size) (hl : xss.flatten.length ≤ 33554432) :
    ∃ s' w', digest_Code K h k s w = some ((s', (if known h = true then 0 else 10), ()), w') ∧ Vw 5 w' s' (ints .u8 (codeOf C S h ks xss.flatten)) ∧ Fresh w.heap.size s' ∧ Upd none_ w w' := by
  have h4 := T.lt
  unfold codeOf
  cases hk : known h with
  | true =>
    obtain ⟨w1, g, h1, m1, hg, u1⟩ := NewMac_ok hK hk T hx hin hlim hbv
    have hs1 := u1.size
    obtain ⟨w2, h2, m2, u2⟩ := MacWrite_ok hK hk (T.upd0 u1) (by omega) m1 (fun e => by have := hQ g e; omega) (hp.upd0 u1) (by simpa using hl)
    rw [List.nil_append] at m2
    have q2 : Upd none_ w w2 := u1.trans' u2 fun k hk e => by omega
    obtain ⟨s3, w3, h3, a3, u3⟩ := MacSum_ok hK hk (T.upd0 q2) m2 (by omega)
    have hs2 := q2.size
    refine ⟨s3, w3, ?_, by rw [if_pos rfl]; exact a3.vw (Nat.le_trans (macOf_len ..) (by decide)), fun k hk => by have := a3.fresh k hk; omega, q2.and0 u3⟩
    unfold digest_Code digest_Code_s0
    rw [h1, bnd_ok]
    dsimp only
    rw [if_pos (by decide), h2, bnd_ok, bnd_ok]
    dsimp only
    rw [if_neg (by decide), h3, bnd_ok, if_pos rfl]
  | false =>
    obtain ⟨w1, h1, u1⟩ := NewMac_none (K := K) hk k w
    refine ⟨⟨none, 0, 0⟩, w1, ?_, by rw [if_neg (by decide)]; exact Vw.nil 5 w1, (fun k hk => by cases hk), u1⟩
    unfold digest_Code digest_Code_s0
    rw [h1, bnd_ok]
    dsimp only
    rw [if_neg (by decide), bnd_ok]
    dsimp only
    rw [if_pos (by decide), if_neg (by decide)]

/-! ### The document's answer -/

/-- one byte behind an own slice -/
theorem pushO {w : World} {s : Sl} {xs : List Int} (x : Int) (ho : Own 5 w s (ints .u8 xs)) (hs : s.len + 1 ≤ 140737488355328) :
    ∃ w1 s2 w2, bldS prog 25 1 #[(0, (.int .u8 x))] w = some (⟨some ⟨w.heap.size, 0, none⟩, 1, 1⟩, w1) ∧ apd prog 25 25 (.slice s.a s.len s.cap) (.slice (some ⟨w.heap.size, 0, none⟩) 1 1) w1 = some (s2, w2) ∧
      Own 5 w2 s2 (ints .u8 (xs ++ [x])) ∧ Upd (fun k => s.blk = some k) w w2 ∧ (∀ k, s2.blk = some k → s.blk = some k ∨ w.heap.size ≤ k) := by
  obtain ⟨w1, h1, o1, u1, z1⟩ := bldS1_ok sliceB (.int .u8 x) rfl w
  obtain ⟨s2, w2, h2, l2, o2, u2, b2⟩ := apd_ok sliceB (ho.upd0 u1) (o1.src (by simp [Value.oneCell'])) (by show (s.len + 1) * 1 ≤ _; omega)
  refine ⟨w1, s2, w2, h1, h2, by simpa using o2, (u1.mono fun _ _ e => e.elim).trans' u2 fun _ _ e => e, fun k hk => ?_⟩
  rcases b2 with e | e
  · exact .inl (e ▸ hk)
  · rw [e] at hk; have := Option.some.inj hk; exact .inr (by omega)

theorem src_ld {w : World} {s : Sl} {xs : List Int} (h : Src w s (ints .u8 xs)) {i : Nat} (hi : i < xs.length) : ∃ p, s.a = some p ∧ ldI .u8 (p.add i) w = some (xs.getD i 0) := by
  obtain ⟨p, hp, hl⟩ := h.rds.ld
  refine ⟨p, hp (fun e => by rw [e] at hi; simp at hi), ?_⟩
  rw [hl i hi, List.getD_eq_getElem?_getD, List.getElem?_eq_getElem hi]; rfl

theorem padK_get {h : Int} {l : List Int} (hl : l.length ≤ blk h) {i : Nat} (hi : i < blk h) : (padK h l).getD i 0 = if i < l.length then l.getD i 0 else 0 := by
  unfold padK
  simp only [List.getD_eq_getElem?_getD]
  by_cases hc : i < l.length
  · rw [if_pos hc, List.getElem?_append_left hc]
  · rw [if_neg hc, List.getElem?_append_right (by omega), List.getElem?_replicate, if_pos (by omega)]; rfl

theorem xorB_take {c : Int} {l : List Int} {i : Nat} (hi : i < l.length) : xorB c (l.take i) ++ [bits .xor .u8 (l.getD i 0) c] = xorB c (l.take (i + 1)) := by
  rw [take_succ_getD hi 0]; unfold xorB; rw [List.map_append]; rfl

theorem refCode_l1 {K : Nat} {B : Nat} {h : Int} {b2 : Sl} {k8 : Sl} {kk : List Int} (hkk : kk.length ≤ blk h) :
    ∀ (d i n : Nat) (w : World) (si so : Sl), i + d = blk h → d < n → Src w k8 (ints .u8 kk) → (∀ p, k8.a = some p → ints .u8 kk ≠ [] → p.block < B) → Own 5 w si (ints .u8 (xorB 54 ((padK h kk).take i))) → Own 5 w so (ints .u8 (xorB 92 ((padK h kk).take i))) → Fresh B si → Fresh B so → (∀ k, si.blk = some k → so.blk ≠ some k) → B ≤ w.heap.size →
      ∃ si' so' w', ref01_Code_l1 K n h b2 ((blk h : Nat) : Int) k8 si so (i : Int) w = some ((si', so', ()), w') ∧ Own 5 w' si' (ints .u8 (xorB 54 (padK h kk))) ∧ Own 5 w' so' (ints .u8 (xorB 92 (padK h kk))) ∧ Fresh B si' ∧ Fresh B so' ∧ (∀ k, si'.blk = some k → so'.blk ≠ some k) ∧ Below B w w' := by
  have hbk := blk_le h
  have hpl := padK_len hkk
  intro d
  induction d with
  | zero =>
    intro i n w si so hi hn hx hxb hoi hoo hfi hfo hne hB
    obtain ⟨n, rfl⟩ : ∃ m, n = m + 1 := ⟨n - 1, by omega⟩
    have hd : decide ((i : Int) < ((blk h : Nat) : Int)) = false := by simp; omega
    rw [List.take_of_length_le (by omega)] at hoi hoo
    refine ⟨si, so, w, ?_, hoi, hoo, hfi, hfo, hne, Below.refl B w⟩
    have eu : ref01_Code_l1 K (n + 1) = ref01_Code_l1_b K (ref01_Code_l1 K n) := rfl
    rw [eu]
    unfold ref01_Code_l1_b
    rw [hd, if_neg (by decide)]
  | succ d ih =>
    intro i n w si so hi hn hx hxb hoi hoo hfi hfo hne hB
    obtain ⟨n, rfl⟩ : ∃ m, n = m + 1 := ⟨n - 1, by omega⟩
    have hd : decide ((i : Int) < ((blk h : Nat) : Int)) = true := by simp; omega
    have e1 : IntKind.i64.wrap ((i : Int) + 1) = ((i + 1 : Nat) : Int) := by rw [w64 (by omega) (by omega)]; rfl
    have hkl : k8.len = kk.length := by rw [hx.len, ints_length]
    have hs2 : ref01_Code_s2 K k8 (i : Int) 0 (decide ((i : Int) < ((k8.len : Nat) : Int))) w = some (((padK h kk).getD i 0, ()), w) := by
      unfold ref01_Code_s2
      rw [padK_get hkk (by omega)]
      by_cases hc : i < kk.length
      · have hd2 : decide ((i : Int) < ((k8.len : Nat) : Int)) = true := by rw [hkl]; simp; omega
        obtain ⟨p, hp, hl⟩ := src_ld hx hc
        rw [hd2, if_pos rfl, hp, Option.bind_some, if_pos ⟨by omega, by rw [hkl]; omega⟩, Int.toNat_natCast, Nat.mul_one, hl, Option.bind_some, if_pos hc]
      · have hd2 : decide ((i : Int) < ((k8.len : Nat) : Int)) = false := by rw [hkl]; simp; omega
        rw [hd2, if_neg (by decide), if_neg hc]
    have hli : si.len = i := by rw [hoi.len, ints_length, xorB_len, List.length_take]; omega
    have hlo : so.len = i := by rw [hoo.len, ints_length, xorB_len, List.length_take]; omega
    obtain ⟨w1, si2, w2, a1, a2, a3, a4, a5⟩ := pushO (bits .xor .u8 ((padK h kk).getD i 0) 54) hoi (by omega)
    rw [xorB_take (by omega)] at a3
    have hoo2 := hoo.upd a4 fun k hk e => hne k e hk
    obtain ⟨w3, so2, w4, b1, b2', b3, b4, b5⟩ := pushO (bits .xor .u8 ((padK h kk).getD i 0) 92) hoo2 (by omega)
    rw [xorB_take (by omega)] at b3
    have hs2' := a4.size
    have hs4 := b4.size
    have hdis : ∀ k, si2.blk = some k → so.blk ≠ some k := fun k hk e => by
      rcases a5 k hk with a5 | a5
      · exact hne k a5 e
      · have := hoo.lt e; omega
    have hoi2 := a3.upd b4 fun k hk e => hdis k hk e
    have u : Upd (fun k => B ≤ k) w w4 := (a4.mono fun k _ e => hfi k e).trans' (b4.mono fun k _ e => hfo k e) fun _ _ e => e
    have bl : Below B w w4 := u.below hB fun k hk e => by omega
    obtain ⟨si', so', w', c1, c2, c3, c4, c5, c6, c7⟩ := ih (i + 1) n w4 si2 so2 (by omega) (by omega) (src_upd hx u fun p hp hne2 e => by have := hxb p hp hne2; omega) hxb hoi2 b3
      (fun k hk => (a5 k hk).elim (hfi k) fun e => by omega) (fun k hk => (b5 k hk).elim (hfo k) fun e => by omega)
      (fun k hk e => by
        rcases b5 k e with b5 | b5
        · exact hdis k hk b5
        · have := a3.lt hk; omega) (by omega)
    refine ⟨si', so', w', ?_, c2, c3, c4, c5, c6, bl.trans c7⟩
    have eu : ref01_Code_l1 K (n + 1) = ref01_Code_l1_b K (ref01_Code_l1 K n) := rfl
    rw [eu]
    unfold ref01_Code_l1_b
    rw [hd, if_pos rfl, hs2, bnd_ok]
    dsimp only
    rw [a1, bnd_ok]
    dsimp only
    rw [a2, bnd_ok, b1, bnd_ok]
    dsimp only
    rw [b2', bnd_ok, e1, c1]

theorem refCode_ok {K : Nat} (hK : 18446744073709551616 ≤ K) (h : Int) {C S ks xs : List Int} {w : World} (T : TabsR w C S) {k b : Sl} (hx : Src w k (ints .u8 ks)) (hin : ∀ x ∈ ks, InK .u8 x) (hlim : ks.length ≤ 1099511627776)
    (hb : Src w b (ints .u8 xs)) (hbin : ∀ x ∈ xs, InK .u8 x) (hblim : xs.length ≤ 549755813888) :
    ∃ s' w', ref01_Code K h k b w = some ((s', ()), w') ∧ Own 5 w' s' (ints .u8 (codeOf C S h ks xs)) ∧ Upd none_ w w' ∧ Fresh w.heap.size s' := by
  unfold codeOf
  cases hk : known h with
  | false =>
    have hb0 : blockOfH h = 0 := by
      have q : h ≠ 224 ∧ h ≠ 256 ∧ h ≠ 384 ∧ h ≠ 512 := by simp [known] at hk; omega
      unfold blockOfH
      rw [if_neg (by omega), if_neg (by omega)]
    refine ⟨⟨none, 0, 0⟩, w, ?_, by simpa using Own.nil 5 w, Upd.refl _ _, fun k hk => by cases hk⟩
    unfold ref01_Code
    rw [refBlock_ok, Option.bind_some, hb0]
    rfl
  | true =>
    have hb0 : blockOfH h = ((blk h : Nat) : Int) := by rcases known_cases hk with e | e | e | e <;> subst e <;> rfl
    have hbk := blk_le h
    have hbp := blk_pos h
    have hkl : k.len = ks.length := by rw [hx.len, ints_length]
    -- the key, or its digest
    have hkey : ∃ k' w1, ref01_Code_s0 K h k k (decide (((k.len : Nat) : Int) > ((blk h : Nat) : Int))) w = some ((k', ()), w1) ∧ Src w1 k' (ints .u8 (keyH C S h ks)) ∧ (∀ p, k'.a = some p → ints .u8 (keyH C S h ks) ≠ [] → p.block < w1.heap.size) ∧ Upd none_ w w1 := by
      unfold keyH
      by_cases hl : ks.length > blk h
      · have hd : decide (((k.len : Nat) : Int) > ((blk h : Nat) : Int)) = true := by rw [hkl]; simp only [decide_eq_true_eq]; omega
        obtain ⟨s1, w1, h1, o1, u1, f1⟩ := refSum_ok hK (h := h) T hx hin hlim
        unfold sumOf at o1
        rw [if_pos hk] at o1
        refine ⟨s1, w1, ?_, by rw [if_pos hl]; exact o1.src ints_one, fun p hp _ => o1.lt (by simp [Sl.blk, hp]), u1⟩
        unfold ref01_Code_s0
        rw [hd, if_pos rfl, h1, bnd_ok]
      · have hd : decide (((k.len : Nat) : Int) > ((blk h : Nat) : Int)) = false := by rw [hkl]; simp only [decide_eq_false_iff_not]; omega
        refine ⟨k, w, ?_, by rw [if_neg hl]; exact hx, fun p hp hne => ?_, Upd.refl _ _⟩
        · unfold ref01_Code_s0
          rw [hd, if_neg (by decide)]
        · rw [if_neg hl] at hne
          rcases hx.rd with ⟨e, _⟩ | ⟨q, e, hr⟩
          · rw [e] at hp; cases hp
          · rw [e] at hp; cases hp; exact hr.lt hne
    obtain ⟨k', w1, h1, hk1, hkb, u1⟩ := hkey
    have hs1 := u1.size
    obtain ⟨si, so, w2, h2, oi, oo, fi, fo, hne, bl2⟩ := refCode_l1 (K := K) (B := w1.heap.size) (h := h) (b2 := b) (keyH_len hk C S ks) (blk h) 0 K w1 ⟨none, 0, 0⟩ ⟨none, 0, 0⟩ (by omega) (by omega) hk1 hkb (by simpa [xorB] using Own.nil 5 w1) (by simpa [xorB] using Own.nil 5 w1) (fun k hk => by cases hk) (fun k hk => by cases hk) (fun k hk => by cases hk) (Nat.le_refl _)
    have h2 : ref01_Code_l1 K K h b ((blk h : Nat) : Int) k' ⟨none, 0, 0⟩ ⟨none, 0, 0⟩ 0 w1 = _ := h2
    have q2 : Upd none_ w w2 := u1.and0 (Upd.of_below bl2)
    have hs2 := bl2.size
    have hbl : b.len = xs.length := by rw [hb.len, ints_length]
    have hil : si.len = blk h := by rw [oi.len, ints_length, xorB_len, padK_len (keyH_len hk ..)]
    have hol : so.len = blk h := by rw [oo.len, ints_length, xorB_len, padK_len (keyH_len hk ..)]
    obtain ⟨s3, w3, h3, l3, o3, u3, b3⟩ := apd_ok sliceB oi (hb.upd0 q2) (by rw [hil, hbl]; omega)
    rw [← ints_append] at o3
    have oo3 := oo.upd u3 fun k hk e => hne k e hk
    have q3 : Upd none_ w w3 := q2.trans' u3 fun k hk e => by have := fi k e; omega
    have hs3 := u3.size
    have hii := ipad_in (h := h) C S hin
    obtain ⟨s4, w4, h4, o4, u4, f4⟩ := refSum_ok hK (h := h) (T.upd0 q3) (o3.src ints_one) (fun x hx => (List.mem_append.1 hx).elim (hii x) (hbin x)) (by have := ipad_len hk C S ks; unfold ipad at this; rw [List.length_append, this]; omega)
    unfold sumOf at o4
    rw [if_pos hk] at o4
    have hs4 := u4.size
    have hdl := digestOf_len h C (firstH S h) (ipad C S h ks ++ xs)
    obtain ⟨s5, w5, h5, l5, o5, u5, b5⟩ := apd_ok sliceB (oo3.upd0 u4) (o4.src ints_one) (by rw [hol, o4.len, ints_length]; show (_ + (digestOf h C (firstH S h) (ipad C S h ks ++ xs)).length) * 1 ≤ _; omega)
    rw [← ints_append] at o5
    have q5 : Upd none_ w w5 := (q3.and0 u4).trans' u5 fun k hk e => by have := fo k e; omega
    have hs5 := u5.size
    have hoi := opad_in (h := h) C S hin
    obtain ⟨s6, w6, h6, o6, u6, f6⟩ := refSum_ok hK (h := h) (T.upd0 q5) (o5.src ints_one) (fun x hx => (List.mem_append.1 hx).elim (hoi x) (digestOf_in h C _ _ x)) (by
      have := opad_len hk C S ks
      unfold opad at this
      rw [List.length_append, this]
      show _ + (digestOf h C (firstH S h) (ipad C S h ks ++ xs)).length ≤ _
      omega)
    unfold sumOf at o6
    rw [if_pos hk] at o6
    refine ⟨s6, w6, ?_, by rw [if_pos rfl]; exact o6, q5.and0 u6, fun k hk => by have := f6 k hk; have := q5.size; omega⟩
    have hne0 : (((blk h : Nat) : Int) == 0) = false := by simp; omega
    unfold ref01_Code
    rw [refBlock_ok, Option.bind_some, hb0]
    dsimp only
    rw [hne0, if_neg (by decide), h1, bnd_ok]
    dsimp only
    rw [h2, bnd_ok]
    dsimp only
    rw [h3, bnd_ok, h4, bnd_ok]
    dsimp only
    rw [h5, bnd_ok, h6, bnd_ok]

end Go.Sh

/- Expand of package digest and of the document's answer. -/
set_option linter.unusedVariables false
namespace Go.Sh
open Go.Fw Go.Sha Go.RowKit Go.Proofs.Tryd

theorem kcode_loop {K : Nat} (hK : 18446744073709551616 ≤ K) {e : TypeId} {g : Nat} {post : List Value} {h : Int} (hk : known h = true) {C S : List Int} (hg : 4 ≤ g) {s : Sl} {xss : List (List Int)} {Q : Nat → Prop} (hQ : ¬ Q g) :
    ∀ (d i n : Nat) (w : World) (xs : List Int) (a : List Value), i + d = xss.length → d < n → Bk e w g (a ++ post) → StC C S h xs a → Tabs w C S → Parts w s xss Q → xs.length + (xss.drop i).flatten.length ≤ 140737488355328 →
      ∃ w' a', digest_keyed_code_l0 K n ⟨g, 0, none⟩ s ((s.len : Nat) : Int) (i : Int) w = some ((), w') ∧ Bk e w' g (a' ++ post) ∧ StC C S h (xs ++ (xss.drop i).flatten) a' ∧ Upd (· = g) w w' := by
  intro d
  induction d with
  | zero =>
    intro i n w xs a hi hn hb sa hT hp hl
    obtain ⟨n, rfl⟩ : ∃ m, n = m + 1 := ⟨n - 1, by omega⟩
    have hd : decide ((i : Int) < ((s.len : Nat) : Int)) = false := by rw [hp.len]; simp; omega
    have e0 : xs ++ (xss.drop i).flatten = xs := by rw [List.drop_eq_nil_of_le (by omega)]; simp
    refine ⟨w, a, ?_, hb, by rw [e0]; exact sa, Upd.refl _ _⟩
    show digest_keyed_code_l0_b K (digest_keyed_code_l0 K n) ⟨g, 0, none⟩ s ((s.len : Nat) : Int) (i : Int) w = _
    unfold digest_keyed_code_l0_b
    rw [hd, if_neg (by decide)]
  | succ d ih =>
    intro i n w xs a hi hn hb sa hT hp hl
    obtain ⟨n, rfl⟩ : ∃ m, n = m + 1 := ⟨n - 1, by omega⟩
    have hm := hp.many
    have hd : decide ((i : Int) < ((s.len : Nat) : Int)) = true := by rw [hp.len]; simp; omega
    obtain ⟨p, t, h1, h2, h3, h4, h5, h6, h7⟩ := hp.at (i := i) (by omega)
    have c : (0 : Int) ≤ (i : Int) ∧ (i : Int) < ((s.len : Nat) : Int) := by rw [hp.len]; omega
    have e1 : IntKind.i64.wrap ((i : Int) + 1) = ((i + 1 : Nat) : Int) := by rw [w64 (by omega) (by omega)]; rfl
    have hdr : (xss.drop i).flatten = xss.getD i [] ++ (xss.drop (i + 1)).flatten := by rw [drop_getD (by omega) [], List.flatten_cons]
    rw [hdr, List.length_append] at hl
    obtain ⟨w1, a1, b1, b2, b3, b4⟩ := take_cells hK hk (pre := []) (post := post) (o := 0) hT sa (by rw [List.nil_append]; exact hb) rfl hg h7 (by omega) h3 (fun q hq e => hQ (e ▸ (h4 q hq).1)) (fun q hq => (h4 q hq).2)
    rw [List.nil_append] at b2
    obtain ⟨w2, a2, c1, c2, c3, c4⟩ := ih (i + 1) n w1 (xs ++ xss.getD i []) a1 (by omega) (by omega) b2 b3 (hT.upd b4 fun k hk e => by omega) (hp.upd b4 fun k hk e => hQ (e ▸ hk)) (by rw [List.length_append]; omega)
    rw [List.append_assoc, ← hdr] at c3
    refine ⟨w2, a2, ?_, c2, c3, b4.trans' c4 fun _ _ e => e⟩
    show digest_keyed_code_l0_b K (digest_keyed_code_l0 K n) ⟨g, 0, none⟩ s ((s.len : Nat) : Int) (i : Int) w = _
    unfold digest_keyed_code_l0_b
    rw [hd, if_pos rfl, h1, Option.bind_some, if_pos c, Int.toNat_natCast, Nat.mul_one, h2, Option.bind_some, add_lit, Nat.add_zero, b1, bnd_ok, e1, c1]

/-- code: of a key that was taken in, parts fed -/
theorem kcode_ok {K : Nat} (hK : 18446744073709551616 ≤ K) {h : Int} (hk : known h = true) {C S ks : List Int} {w : World} (T : Tabs w C S) {cs : List Value} (kd : KdC C S h ks [] cs) {s : Sl} {xss : List (List Int)} {Q : Nat → Prop} (hp : Parts w s xss Q) (hQ : ∀ k, Q k → k < w.heap.size) (hl : xss.flatten.length ≤ 549755813888) :
    ∃ s' w', digest_keyed_code K cs.toArray s w = some ((s', ()), w') ∧ Ans w.heap.size w' s' (macOf C S h ks xss.flatten) ∧ Upd none_ w w' := by
  have h4 := T.lt
  have hbk := blk_le h
  obtain ⟨a, b, rfl, ha, hb⟩ := kd.ex
  rw [List.append_nil] at ha
  obtain ⟨w1, n1, b1, u1, z1⟩ := newB_ok (a ++ b).toArray 89 w
  have b1 : Bk 89 w1 w.heap.size (a ++ b) := b1
  have hs1 := u1.size
  obtain ⟨w2, a2, h2, b2, st2, u2⟩ := kcode_loop hK hk (g := w.heap.size) (post := b) h4 (fun e => by have := hQ _ e; omega) xss.length 0 K w1 _ a (by omega) (by have := hp.many; omega) b1 ha (T.upd0 u1) (hp.upd0 u1) (by rw [List.drop_zero, ipad_len hk]; omega)
  have h2 : digest_keyed_code_l0 K K ⟨w.heap.size, 0, none⟩ s ((s.len : Nat) : Int) 0 w1 = _ := h2
  rw [List.drop_zero] at st2
  have kd2 : KdC C S h ks xss.flatten (a2 ++ b) := ⟨a2, b, rfl, st2, hb⟩
  have l2 := b2.ldA (i := 0) (n := 284) (by rw [kd2.len]; decide)
  rw [List.drop_zero, List.take_of_length_le (by rw [kd2.len]; decide)] at l2
  have q2 : Upd none_ w w2 := u1.trans' u2 fun k hk e => by omega
  have hs2 := q2.size
  obtain ⟨s3, w3, h3, a3, u3⟩ := keyedEnd_ok hK hk (T.upd0 q2) kd2 hl
  refine ⟨s3, w3, ?_, a3.mono hs2, q2.and0 u3⟩
  unfold digest_keyed_code
  rw [n1, bnd_ok, h2, bnd_ok, l2, Option.bind_some, h3, bnd_ok]

/-- a part as it may stand in a list -/
def PartOk (w : World) (p : Sl × List Int) : Prop := Src w p.1 (ints .u8 p.2) ∧ (∀ x ∈ p.2, InK .u8 x) ∧ p.2.length ≤ 140737488351232 ∧ ∀ q, p.1.a = some q → q.block < w.heap.size

/-- a list of parts -/
theorem some_parts {w : World} (ps : List (Sl × List Int)) (h : ∀ p ∈ ps, PartOk w p) (h0 : 0 < ps.length) (hn : ps.length ≤ 1024) :
    ∃ w', bldS prog 24 ps.length ((ps.map fun p => slV p.1).zipIdx.map fun p => (p.2, p.1)).toArray w = some (⟨some ⟨w.heap.size, 0, none⟩, ps.length, ps.length⟩, w') ∧ Parts w' ⟨some ⟨w.heap.size, 0, none⟩, ps.length, ps.length⟩ (ps.map (·.2)) (fun k => k < w'.heap.size) ∧ Upd none_ w w' := by
  have hlen : (ps.map fun p => slV p.1).length = ps.length := List.length_map ..
  obtain ⟨w2, c1, c2, c3, c4⟩ := bldS_ok sliceSS (ps.map fun p => slV p.1) (fun v hv => by obtain ⟨x, _, rfl⟩ := List.mem_map.1 hv; rfl) (by omega) (by omega) w
  rw [hlen] at c1 c2
  have hs := c3.size
  refine ⟨w2, c1, ⟨by simp, Nat.le_refl _, ?_, ?_, by simp; omega, .inr ⟨⟨w.heap.size, 0, none⟩, ps.map (·.1), rfl, by simp, c2.lt (by simp [Sl.blk]), ?_, fun i hi => ?_⟩⟩, c3⟩
  · intro xs hxs
    obtain ⟨p, hp, rfl⟩ := List.mem_map.1 hxs
    exact (h p hp).2.1
  · intro xs hxs
    obtain ⟨p, hp, rfl⟩ := List.mem_map.1 hxs
    exact (h p hp).2.2.1
  · rcases (c2.src (fun v hv => by obtain ⟨x, _, rfl⟩ := List.mem_map.1 hv; rfl)).rd with ⟨b1, _⟩ | ⟨p, b1, b2⟩
    · cases b1
    · obtain rfl := Option.some.inj b1
      rw [List.map_map]; exact b2
  · have hi2 : i < ps.length := by simpa using hi
    have e1 : (ps.map (·.1)).getD i nilS = ps[i].1 := by simp [List.getD_eq_getElem?_getD, hi2]
    have e2 : (ps.map (·.2)).getD i [] = ps[i].2 := by simp [List.getD_eq_getElem?_getD, hi2]
    obtain ⟨f1, f2, f3, f4⟩ := h ps[i] (List.getElem_mem hi2)
    rw [e1, e2]
    exact ⟨f1.upd0 c3, fun q hq => by have := f4 q hq; exact ⟨by omega, by omega⟩⟩

/-- a digest's bytes -/
def szH (h : Int) : Nat := (h / 8).toNat
theorem szH_ok {h : Int} (hk : known h = true) : sizeOfH h = ((szH h : Nat) : Int) ∧ 28 ≤ szH h ∧ szH h ≤ 64 := by
  rcases known_cases hk with e | e | e | e <;> subst e <;> exact ⟨rfl, by decide, by decide⟩
theorem digestOf_size {h : Int} (hk : known h = true) (C H0 xs : List Int) : (digestOf h C H0 xs).length = szH h := by
  unfold digestOf
  rw [List.length_take, outW_len]
  rcases known_cases hk with e | e | e | e <;> subst e <;> rfl
theorem macOf_size {h : Int} (hk : known h = true) (C S ks xs : List Int) : (macOf C S h ks xs).length = szH h := digestOf_size hk ..
theorem macOf_in (C S : List Int) (h : Int) (ks xs : List Int) : ∀ x ∈ macOf C S h ks xs, InK .u8 x := digestOf_in h C _ _

/-- the last code behind j of them -/
def expT (C S : List Int) (h : Int) (prk info : List Int) : Nat → List Int
  | 0 => []
  | j + 1 => macOf C S h prk (expT C S h prk info j ++ info ++ [((j + 1 : Nat) : Int)])
/-- j codes, one behind the other -/
def expO (C S : List Int) (h : Int) (prk info : List Int) : Nat → List Int
  | 0 => []
  | j + 1 => expO C S h prk info j ++ expT C S h prk info (j + 1)

theorem expT_len {h : Int} (hk : known h = true) (C S prk info : List Int) : ∀ j, (expT C S h prk info j).length ≤ 64
  | 0 => by simp [expT]
  | j + 1 => by unfold expT; exact macOf_len ..
theorem expT_in {h : Int} (C S prk info : List Int) : ∀ j, ∀ x ∈ expT C S h prk info j, InK .u8 x
  | 0 => by simp [expT]
  | j + 1 => by unfold expT; exact macOf_in C S h prk _
theorem expO_len {h : Int} (hk : known h = true) (C S prk info : List Int) : ∀ j, (expO C S h prk info j).length = j * szH h
  | 0 => by simp [expO]
  | j + 1 => by unfold expO; rw [List.length_append, expO_len hk C S prk info j, Nat.succ_mul]; congr 1; exact macOf_size hk ..

/-- how many codes it takes -/
def cnt (h : Int) (n : Nat) : Nat := (n + szH h - 1) / szH h
theorem cnt_ok {h : Int} (hk : known h = true) {n : Nat} (hn : 0 < n) : n ≤ cnt h n * szH h ∧ 0 < cnt h n ∧ ∀ j, j < cnt h n → j * szH h < n := by
  obtain ⟨_, h1, h2⟩ := szH_ok hk
  unfold cnt
  have h3 := Nat.div_add_mod (n + szH h - 1) (szH h)
  have h4 := Nat.mod_lt (n + szH h - 1) (show 0 < szH h by omega)
  obtain ⟨q, hq⟩ : ∃ q, (n + szH h - 1) / szH h = q := ⟨_, rfl⟩
  rw [hq] at h3 ⊢
  have h5 : szH h * q = q * szH h := Nat.mul_comm ..
  refine ⟨by omega, ?_, fun j hj => ?_⟩
  · cases q with
    | zero => rw [Nat.mul_zero] at h3; omega
    | succ q => omega
  · have : (j + 1) * szH h ≤ q * szH h := Nat.mul_le_mul_right _ hj
    rw [Nat.succ_mul] at this; omega

theorem in_byte {j : Nat} (hj : j < 256) : InK .u8 (j : Int) := ⟨Int.natCast_nonneg _, by simp only [IntKind.bits]; omega⟩

theorem Ans.own {B : Nat} {w : World} {s : Sl} {zs : List Int} (h : Ans B w s zs) : ∀ q, s.a = some q → q.block < w.heap.size := lt_of_blk fun _ hk => h.lt hk

theorem Expand_l2 {K : Nat} (hK : 18446744073709551616 ≤ K) {h : Int} (hk : known h = true) {C S prk info : List Int} {si : Sl} (hin : ∀ x ∈ info, InK .u8 x) (hil : info.length ≤ 33554432) {n : Nat} (hn : 0 < n) (hn2 : n ≤ 255 * szH h) {m : Nat} {B : Nat} (hm : m < B) {cs : List Value} (kd : KdC C S h prk [] cs) :
    ∀ (d j k : Nat) (w : World) (out t : Sl), j + d = cnt h n → d < k → Tabs w C S → Bk 89 w m cs → PartOk w (si, info) → (∀ q, si.a = some q → q.block < B) → PartOk w (t, expT C S h prk info j) → Own 5 w out (ints .u8 (expO C S h prk info j)) → Fresh B out → (∀ q, t.a = some q → out.blk ≠ some q.block) → 4 ≤ B → B ≤ w.heap.size →
      ∃ out' w', digest_Expand_l2 K k si (n : Int) ⟨m, 0, none⟩ out t (IntKind.u8.wrap ((j + 1 : Nat) : Int)) w = some ((out', ()), w') ∧ Own 5 w' out' (ints .u8 (expO C S h prk info (cnt h n))) ∧ Fresh B out' ∧ Below B w w' := by
  obtain ⟨hsz, hs28, hs64⟩ := szH_ok hk
  obtain ⟨hc1, hc2, hc3⟩ := cnt_ok hk hn
  have hc255 : cnt h n ≤ 255 := by
    rcases Nat.lt_or_ge 255 (cnt h n) with e | e
    · have := hc3 255 e; omega
    · exact e
  intro d
  induction d with
  | zero =>
    intro j k w out t hj hkk hT hm1 hsi hsib ht ho hf hne h4 hB
    obtain ⟨k, rfl⟩ : ∃ q, k = q + 1 := ⟨k - 1, by omega⟩
    have hol : out.len = j * szH h := by rw [ho.len, ints_length, expO_len hk]
    have hjj : j = cnt h n := by omega
    have hd : decide (((out.len : Nat) : Int) < (n : Int)) = false := by rw [hol, hjj]; simp only [decide_eq_false_iff_not]; omega
    refine ⟨out, w, ?_, hjj ▸ ho, hf, Below.refl B w⟩
    have eu : digest_Expand_l2 K (k + 1) = digest_Expand_l2_b K (digest_Expand_l2 K k) := rfl
    rw [eu]
    unfold digest_Expand_l2_b
    rw [hd, if_neg (by decide)]
  | succ d ih =>
    intro j k w out t hj hkk hT hm1 hsi hsib ht ho hf hne h4 hB
    obtain ⟨k, rfl⟩ : ∃ q, k = q + 1 := ⟨k - 1, by omega⟩
    have hol : out.len = j * szH h := by rw [ho.len, ints_length, expO_len hk]
    have hjl := hc3 j (by omega)
    have hd : decide (((out.len : Nat) : Int) < (n : Int)) = true := by rw [hol]; simp only [decide_eq_true_eq]; omega
    have ei : IntKind.u8.wrap ((j + 1 : Nat) : Int) = ((j + 1 : Nat) : Int) := w8 (by omega) (by omega)
    have ei2 : IntKind.u8.wrap (((j + 1 : Nat) : Int) + 1) = IntKind.u8.wrap ((j + 1 + 1 : Nat) : Int) := by congr 1
    have lA := hm1.ldA (i := 0) (n := 284) (by rw [kd.len]; decide)
    rw [List.drop_zero, List.take_of_length_le (by rw [kd.len]; decide)] at lA
    obtain ⟨w1, b1, b2, u1, z1⟩ := bldS1_ok sliceB (.int .u8 ((j + 1 : Nat) : Int)) rfl w
    have hs1 := u1.size
    have p1 : PartOk w1 (t, expT C S h prk info j) := ⟨ht.1.upd0 u1, ht.2.1, ht.2.2.1, fun q hq => by have := ht.2.2.2 q hq; omega⟩
    have p2 : PartOk w1 (si, info) := ⟨hsi.1.upd0 u1, hsi.2.1, hsi.2.2.1, fun q hq => by have := hsi.2.2.2 q hq; omega⟩
    have p3 : PartOk w1 (⟨some ⟨w.heap.size, 0, none⟩, 1, 1⟩, [((j + 1 : Nat) : Int)]) := ⟨b2.src (by simp [Value.oneCell']), fun x hx => by obtain rfl := List.mem_singleton.1 hx; exact in_byte (by omega), by simp, fun q hq => by obtain rfl := Option.some.inj hq; exact b2.lt (by simp [Sl.blk])⟩
    obtain ⟨w2, c1, c2, u2⟩ := some_parts [(t, expT C S h prk info j), (si, info), (⟨some ⟨w.heap.size, 0, none⟩, 1, 1⟩, [((j + 1 : Nat) : Int)])] (fun p hp => by
      simp only [List.mem_cons, List.not_mem_nil, or_false] at hp
      rcases hp with rfl | rfl | rfl
      · exact p1
      · exact p2
      · exact p3) (by simp) (by simp)
    have c1 : bldS prog 24 3 #[(0, (.slice t.a t.len t.cap)), (1, (.slice si.a si.len si.cap)), (2, (.slice (some ⟨w.heap.size, 0, none⟩) 1 1))] w1 = some (⟨some ⟨w1.heap.size, 0, none⟩, 3, 3⟩, w2) := c1
    have c2 : Parts w2 ⟨some ⟨w1.heap.size, 0, none⟩, 3, 3⟩ ([(t, expT C S h prk info j), (si, info), (⟨some ⟨w.heap.size, 0, none⟩, 1, 1⟩, [((j + 1 : Nat) : Int)])].map (·.2)) (fun k => k < w2.heap.size) := c2
    have hs2 := u2.size
    have hfl : ([(t, expT C S h prk info j), (si, info), (⟨some ⟨w.heap.size, 0, none⟩, 1, 1⟩, [((j + 1 : Nat) : Int)])].map (·.2)).flatten = expT C S h prk info j ++ info ++ [((j + 1 : Nat) : Int)] := by simp
    have htl := expT_len hk C S prk info j
    obtain ⟨s3, w3, d1, d2, u3⟩ := kcode_ok hK hk ((hT.upd0 u1).upd0 u2) kd c2 (fun k hk => hk) (by rw [hfl, List.length_append, List.length_append]; simp only [List.length_singleton]; omega)
    rw [hfl] at d2
    have e3 : macOf C S h prk (expT C S h prk info j ++ info ++ [((j + 1 : Nat) : Int)]) = expT C S h prk info (j + 1) := rfl
    rw [e3] at d2
    have hs3 := u3.size
    have q3 := (u1.and0 u2).and0 u3
    have htl2 := expT_len hk C S prk info (j + 1)
    obtain ⟨s4, w4, f1, f2, f3, u4, f5⟩ := apd_ok sliceB (ho.upd0 q3) d2.src (by rw [hol, d2.len]; have : j * szH h ≤ 255 * 64 := Nat.mul_le_mul (by omega) hs64; omega)
    rw [← ints_append] at f3
    have f3 : Own 5 w4 s4 (ints .u8 (expO C S h prk info (j + 1))) := f3
    have hs4 := u4.size
    have hob : ∀ k, out.blk = some k → k < w.heap.size := fun k hk => ho.lt hk
    have q4 : Upd (fun k => out.blk = some k) w w4 := (q3.mono (T := fun k => out.blk = some k) fun _ _ e => e.elim).trans' u4 fun _ _ e => e
    have bl : Below B w w4 := q4.below hB fun k hk e => by have := hf k e; omega
    have hs3b : ∀ q, s3.a = some q → w2.heap.size ≤ q.block ∧ q.block < w3.heap.size := fun q hq => ⟨d2.fresh q.block (by simp [Sl.blk, hq]), d2.own q hq⟩
    have pn : PartOk w4 (s3, expT C S h prk info (j + 1)) := ⟨d2.src.upd u4 fun q hq e => by have := hs3b q hq; have := hob _ e; omega, expT_in C S prk info (j + 1), by show (expT C S h prk info (j + 1)).length ≤ _; omega, fun q hq => by have := hs3b q hq; omega⟩
    obtain ⟨out', w', g1, g2, g3, g4⟩ := ih (j + 1) k w4 s4 s3 (by omega) (by omega) (hT.upd q4 fun k hk e => by have := hf k e; omega) (hm1.upd q4 fun e => by have := hf m e; omega)
      ⟨hsi.1.upd q4 fun q hq e => by have := hf _ e; have := hsib q hq; omega, hsi.2.1, hsi.2.2.1, fun q hq => by have := hsi.2.2.2 q hq; have := q4.size; omega⟩ hsib pn f3
      (fun k hk => by
        rcases f5 with f5 | f5
        · exact hf k (f5 ▸ hk)
        · rw [f5] at hk; have := Option.some.inj hk; omega)
      (fun q hq e => by
        have := hs3b q hq
        rcases f5 with f5 | f5
        · rw [f5] at e; have := hob _ e; omega
        · rw [f5] at e; have := Option.some.inj e; omega) h4 (by have := q4.size; omega)
    refine ⟨out', w', ?_, g2, g3, bl.trans g4⟩
    have eu : digest_Expand_l2 K (k + 1) = digest_Expand_l2_b K (digest_Expand_l2 K k) := rfl
    rw [eu]
    unfold digest_Expand_l2_b
    rw [hd, if_pos rfl, lA, Option.bind_some, ei, b1, bnd_ok]
    dsimp only
    rw [c1, bnd_ok, d1, bnd_ok]
    dsimp only
    rw [f1, bnd_ok, ei2, g1]

/-- what Expand refuses -/
def expErr (h : Int) (p i : Nat) (n : Int) : Int :=
  if known h = false then 10 else if (p : Int) < sizeOfH h then 15 else if p > 33554432 ∨ i > 33554367 then 4 else if n < 1 ∨ n > 255 * sizeOfH h then 12 else 0
/-- what it tells -/
def expOf (C S : List Int) (h : Int) (prk info : List Int) (n : Int) : List Int :=
  if expErr h prk.length info.length n = 0 then (expO C S h prk info (cnt h n.toNat)).take n.toNat else []

theorem w255 {h : Int} (hk : known h = true) : IntKind.i64.wrap (255 * sizeOfH h) = 255 * sizeOfH h := by
  obtain ⟨e, h1, h2⟩ := szH_ok hk
  rw [e]; exact w64 (by omega) (by omega)

theorem expErr_10 {h : Int} (hk : known h = false) (p i : Nat) (n : Int) : expErr h p i n = 10 := by unfold expErr; rw [if_pos hk]
theorem expErr_15 {h : Int} (hk : known h = true) {p : Nat} (h1 : (p : Int) < sizeOfH h) (i : Nat) (n : Int) : expErr h p i n = 15 := by
  unfold expErr; rw [if_neg (by rw [hk]; decide), if_pos h1]
theorem expErr_4 {h : Int} (hk : known h = true) {p i : Nat} (h1 : ¬ (p : Int) < sizeOfH h) (h2 : p > 33554432 ∨ i > 33554367) (n : Int) : expErr h p i n = 4 := by
  unfold expErr; rw [if_neg (by rw [hk]; decide), if_neg h1, if_pos h2]
theorem expErr_12 {h : Int} (hk : known h = true) {p i : Nat} (h1 : ¬ (p : Int) < sizeOfH h) (h2 : ¬ (p > 33554432 ∨ i > 33554367)) {n : Int} (h3 : n < 1 ∨ n > 255 * sizeOfH h) : expErr h p i n = 12 := by
  unfold expErr; rw [if_neg (by rw [hk]; decide), if_neg h1, if_neg h2, if_pos h3]
theorem expErr_0 {h : Int} (hk : known h = true) {p i : Nat} (h1 : ¬ (p : Int) < sizeOfH h) (h2 : ¬ (p > 33554432 ∨ i > 33554367)) {n : Int} (h3 : ¬ (n < 1 ∨ n > 255 * sizeOfH h)) : expErr h p i n = 0 := by
  unfold expErr; rw [if_neg (by rw [hk]; decide), if_neg h1, if_neg h2, if_neg h3]

theorem Expand_s0_ok {K : Nat} {h : Int} {prk info : Sl} {n : Int} (w : World) :
    digest_Expand_s0 K prk info n (sizeOfH h) w = some (if expErr h prk.len info.len n = 0 then .norm () else .ret (⟨none, 0, 0⟩, expErr h prk.len info.len n, ()), w) := by
  unfold digest_Expand_s0
  rw [size_zero]
  cases hk : known h with
  | false => rw [expErr_10 hk]; rfl
  | true =>
    rw [if_neg (by decide)]
    by_cases h1 : (prk.len : Int) < sizeOfH h
    · rw [decide_eq_true h1, if_pos rfl, expErr_15 hk h1, if_neg (by decide)]
    · rw [decide_eq_false h1, if_neg (by decide)]
      unfold digest_Expand_s1
      by_cases h2 : prk.len > 33554432
      · have hd : decide (((prk.len : Nat) : Int) > 33554432) = true := by simp only [decide_eq_true_eq]; omega
        rw [hd, if_pos rfl, bnd_ok, if_pos rfl, expErr_4 hk h1 (.inl h2), if_neg (by decide)]
      · have hd : decide (((prk.len : Nat) : Int) > 33554432) = false := by simp only [decide_eq_false_iff_not]; omega
        rw [hd, if_neg (by decide), bnd_ok]
        dsimp only
        by_cases h3 : info.len > 33554367
        · have hd : decide (((info.len : Nat) : Int) > 33554367) = true := by simp only [decide_eq_true_eq]; omega
          rw [hd, if_pos rfl, expErr_4 hk h1 (.inr h3), if_neg (by decide)]
        · have hd : decide (((info.len : Nat) : Int) > 33554367) = false := by simp only [decide_eq_false_iff_not]; omega
          have h23 : ¬ (prk.len > 33554432 ∨ info.len > 33554367) := by omega
          rw [hd, if_neg (by decide), w255 hk]
          by_cases h4 : n < 1
          · rw [decide_eq_true h4, if_pos rfl, expErr_12 hk h1 h23 (.inl h4), if_neg (by decide)]
          · rw [decide_eq_false h4, if_neg (by decide)]
            by_cases h5 : n > 255 * sizeOfH h
            · rw [decide_eq_true h5, if_pos rfl, expErr_12 hk h1 h23 (.inr h5), if_neg (by decide)]
            · rw [decide_eq_false h5, if_neg (by decide), expErr_0 hk h1 h23 (by omega), if_pos rfl]

theorem refExpandError_ok (h : Int) (p i : Nat) (n : Int) : ref01_ExpandError h (p : Int) (i : Int) n = some (expErr h p i n, ()) := by
  unfold ref01_ExpandError
  rw [refSize_ok, Option.bind_some]
  dsimp only
  rw [size_zero]
  cases hk : known h with
  | false => rw [expErr_10 hk]; rfl
  | true =>
    rw [if_neg (by decide)]
    by_cases h1 : (p : Int) < sizeOfH h
    · rw [decide_eq_true h1, if_pos rfl, expErr_15 hk h1]
    · rw [decide_eq_false h1, if_neg (by decide)]
      unfold ref01_ExpandError_s0
      by_cases h2 : p > 33554432
      · have hd : decide (((p : Nat) : Int) > 33554432) = true := by simp only [decide_eq_true_eq]; omega
        rw [hd, if_pos rfl, Option.bind_some, expErr_4 hk h1 (.inl h2)]
        rfl
      · have hd : decide (((p : Nat) : Int) > 33554432) = false := by simp only [decide_eq_false_iff_not]; omega
        rw [hd, if_neg (by decide), Option.bind_some]
        dsimp only
        by_cases h3 : i > 33554367
        · have hd : decide (((i : Nat) : Int) > 33554367) = true := by simp only [decide_eq_true_eq]; omega
          rw [hd, if_pos rfl, expErr_4 hk h1 (.inr h3)]
        · have hd : decide (((i : Nat) : Int) > 33554367) = false := by simp only [decide_eq_false_iff_not]; omega
          have h23 : ¬ (p > 33554432 ∨ i > 33554367) := by omega
          rw [hd, if_neg (by decide), w255 hk]
          by_cases h4 : n < 1
          · rw [decide_eq_true h4, if_pos rfl, expErr_12 hk h1 h23 (.inl h4)]
          · rw [decide_eq_false h4, if_neg (by decide)]
            by_cases h5 : n > 255 * sizeOfH h
            · rw [decide_eq_true h5, if_pos rfl, expErr_12 hk h1 h23 (.inr h5)]
            · rw [decide_eq_false h5, if_neg (by decide), expErr_0 hk h1 h23 (by omega)]

theorem expErr_zero {h : Int} {p i : Nat} {n : Int} (he : expErr h p i n = 0) : known h = true ∧ p ≤ 33554432 ∧ i ≤ 33554367 ∧ ∃ m : Nat, n = (m : Int) ∧ 0 < m ∧ m ≤ 255 * szH h := by
  unfold expErr at he
  cases hk : known h with
  | false => rw [hk] at he; simp at he
  | true =>
    rw [hk, if_neg (by decide)] at he
    split at he
    · cases he
    · split at he
      · cases he
      · split at he
        · cases he
        · rename_i h1 h2 h3
          obtain ⟨e, _⟩ := szH_ok hk
          exact ⟨rfl, by omega, by omega, n.toNat, by omega, by omega, by omega⟩

theorem _root_.Go.Fw.Own.front {e : TypeId} {w : World} {s : Sl} {xs : List Value} (h : Own e w s xs) (hne : xs ≠ []) {n c : Nat} (hn : n ≤ s.len) (hc1 : n ≤ c) (hc : c ≤ s.cap) : Vw e w ⟨s.a, n, c⟩ (xs.take n) := by
  obtain ⟨g, cs, a1, a2, a3, a4, a5, a6⟩ := h.bk hne
  refine ⟨by rw [List.length_take, h.1]; exact Nat.min_eq_left hn, .inr ⟨g, 0, cs, a1, a2, hc1, by show c ≤ maxLen; omega, by show 0 + c ≤ cs.length; omega, ?_⟩⟩
  show (cs.drop 0).take n = _
  rw [List.drop_zero, ← a6, List.take_take, Nat.min_eq_left hn]

theorem Expand_any {K : Nat} (hK : 18446744073709551616 ≤ K) (h : Int) {C S prk info : List Int} {w : World} (T : Tabs w C S) {sp si : Sl} (hp : PartOk w (sp, prk)) (hi : PartOk w (si, info)) (n : Int) :
    ∃ s' w', digest_Expand K h sp si n w = some ((s', expErr h prk.length info.length n, ()), w') ∧ Vw 5 w' s' (ints .u8 (expOf C S h prk info n)) ∧ Fresh w.heap.size s' ∧ Upd none_ w w' := by
  have h4 := T.lt
  have hpl : sp.len = prk.length := by rw [hp.1.len, ints_length]
  have hil : si.len = info.length := by rw [hi.1.len, ints_length]
  obtain ⟨w1, h1, u1⟩ := Size_ok h w
  have hs1 := u1.size
  have hs0 := Expand_s0_ok (K := K) (h := h) (prk := sp) (info := si) (n := n) w1
  rw [hpl, hil] at hs0
  unfold expOf
  by_cases he : expErr h prk.length info.length n = 0
  · rw [if_pos he] at hs0 ⊢
    obtain ⟨hk, hl1, hl2, m, rfl, hm0, hm1⟩ := expErr_zero he
    rw [Int.toNat_natCast]
    obtain ⟨hsz, hs28, hs64⟩ := szH_ok hk
    obtain ⟨hc1, hc2, hc3⟩ := cnt_ok hk hm0
    obtain ⟨cs, w2, h2, kd, u2⟩ := key_ok hK hk (T.upd0 u1) (hp.1.upd0 u1) hp.2.1 (show prk.length ≤ 1099511627776 by omega) (fun q hq => by have := hp.2.2.2 q hq; show q.block < _; omega)
    have hs2 := u2.size
    obtain ⟨w3, n3, b3, u3, z3⟩ := newB_ok z89 89 w2
    obtain ⟨w4, s4, b4, u4, _⟩ := lay b3 (vs := cs) (by rw [kd.len]; kernel_rfl) kd.one
    have hs3 := u3.size
    have hs4 := u4.size
    have q4 : Upd none_ w w4 := ((u1.and0 u2).and0 u3).trans' u4 fun k hk e => by omega
    obtain ⟨out, w5, h5, o5, f5, bl5⟩ := Expand_l2 hK hk (C := C) (S := S) (prk := prk) (info := info) (si := si) hi.2.1 (by omega) hm0 hm1 (m := w2.heap.size) (B := w4.heap.size) b4.lt kd (cnt h m) 0 K w4 ⟨none, 0, 0⟩ ⟨none, 0, 0⟩ (by omega)
      (by have : cnt h m ≤ 255 := by
            rcases Nat.lt_or_ge 255 (cnt h m) with e | e
            · have := hc3 255 e; omega
            · exact e
          omega) (T.upd0 q4) b4 ⟨hi.1.upd0 q4, hi.2.1, hi.2.2.1, fun q hq => by have := hi.2.2.2 q hq; show q.block < _; omega⟩ (fun q hq => by have := hi.2.2.2 q hq; omega)
      ⟨⟨rfl, Nat.le_refl _, .inl ⟨rfl, rfl, rfl⟩, ints_one⟩, (fun x hx => by simp [expT] at hx), Nat.zero_le _, fun q hq => by cases hq⟩ (Own.nil 5 w4) (fun k hk => by cases hk) (fun q hq => by cases hq) (by omega) (Nat.le_refl _)
    have h5 : digest_Expand_l2 K K si (m : Int) ⟨w2.heap.size, 0, none⟩ ⟨none, 0, 0⟩ ⟨none, 0, 0⟩ 1 w4 = _ := h5
    have hol : out.len = cnt h m * szH h := by rw [o5.len, ints_length, expO_len hk]
    have hcap := o5.cap
    have hne : ints .u8 (expO C S h prk info (cnt h m)) ≠ [] := fun e => by
      have := congrArg List.length e
      rw [ints_length, expO_len hk] at this
      simp at this; omega
    have hv := o5.front hne (n := m) (c := m) (by omega) (Nat.le_refl _) (by omega)
    rw [ints_take] at hv
    obtain ⟨g5, cs5, a1, _⟩ := o5.bk hne
    have esl : sla out.a 0 m 1 = out.a := sla_zero ..
    refine ⟨⟨out.a, m, m⟩, w5, ?_, hv, fun k hk => by have := f5 k hk; have := q4.size; omega, q4.and0 (Upd.of_below bl5)⟩
    unfold digest_Expand
    rw [h1, bnd_ok, hs0, bnd_ok]
    dsimp only
    rw [h2, bnd_ok, n3, bnd_ok]
    dsimp only
    rw [if_pos (by rw [List.size_toArray, kd.len]), s4, Option.bind_some, h5, bnd_ok]
    dsimp only
    rw [if_pos (by omega), Int.toNat_natCast, if_pos (by omega), esl, he, Nat.sub_zero]
  · rw [if_neg he] at hs0 ⊢
    refine ⟨⟨none, 0, 0⟩, w1, ?_, Vw.nil 5 w1, (fun k hk => by cases hk), u1⟩
    unfold digest_Expand
    rw [h1, bnd_ok, hs0, bnd_ok]

end Go.Sh

/- again of package digest: the code of one digest, in its place. -/
set_option linter.unusedVariables false
namespace Go.Sh
open Go.Fw Go.Sha Go.RowKit Go.Proofs.Tryd

theorem dyn_again {β : Type} (K : Nat) (h : Int) (p : Option Addr) (s : Sl) (w : World) (k : Value → World → Option β) :
    dyn (tab (digest_keyed_again_E K)) (.func (.func (if narrowB h = true then 80 else 81)) #[] #[]) [.pointer p, .slice s.a s.len s.cap] w k =
      bnd (if narrowB h = true then digest_narrow K p s w else digest_wide K p s w) fun _ w' => k (.tuple #[]) w' := by
  cases hn : narrowB h <;> rfl

theorem bigB_get (x : Int) : ∀ (m j : Nat), j < m → (bigB x m)[j]? = some (IntKind.u8.wrap (Int.fdiv x (2 ^ (8 * (m - 1 - j)))))
  | 0, j, h => by omega
  | m + 1, 0, h => rfl
  | m + 1, j + 1, h => by
    show (bigB x m)[j]? = _
    rw [bigB_get x m j (by omega), show m + 1 - 1 - (j + 1) = m - 1 - j by omega]

theorem outW_get (H : List Int) {m : Nat} (hm : 0 < m) : ∀ (k i : Nat), i < k * m → (outW H m k)[i]? = some (IntKind.u8.wrap (Int.fdiv (H.getD (i / m) 0) (2 ^ (8 * (m - 1 - i % m)))))
  | 0, i, h => by simp at h
  | k + 1, i, h => by
    show (outW H m k ++ bigB (H.getD k 0) m)[i]? = _
    rw [Nat.succ_mul] at h
    by_cases hc : i < k * m
    · rw [List.getElem?_append_left (by rw [outW_len]; exact hc), outW_get H hm k i hc]
    · have h1 : i = (i - k * m) + m * k := by rw [Nat.mul_comm m k]; omega
      have hd : i / m = k := by rw [h1, Nat.add_mul_div_left _ _ hm, Nat.div_eq_of_lt (by omega), Nat.zero_add]
      have hr : i % m = i - k * m := by
        conv => lhs; rw [h1]
        rw [Nat.add_mul_mod_self_left, Nat.mod_eq_of_lt (by omega)]
      rw [List.getElem?_append_right (by rw [outW_len]; omega), outW_len, bigB_get _ m _ (by omega), hd, hr]

/-- a list's front written over -/
def ovw (X cur : List Int) (i : Nat) : List Int := X.take i ++ cur.drop i

theorem ovw_len {X cur : List Int} {i : Nat} (h1 : i ≤ X.length) (h2 : i ≤ cur.length) : (ovw X cur i).length = cur.length := by
  unfold ovw; rw [List.length_append, List.length_take, List.length_drop]; omega
theorem ovw_set {X cur : List Int} {i : Nat} (h1 : i < X.length) (h2 : i < cur.length) : (ovw X cur i).set i (X.getD i 0) = ovw X cur (i + 1) := by
  unfold ovw
  have hl : (X.take i).length = i := by rw [List.length_take]; omega
  rw [List.set_append_right _ _ (by omega), hl, Nat.sub_self, drop_getD h2 0, List.set_cons_zero, take_succ_getD h1 0, List.append_assoc]; rfl

theorem again_l1 {K : Nat} {h : Int} (hk : known h = true) {e : TypeId} {gm : Nat} {cs0 : List Value} {cnt : Nat} {H half X cur : List Int} {u1 : Sl} {a56 : Array Value} {a57 n6 : Int} {gb gh n : Nat} (hX : X.length = 8) (hc : cur.length = 128) (hn : n ≤ 8 * wordB h) (hbm : gb ≠ gm) (hbh : gb ≠ gh) {eb eh : TypeId} :
    ∀ (d i k : Nat) (w : World), i + d = n → d < k → StAt w e gm 0 cs0 h cnt H half → Bk eh w gh (ints .u64 X) → Bk eb w gb (ints .u8 (ovw (outW X (wordB h) 8) cur i)) →
      ∃ w', digest_keyed_again_l1 K k u1 ⟨gm, 0, none⟩ ⟨gb, 0, none⟩ n6 ⟨gh, 0, none⟩ a56 a57 (n : Int) (i : Int) w = some ((), w') ∧ Bk eb w' gb (ints .u8 (ovw (outW X (wordB h) 8) cur n)) ∧ Upd (· = gb) w w' := by
  have hw := wordB_blk h
  intro d
  induction d with
  | zero =>
    intro i k w hi hkk st hx hb
    obtain ⟨k, rfl⟩ : ∃ q, k = q + 1 := ⟨k - 1, by omega⟩
    have hii : i = n := by omega
    have hd : decide ((i : Int) < (n : Int)) = false := by simp; omega
    refine ⟨w, ?_, hii ▸ hb, Upd.refl _ _⟩
    have eu : digest_keyed_again_l1 K (k + 1) = digest_keyed_again_l1_b K (digest_keyed_again_l1 K k) := rfl
    rw [eu]
    unfold digest_keyed_again_l1_b
    rw [hd, if_neg (by decide)]
  | succ d ih =>
    intro i k w hi hkk st hx hb
    obtain ⟨k, rfl⟩ : ∃ q, k = q + 1 := ⟨k - 1, by omega⟩
    have hd : decide ((i : Int) < (n : Int)) = true := by simp; omega
    have e1 : IntKind.i64.wrap ((i : Int) + 1) = ((i + 1 : Nat) : Int) := by rw [w64 (by omega) (by omega)]; rfl
    obtain ⟨l2, _⟩ := st.drew.ld2 hk
    have hwp : 0 < wordB h := by omega
    have hq : i / wordB h < 8 := Nat.div_lt_of_lt_mul (by omega)
    have ed : IntKind.i64.wrap (Int.tdiv (i : Int) ((wordB h : Nat) : Int)) = ((i / wordB h : Nat) : Int) := by rw [tdiv_nat, wn64 (by omega)]
    have hr := Nat.mod_lt i hwp
    have es : IntKind.i64.wrap (8 * (IntKind.i64.wrap ((IntKind.i64.wrap (((wordB h : Nat) : Int) - 1)) - (Int.tmod (i : Int) ((wordB h : Nat) : Int))))) = ((8 * (wordB h - 1 - i % wordB h) : Nat) : Int) := by
      rw [tmod_nat, w64 (n := ((wordB h : Nat) : Int) - 1) (by omega) (by omega), w64 (n := ((wordB h : Nat) : Int) - 1 - _) (by omega) (by omega), w64 (by omega) (by omega)]; omega
    have hmin : min (8 * (wordB h - 1 - i % wordB h)) IntKind.u64.bits = 8 * (wordB h - 1 - i % wordB h) := Nat.min_eq_left (by simp only [IntKind.bits]; omega)
    have lX : ldI .u64 ⟨gh, i / wordB h, none⟩ w.drew = some (X.getD (i / wordB h) 0) := hx.drew.ldI (by rw [ints_get (by omega)]; simp [List.getD_eq_getElem?_getD, show i / wordB h < X.length by omega])
    have hol : (outW X (wordB h) 8).length = 8 * wordB h := outW_len ..
    have hget : (outW X (wordB h) 8).getD i 0 = IntKind.u8.wrap (Int.fdiv (X.getD (i / wordB h) 0) (2 ^ (8 * (wordB h - 1 - i % wordB h)))) := by
      rw [List.getD_eq_getElem?_getD, outW_get X hwp 8 i (by omega)]; rfl
    obtain ⟨w1, s1, b1, u1'⟩ := hb.drew.stC (i := i) (by rw [ints_length, ovw_len (by omega) (by omega)]; omega) (.int .u8 ((outW X (wordB h) 8).getD i 0))
    rw [ints_set, ovw_set (by omega) (by omega)] at b1
    have u1 : Upd (· = gb) w w1 := u1'.predrew
    obtain ⟨w2, h2, b2, u2⟩ := ih (i + 1) k w1 (by omega) (by omega) (st.upd u1 fun e => hbm e.symm) (hx.upd u1 fun e => hbh e.symm) b1
    refine ⟨w2, ?_, b2, u1.trans' u2 fun _ _ e => e⟩
    have eu : digest_keyed_again_l1 K (k + 1) = digest_keyed_again_l1_b K (digest_keyed_again_l1 K k) := rfl
    have c8 : (0 : Int) ≤ ((i / wordB h : Nat) : Int) ∧ ((i / wordB h : Nat) : Int) < ((8 : Nat) : Int) := ⟨Int.natCast_nonneg _, by exact_mod_cast hq⟩
    have c128 : (0 : Int) ≤ (i : Int) ∧ (i : Int) < ((128 : Nat) : Int) := by omega
    rw [hget] at s1
    rw [eu]
    unfold digest_keyed_again_l1_b
    simp only [add_lit, Nat.zero_add, Nat.mul_one] at l2 ⊢
    rw [hd, if_pos rfl, l2, Option.bind_some, if_pos (by omega), ed, if_pos c8, Int.toNat_natCast, lX, Option.bind_some, Option.bind_some, Option.bind_some, if_pos (by omega), es, if_pos (by omega), if_pos c128]
    simp only [Int.toNat_natCast]
    rw [hmin, s1, Option.bind_some, e1, h2]

theorem built130 (x0 x1 x2 x3 x4 x5 x6 x7 y0 y1 y2 y3 y4 y5 y6 y7 : Int) :
    prog.built 130 [(0, .agg #[.int .u64 x0, .int .u64 x1, .int .u64 x2, .int .u64 x3, .int .u64 x4, .int .u64 x5, .int .u64 x6, .int .u64 x7]), (1, .agg #[.int .u64 y0, .int .u64 y1, .int .u64 y2, .int .u64 y3, .int .u64 y4, .int .u64 y5, .int .u64 y6, .int .u64 y7])] =
      some #[.int .u64 x0, .int .u64 x1, .int .u64 x2, .int .u64 x3, .int .u64 x4, .int .u64 x5, .int .u64 x6, .int .u64 x7, .int .u64 y0, .int .u64 y1, .int .u64 y2, .int .u64 y3, .int .u64 y4, .int .u64 y5, .int .u64 y6, .int .u64 y7] := by kernel_rfl

theorem two_built {X Y : List Int} (hX : X.length = 8) (hY : Y.length = 8) : prog.built 130 [(0, .agg (ints .u64 X).toArray), (1, .agg (ints .u64 Y).toArray)] = some (ints .u64 (X ++ Y)).toArray := by
  obtain ⟨x0, x1, x2, x3, x4, x5, x6, x7, rfl⟩ := list8 hX
  obtain ⟨y0, y1, y2, y3, y4, y5, y6, y7, rfl⟩ := list8 hY
  exact built130 ..

theorem two_get0 {X Y : List Int} (hX : X.length = 8) : (ints .u64 (X ++ Y)).toArray.extract 0 8 = (ints .u64 X).toArray := by
  apply Array.ext'
  simp only [List.extract_toArray, List.extract_eq_take_drop, List.drop_zero, Nat.sub_zero, ints_append]
  rw [List.take_append_of_le_length (by rw [ints_length]; omega), List.take_of_length_le (by rw [ints_length]; omega)]
theorem two_get1 {X Y : List Int} (hX : X.length = 8) (hY : Y.length = 8) : (ints .u64 (X ++ Y)).toArray.extract 8 16 = (ints .u64 Y).toArray := by
  apply Array.ext'
  simp only [List.extract_toArray, List.extract_eq_take_drop, ints_append]
  have h8 : (ints .u64 X).length = 8 := by rw [ints_length]; exact hX
  rw [← h8, List.drop_left, List.take_of_length_le (by rw [ints_length, h8]; omega)]

/-- what stands behind a digest in its block -/
def tl (h : Int) : List Int :=
  (((List.replicate (128 - szH h) 0).set 0 128).set (blk h - 2 - szH h) (IntKind.u8.wrap (Int.fdiv (IntKind.i64.wrap (8 * (IntKind.i64.wrap (((blk h : Nat) : Int) + ((szH h : Nat) : Int))))) (2 ^ 8)))).set (blk h - 1 - szH h) (IntKind.u8.wrap (IntKind.i64.wrap (8 * (IntKind.i64.wrap (((blk h : Nat) : Int) + ((szH h : Nat) : Int))))))

theorem tl_ok {h : Int} (hk : known h = true) : (tl h).length = 128 - szH h ∧ (tl h).take (blk h - szH h) = pads h (blk h + szH h) ∧ szH h < blk h - 2 ∧ szH h ≤ 8 * wordB h ∧ szH h / wordB h * wordB h = szH h := by
  rcases known_cases hk with e | e | e | e <;> subst e <;> decide +kernel

theorem tl_in {h : Int} (hk : known h = true) : ∀ x ∈ tl h, 0 ≤ x ∧ x < 256 := by
  rcases known_cases hk with e | e | e | e <;> subst e <;> decide +kernel

/-- a digest of a key's block and a digest -/
theorem mac_step {h : Int} (hk : known h = true) {C H0 ip us Hi half : List Int} (f : Fed h C H0 ip Hi half) (hip : ip.length = blk h) (hu : us.length = szH h) :
    digestOf h C H0 (ip ++ us) = (outW (compsH h C 1 Hi (us ++ pads h (blk h + szH h))) (wordB h) 8).take (szH h) := by
  have hbp := blk_pos h
  obtain ⟨t1, t2, t3, _⟩ := tl_ok hk
  have hpl : (pads h (blk h + szH h)).length = blk h - szH h := by
    have := congrArg List.length t2
    rw [List.length_take, t1] at this
    have := blk_le h
    omega
  have hl : (ip ++ us).length = blk h + szH h := by rw [List.length_append, hip, hu]
  unfold digestOf
  rw [hl]
  have hl2 : (ip ++ us ++ pads h (blk h + szH h)).length = 2 * blk h := by rw [List.length_append, hl, hpl]; omega
  have hq : 2 * blk h / blk h = 1 + 1 := Nat.mul_div_cancel _ hbp
  rw [hl2, hq, compsH_add h C 1 1, Nat.one_mul]
  have et : (ip ++ us ++ pads h (blk h + szH h)).take (blk h) = ip := by
    rw [List.append_assoc, List.take_append_of_le_length (by omega), List.take_of_length_le (by omega)]
  have e1 : compsH h C 1 H0 (ip ++ us ++ pads h (blk h + szH h)) = Hi := by
    have := compsH_front h C 1 H0 (ip ++ us ++ pads h (blk h + szH h)) (blk h) (by omega)
    rw [et] at this
    rw [← this, f.words, hip, Nat.div_self hbp]
  have e2 : (ip ++ us ++ pads h (blk h + szH h)).drop (blk h) = us ++ pads h (blk h + szH h) := by
    rw [List.append_assoc, List.drop_append_of_le_length (by omega), List.drop_eq_nil_of_le (by omega), List.nil_append]
  rw [e1, e2]
  rfl

/-- one of the two passes -/
theorem again_pass {K : Nat} (hK : 18446744073709551616 ≤ K) {h : Int} (hk : known h = true) {C : List Int} (hC : C.length = 80) {w : World} {gm gb : Nat} {em eb : TypeId} {cs0 : List Value} {cnt : Nat} {H half X us : List Int} (hgm : gm < w.heap.size) (hX : X.length = 8) (hu : us.length = szH h) (hui : ∀ x ∈ us, InK .u8 x)
    (st : StAt w em gm 0 cs0 h cnt H half) (hb : Bk eb w gb (ints .u8 (us ++ tl h))) (hbm : gb ≠ gm) (h4 : 4 ≤ w.heap.size) (hT : Rd w ⟨2, 0, none⟩ (ints .u64 C)) {u1 : Sl} {a56 : Array Value} {i : Int} (hi0 : 0 ≤ i) (hi2 : i < 2) (hex : a56.extract (i.toNat * 8) (i.toNat * 8 + 8) = (ints .u64 X).toArray)
    (rec : Sl → Addr → Addr → Int → Array Value → Int → World → Option ((Unit) × World)) :
    ∃ w', digest_keyed_again_l0_b K rec u1 ⟨gm, 0, none⟩ ⟨gb, 0, none⟩ ((szH h : Nat) : Int) a56 i w = rec u1 ⟨gm, 0, none⟩ ⟨gb, 0, none⟩ ((szH h : Nat) : Int) a56 (IntKind.i64.wrap (i + 1)) w' ∧
      Bk eb w' gb (ints .u8 ((outW (compsH h C 1 X (us ++ pads h (blk h + szH h))) (wordB h) 8).take (szH h) ++ tl h)) ∧ Upd (· = gb) w w' := by
  obtain ⟨t1, t2, t3, t4, t5⟩ := tl_ok hk
  have hbk := blk_le h
  have hbp := blk_pos h
  have hw := wordB_blk h
  have hul : (us ++ tl h).length = 128 := by rw [List.length_append, hu, t1]; omega
  obtain ⟨w1, n1, b1, u1', z1⟩ := newB_ok z80 80 w
  have b1 : Bk 80 w1 w.heap.size z80.toList := b1
  obtain ⟨w2, s2, b2, u2, _⟩ := lay' b1 (vs := ints .u64 X) (by rw [ints_length, hX]; rfl) ints_one
  have hs1 := u1'.size
  have hs2 := u2.size
  have q2 : Upd none_ w w2 := u1'.trans' u2 fun k hk e => by omega
  have q2d : Upd none_ w w2.drew := q2.drew
  have stD := st.upd q2d id
  obtain ⟨l1, _, l3⟩ := stD.ld hk
  have b3 := hb.upd0 q2d
  have hsrc : RdS .u8 w2.drew ⟨some ⟨gb, 0, none⟩, blk h, 128⟩ (us ++ pads h (blk h + szH h)) := by
    have hl : (us ++ pads h (blk h + szH h)).length = blk h := by rw [List.length_append, hu, ← t2, List.length_take, t1]; omega
    have ht : (us ++ tl h).take (blk h) = us ++ pads h (blk h + szH h) := by
      rw [List.take_append, List.take_of_length_le (by omega), hu, t2]
    refine ⟨hl.symm, hbk, .inr ⟨_, rfl, b3.rd 0 _ fun j v hv => ?_⟩⟩
    rw [← ht, ← ints_take, List.getElem?_take] at hv
    split at hv
    · rw [Nat.zero_add]; exact hv
    · cases hv
  have hpin : ∀ x ∈ us ++ pads h (blk h + szH h), InK .u8 x := fun x hx => (List.mem_append.1 hx).elim (hui x) (pads_in h _ x)
  have hl : (us ++ pads h (blk h + szH h)).length = blk h := by rw [List.length_append, hu, ← t2, List.length_take, t1]; omega
  have hgbl := hb.lt
  have hbv : ∀ p, (⟨some ⟨gb, 0, none⟩, blk h, 128⟩ : Sl).a = some p → p.block < w2.drew.heap.size := fun p hp => by
    have e1 : p = ⟨gb, 0, none⟩ := by simpa using hp.symm
    rw [e1]; show gb < w2.heap.size; omega
  obtain ⟨w3, c3, b4, u3⟩ := blocks_ok hK h (gh := w.heap.size) (oh := 0) (eh := 80) hC (show w.heap.size ≠ 2 by omega) (w := w2.drew) (b := ⟨some ⟨gb, 0, none⟩, blk h, 128⟩) (inD hpin) (by omega) hX (by rw [ints_length]; omega)
    (by rw [List.drop_zero, List.take_of_length_le (by rw [ints_length]; omega)]) hbv (.inr (by omega)) hsrc b2.drew (hT.upd q2d fun _ => id)
  have hone : (us ++ pads h (blk h + szH h)).length / blk h = 1 := by rw [hl]; exact Nat.div_self hbp
  rw [hone] at b4
  have hcl := compsH_len h C 1 X (us ++ pads h (blk h + szH h)) hX
  rw [seg_all (by rw [ints_length, ints_length, hcl, hX])] at b4
  have stE := (stD.upd u3 (by omega)).drew
  obtain ⟨m2, _⟩ := stE.ld2 hk
  have b5 := (b3.upd u3 (by omega)).drew
  have q3 : Upd none_ w w3.drew := (q2d.trans' u3 fun k hk e => by omega).drew
  have hover : us ++ tl h = ovw (outW (compsH h C 1 X (us ++ pads h (blk h + szH h))) (wordB h) 8) (us ++ tl h) 0 := by unfold ovw; rw [List.take_zero, List.drop_zero, List.nil_append]
  rw [hover] at b5
  obtain ⟨w6, h6, b6, u6⟩ := again_l1 (K := K) hk (u1 := u1) (a56 := a56) (a57 := i) (n6 := ((szH h : Nat) : Int)) (n := szH h) hcl hul t4 hbm (show gb ≠ w.heap.size by omega) (szH h) 0 K w3.drew (by omega) (by have := szH_ok hk; omega) stE b4.drew b5
  have h6 : digest_keyed_again_l1 K K u1 ⟨gm, 0, none⟩ ⟨gb, 0, none⟩ ((szH h : Nat) : Int) ⟨w.heap.size, 0, none⟩ a56 i ((szH h : Nat) : Int) 0 w3.drew = _ := h6
  have hfin : ovw (outW (compsH h C 1 X (us ++ pads h (blk h + szH h))) (wordB h) 8) (us ++ tl h) (szH h) = (outW (compsH h C 1 X (us ++ pads h (blk h + szH h))) (wordB h) 8).take (szH h) ++ tl h := by
    unfold ovw; rw [← hu, List.drop_left]
  rw [hfin] at b6
  refine ⟨w6, ?_, b6, (q3.mono (T := (· = gb)) fun _ _ e => e.elim).trans' u6 fun _ _ e => e⟩
  have hd : decide (i < 2) = true := by simp; omega
  have cb : (0 : Int) ≤ ((blk h : Nat) : Int) ∧ ((blk h : Nat) : Int) ≤ ((128 : Nat) : Int) := by omega
  have en : IntKind.i64.wrap ((IntKind.i64.wrap (Int.tdiv ((szH h : Nat) : Int) ((wordB h : Nat) : Int))) * ((wordB h : Nat) : Int)) = ((szH h : Nat) : Int) := by
    have hle : szH h / wordB h ≤ szH h := Nat.div_le_self _ _
    have := szH_ok hk
    rw [tdiv_nat, wn64 (by omega)]
    have e : ((szH h / wordB h : Nat) : Int) * ((wordB h : Nat) : Int) = ((szH h / wordB h * wordB h : Nat) : Int) := by simp
    rw [e, t5, wn64 (by omega)]
  unfold digest_keyed_again_l0_b
  rw [hd, if_pos rfl, if_pos ⟨hi0, by omega⟩, n1, bnd_ok, hex]
  simp only [add_lit, Nat.zero_add, sla_zero, Nat.sub_zero] at l1 l3 m2 ⊢
  rw [if_pos (by rw [List.size_toArray, ints_length, hX]), s2, Option.bind_some, l3, Option.bind_some, l1, Option.bind_some, if_pos cb, Int.toNat_natCast]
  have hdy := dyn_again K h (some ⟨w.heap.size, 0, none⟩) ⟨some ⟨gb, 0, none⟩, blk h, 128⟩ w2.drew (β := Unit × World)
  rw [hdy, c3, bnd_ok, m2, Option.bind_some, if_pos (by omega), Option.bind_some, en, h6, bnd_ok]

theorem again_front {K : Nat} {h : Int} (hk : known h = true) {C S ks us : List Int} {w : World} {em : TypeId} {gm : Nat} {Hi hi Ho ho : List Int} (hm : Bk em w gm (stCells h (ipad C S h ks).length Hi hi ++ stCells h (opad C S h ks).length Ho ho)) (fi : Fed h C (firstH S h) (ipad C S h ks) Hi hi) (hii : ∀ x ∈ hi, InK .u8 x) (fo : Fed h C (firstH S h) (opad C S h ks) Ho ho) (hoi : ∀ x ∈ ho, InK .u8 x)
    {B : Nat} {u : Sl} (ha : Ans B w u us) (hu : us.length = szH h) :
    ∃ w5, digest_keyed_again K (some ⟨gm, 0, none⟩) u w = bnd (digest_keyed_again_l0 K K u ⟨gm, 0, none⟩ ⟨w.heap.size, 0, none⟩ ((szH h : Nat) : Int) (ints .u64 (Hi ++ Ho)).toArray 0 w5.drew) (fun y_33 w_34 => bnd (cpy prog 25 25 (.slice u.a u.len u.cap) (.slice (some ⟨w.heap.size, 0, none⟩) (szH h) 128) w_34) fun s_35 w_36 => some ((), w_36)) ∧
      Bk 85 w5 w.heap.size (ints .u8 (us ++ tl h)) ∧ Upd none_ w w5 := by
  obtain ⟨t1, t2, t3, t4, t5⟩ := tl_ok hk
  obtain ⟨_, h28, h64⟩ := szH_ok hk
  have hbk := blk_le h
  have hgm := hm.lt
  have hHi := fi.H8
  have hHo := fo.H8
  have hal := stCells_len h (ipad C S h ks).length fi.H8 fi.len
  have hbl := stCells_len h (opad C S h ks).length fo.H8 fo.len
  have st := st_mk (pre := []) (post := stCells h (opad C S h ks).length Ho ho) (o := 0) hHi fi.len hii rfl (by rw [List.nil_append]; exact hm)
  have st2 := st_mk (pre := stCells h (ipad C S h ks).length Hi hi) (post := []) (o := 142) hHo fo.len hoi hal (by rw [List.append_nil]; exact hm)
  rw [List.nil_append] at st
  rw [List.append_nil] at st2
  have hul : u.len = szH h := by rw [ha.len, hu]
  obtain ⟨w1, n1, b1, u1, z1⟩ := newB_ok z85 85 w
  have b1 : Bk 85 w1 w.heap.size z85.toList := b1
  rw [z85_eq] at b1
  have hs1 := u1.size
  obtain ⟨w2, h2, b2, u2⟩ := cpy_ok (ha.src.upd0 u1) (o := 0) (dLen := 128) (dCap := 128) b1 (by rw [ints_length, List.length_replicate]; omega)
  have hmin : min u.len 128 = szH h := by rw [hul]; omega
  have hz := seg_zero_copy (ks := us) (by omega)
  rw [hu] at hz
  have hmin2 : min (szH h) 128 = szH h := by omega
  rw [hmin2] at hz
  rw [hmin, hz] at b2
  rw [hmin] at h2
  have hs2 := u2.size
  have hll : (us ++ List.replicate (128 - szH h) (0 : Int)).length = 128 := by rw [List.length_append, List.length_replicate, hu]; omega
  obtain ⟨w3, s3, b3, u3⟩ := b2.stC (i := szH h) (by rw [ints_length, hll]; omega) (.int .u8 128)
  rw [ints_set, List.set_append_right _ _ (by omega), hu, Nat.sub_self] at b3
  have q3 : Upd none_ w w3 := (u1.trans' u2 fun k hk e => by omega).trans' u3 fun k hk e => by omega
  have q3d : Upd none_ w w3.drew := q3.drew
  obtain ⟨l1, _, _⟩ := (st.upd q3 id).ld hk
  obtain ⟨m1, _, _⟩ := (st.upd q3d id).ld hk
  have hll2 : (us ++ (List.replicate (128 - szH h) (0 : Int)).set 0 128).length = 128 := by rw [List.length_append, List.length_set, List.length_replicate, hu]; omega
  obtain ⟨w4, s4, b4, u4⟩ := b3.drew.stC (i := blk h - 2) (by rw [ints_length, hll2]; omega) (.int .u8 (IntKind.u8.wrap (Int.fdiv (IntKind.i64.wrap (8 * (IntKind.i64.wrap (((blk h : Nat) : Int) + ((szH h : Nat) : Int))))) (2 ^ 8))))
  rw [ints_set, List.set_append_right _ _ (by omega), hu] at b4
  have hll3 : ∀ x : Int, (us ++ ((List.replicate (128 - szH h) (0 : Int)).set 0 128).set (blk h - 2 - szH h) x).length = 128 := fun x => by rw [List.length_append, List.length_set, List.length_set, List.length_replicate, hu]; omega
  obtain ⟨w5, s5, b5, u5⟩ := b4.stC (i := blk h - 1) (by rw [ints_length, hll3]; omega) (.int .u8 (IntKind.u8.wrap (IntKind.i64.wrap (8 * (IntKind.i64.wrap (((blk h : Nat) : Int) + ((szH h : Nat) : Int)))))))
  rw [ints_set, List.set_append_right _ _ (by omega), hu] at b5
  have b5 : Bk 85 w5 w.heap.size (ints .u8 (us ++ tl h)) := b5
  have hs4 : w3.heap.size ≤ w4.heap.size := u4.size
  have hs5 := u5.size
  have q5 : Upd none_ w w5 := (q3d.trans' u4 fun k hk e => by omega).trans' u5 fun k hk e => by omega
  have q5d : Upd none_ w w5.drew := q5.drew
  have st5 := st.upd q5d id
  have st25 := st2.upd q5d id
  have hml : (stCells h (ipad C S h ks).length Hi hi ++ stCells h (opad C S h ks).length Ho ho).length = 284 := by rw [List.length_append, hal, hbl]
  have lA : ldA 8 ⟨gm, 6, none⟩ w5.drew = some (ints .u64 Hi).toArray := by
    have h8 := st5.at8
    have := st5.bk.ldA (i := 6) (n := 8) (by rw [seg_length (by rw [hal, hml]; omega), hml]; decide)
    rw [Nat.zero_add] at h8
    rw [this, h8]
  have lB : ldA 8 ⟨gm, 148, none⟩ w5.drew = some (ints .u64 Ho).toArray := by
    have h8 := st25.at8
    have := st25.bk.ldA (i := 148) (n := 8) (by rw [seg_length (by rw [hbl, hml]; omega), hml]; decide)
    rw [this, h8]
  refine ⟨w5, ?_, b5, q5⟩
  have cn : (0 : Int) ≤ ((szH h : Nat) : Int) ∧ ((szH h : Nat) : Int) < ((128 : Nat) : Int) := by omega
  have cn2 : (0 : Int) ≤ ((szH h : Nat) : Int) ∧ ((szH h : Nat) : Int) ≤ ((128 : Nat) : Int) := by omega
  have ew2 : IntKind.i64.wrap (((blk h : Nat) : Int) - 2) = ((blk h - 2 : Nat) : Int) := by rw [w64 (by omega) (by omega)]; omega
  have ew1 : IntKind.i64.wrap (((blk h : Nat) : Int) - 1) = ((blk h - 1 : Nat) : Int) := by rw [w64 (by omega) (by omega)]; omega
  have c2 : (0 : Int) ≤ ((blk h - 2 : Nat) : Int) ∧ ((blk h - 2 : Nat) : Int) < ((128 : Nat) : Int) := by omega
  have c1 : (0 : Int) ≤ ((blk h - 1 : Nat) : Int) ∧ ((blk h - 1 : Nat) : Int) < ((128 : Nat) : Int) := by omega
  unfold digest_keyed_again
  rw [Option.bind_some, n1, bnd_ok]
  simp only [add_lit, Nat.zero_add, Nat.add_zero, sla_zero, Nat.sub_zero, Nat.mul_one] at l1 m1 ⊢
  rw [h2, bnd_ok, if_pos cn, Int.toNat_natCast, s3, Option.bind_some, l1, Option.bind_some, m1, Option.bind_some, Option.bind_some, ew2, if_pos c2, Int.toNat_natCast, s4, Option.bind_some, ew1, if_pos c1, Int.toNat_natCast, s5, Option.bind_some, Option.bind_some, Option.bind_some]
  simp only [add_lit, Nat.zero_add, Nat.reduceAdd]
  rw [lA, Option.bind_some, lB, Option.bind_some, two_built hHi hHo, Option.bind_some]
  simp only [if_pos cn2]

theorem again_ok {K : Nat} (hK : 18446744073709551616 ≤ K) {h : Int} (hk : known h = true) {C S ks us : List Int} {w : World} (T : Tabs w C S) {em : TypeId} {gm : Nat} {cs : List Value} (hm : Bk em w gm cs) (kd : KdC C S h ks [] cs) {B : Nat} {u : Sl} (ha : Ans B w u us) (hu : us.length = szH h) (hui : ∀ x ∈ us, InK .u8 x) (hum : ∀ k, u.blk = some k → k ≠ gm) :
    ∃ w', digest_keyed_again K (some ⟨gm, 0, none⟩) u w = some ((), w') ∧ Ans B w' u (macOf C S h ks us) ∧ Upd (fun k => u.blk = some k) w w' := by
  have h4 := T.lt
  obtain ⟨t1, t2, t3, t4, t5⟩ := tl_ok hk
  obtain ⟨_, h28, h64⟩ := szH_ok hk
  have hbk := blk_le h
  have hgm := hm.lt
  obtain ⟨a, b, rfl, sa, sb⟩ := kd.ex
  have hal := sa.len
  have hbl := sb.len
  rw [List.append_nil] at sa
  obtain ⟨Hi, hi, rfl, fi, hii⟩ := sa.ex
  obtain ⟨Ho, ho, rfl, fo, hoi⟩ := sb.ex
  have hHi := fi.H8
  have hHo := fo.H8
  have st := st_mk (pre := []) (post := stCells h (opad C S h ks).length Ho ho) (o := 0) hHi fi.len hii rfl (by rw [List.nil_append]; exact hm)
  rw [List.nil_append] at st
  have hul : u.len = szH h := by rw [ha.len, hu]
  obtain ⟨w5, hfront, b5, q5⟩ := again_front (K := K) hk hm fi hii fo hoi ha hu
  have q5d : Upd none_ w w5.drew := q5.drew
  have st5 := st.upd q5d id
  have hs5 := b5.lt
  have hs5d : w.heap.size < w5.drew.heap.size := by show w.heap.size < w5.heap.size; omega
  -- the two passes
  obtain ⟨w6, p6, b6, u6⟩ := again_pass hK hk T.cl (w := w5.drew) (gm := gm) (gb := w.heap.size) (X := Hi) (us := us) (by omega) hHi hu hui st5 b5.drew (by omega) (by omega) (T.gc.upd q5d fun _ => id) (u1 := u) (a56 := (ints .u64 (Hi ++ Ho)).toArray) (i := 0) (by decide) (by decide) (two_get0 hHi) (digest_keyed_again_l0 K (K - 1))
  rw [← mac_step hk fi (ipad_len hk C S ks) hu] at b6
  have hs6 := u6.size
  have hd1 := digestOf_size hk C (firstH S h) (ipad C S h ks ++ us)
  have q6 : Upd none_ w w6 := q5d.trans' u6 fun k hk e => by omega
  obtain ⟨w7, p7, b7, u7⟩ := again_pass hK hk T.cl (w := w6) (gm := gm) (gb := w.heap.size) (X := Ho) (us := digestOf h C (firstH S h) (ipad C S h ks ++ us)) (by omega) hHo hd1 (digestOf_in h C _ _) (st5.upd u6 (by omega)) b6 (by omega) (by omega) (T.gc.upd q6 fun _ => id) (u1 := u) (a56 := (ints .u64 (Hi ++ Ho)).toArray) (i := 1) (by decide) (by decide) (two_get1 hHi hHo) (digest_keyed_again_l0 K (K - 2))
  rw [← mac_step hk fo (opad_len hk C S ks) hd1] at b7
  have b7 : Bk 85 w7 w.heap.size (ints .u8 (macOf C S h ks us ++ tl h)) := b7
  have hs7 := u7.size
  have q7 : Upd none_ w w7 := q6.trans' u7 fun k hk e => by omega
  have hl0 : digest_keyed_again_l0 K K u ⟨gm, 0, none⟩ ⟨w.heap.size, 0, none⟩ ((szH h : Nat) : Int) (ints .u64 (Hi ++ Ho)).toArray 0 w5.drew = some ((), w7) := by
    obtain ⟨q, hq⟩ : ∃ q, K = q + 1 + 1 + 1 := ⟨K - 3, by omega⟩
    have e1 : K - 1 = q + 1 + 1 := by omega
    have e2 : K - 2 = q + 1 := by omega
    rw [e1] at p6
    rw [e2] at p7
    have eu : digest_keyed_again_l0 K (q + 1 + 1 + 1) = digest_keyed_again_l0_b K (digest_keyed_again_l0 K (q + 1 + 1)) := rfl
    have eu2 : digest_keyed_again_l0 K (q + 1 + 1) = digest_keyed_again_l0_b K (digest_keyed_again_l0 K (q + 1)) := rfl
    have eu3 : digest_keyed_again_l0 K (q + 1) = digest_keyed_again_l0_b K (digest_keyed_again_l0 K q) := rfl
    have hKq : digest_keyed_again_l0 K K = digest_keyed_again_l0 K (q + 1 + 1 + 1) := congrArg _ hq
    rw [hKq, eu, p6, eu2]
    have ei : IntKind.i64.wrap (0 + 1) = 1 := by decide
    rw [ei, p7, eu3]
    have ei2 : IntKind.i64.wrap (1 + 1) = 2 := by decide
    rw [ei2]
    unfold digest_keyed_again_l0_b
    rw [if_neg (by decide)]
  -- what is put back
  obtain ⟨⟨gu, cu, a1, a2, a3, a4, a5⟩, a6, a7⟩ := ha
  have hguw := a3.lt
  have hug : gu ≠ gm := hum gu (by simp [Sl.blk, a1])
  have a3' := a3.upd0 q7
  have hsrc : Src w7 ⟨some ⟨w.heap.size, 0, none⟩, szH h, 128⟩ (ints .u8 (macOf C S h ks us)) := by
    have hml := macOf_size hk C S ks us
    refine ⟨by rw [ints_length]; exact hml.symm, by show szH h ≤ 128; omega, .inr ⟨_, rfl, b7.rd 0 _ fun i v hv => ?_⟩, ints_one⟩
    rw [Nat.zero_add, ints_append, List.getElem?_append_left (by have := (List.getElem?_eq_some_iff.1 hv).1; exact this)]
    exact hv
  obtain ⟨w8, h8, b8, u8⟩ := cpy_ok hsrc (o := 0) (dLen := u.len) (dCap := u.cap) a3' (by show 0 + min (szH h) u.len ≤ _; omega)
  have hmin3 : min (szH h) u.len = szH h := by omega
  have hml := macOf_size hk C S ks us
  rw [show (⟨some ⟨w.heap.size, 0, none⟩, szH h, 128⟩ : Sl).len = szH h from rfl, hmin3, List.take_of_length_le (by rw [ints_length]; omega)] at b8
  refine ⟨w8, ?_, ⟨⟨gu, _, a1, a2, b8, ?_, ?_⟩, by omega, by omega⟩, (q7.mono (T := fun k => u.blk = some k) fun _ _ e => e.elim).trans' u8 fun k hk e => by simp [Sl.blk, a1, e]⟩
  · rw [hfront, hl0, bnd_ok]
    rw [a1]
    dsimp only at h8
    rw [h8, bnd_ok]
  · rw [hml]
    unfold seg
    rw [List.take_zero, List.nil_append, List.take_append_of_le_length (by rw [ints_length]; omega), List.take_of_length_le (by rw [ints_length]; omega)]
  · rw [seg_length (by rw [ints_length]; omega)]; omega

end Go.Sh

/- Stretch of package digest. -/
set_option linter.unusedVariables false
namespace Go.Sh
open Go.Fw Go.Sha Go.RowKit Go.Proofs.Tryd

/-- two lists of bytes, byte by byte -/
def xorL (a b : List Int) : List Int := List.zipWith (bits .xor .u8) a b
theorem xorL_len {a b : List Int} (h : a.length = b.length) : (xorL a b).length = a.length := by unfold xorL; rw [List.length_zipWith]; omega
theorem xorL_in {a b : List Int} (ha : ∀ x ∈ a, InK .u8 x) (hb : ∀ x ∈ b, InK .u8 x) : ∀ x ∈ xorL a b, InK .u8 x := by
  intro x hx
  unfold xorL at hx
  obtain ⟨i, hi, rfl⟩ := List.mem_iff_getElem.1 hx
  rw [List.getElem_zipWith]
  exact InK.xor rfl (ha _ (List.getElem_mem _)) (hb _ (List.getElem_mem _))

def xp (a b : List Int) (i : Nat) : List Int := xorL (a.take i) (b.take i) ++ a.drop i
theorem xp_zero (a b : List Int) : xp a b 0 = a := by unfold xp xorL; simp
theorem xp_all {a b : List Int} (h : a.length = b.length) : xp a b a.length = xorL a b := by
  unfold xp; rw [List.take_length, h, List.take_length, ← h, List.drop_length, List.append_nil]
theorem xp_len {a b : List Int} {i : Nat} (h : a.length = b.length) (hi : i ≤ a.length) : (xp a b i).length = a.length := by
  unfold xp; rw [List.length_append, xorL_len (by rw [List.length_take, List.length_take]; omega), List.length_take, List.length_drop]; omega
theorem xp_at {a b : List Int} {i : Nat} (h : a.length = b.length) (hi : i < a.length) : (xp a b i)[i]? = some (a.getD i 0) := by
  unfold xp
  have hl : (xorL (a.take i) (b.take i)).length = i := by rw [xorL_len (by rw [List.length_take, List.length_take]; omega), List.length_take]; omega
  rw [List.getElem?_append_right (by omega), hl, Nat.sub_self, List.getElem?_drop, Nat.add_zero, List.getD_eq_getElem?_getD, List.getElem?_eq_getElem hi]; rfl
theorem xp_set {a b : List Int} {i : Nat} (h : a.length = b.length) (hi : i < a.length) : (xp a b i).set i (bits .xor .u8 (a.getD i 0) (b.getD i 0)) = xp a b (i + 1) := by
  unfold xp
  have hl : (xorL (a.take i) (b.take i)).length = i := by rw [xorL_len (by rw [List.length_take, List.length_take]; omega), List.length_take]; omega
  rw [List.set_append_right _ _ (by omega), hl, Nat.sub_self, drop_getD hi 0, List.set_cons_zero, take_succ_getD hi 0, take_succ_getD (show i < b.length by omega) 0]
  unfold xorL
  rw [List.zipWith_append (by rw [List.length_take, List.length_take]; omega), List.append_assoc]; rfl

theorem own_at {w : World} {s : Sl} {xs : List Int} (h : Own 5 w s (ints .u8 xs)) {i : Nat} {x : Int} (hi : xs[i]? = some x) : ∃ p, s.a = some p ∧ ldI .u8 (p.add i) w = some x := by
  have hl := (List.getElem?_eq_some_iff.1 hi).1
  obtain ⟨p, hp, hld⟩ := src_ld (h.src ints_one) hl
  refine ⟨p, hp, ?_⟩
  rw [hld, List.getD_eq_getElem?_getD, hi]; rfl

theorem Stretch_l6 {K : Nat} {p2 : Sl} {p3 p4 : Int} {p13 : Addr} {p15 p17 : Sl} {p16 p81 p82 : Int} {u sum : Sl} {us sm : List Int} (hl : sm.length = us.length) (hl2 : us.length ≤ 64) (hne : ∀ q, u.a = some q → us ≠ [] → sum.blk ≠ some q.block) :
    ∀ (d i k : Nat) (w : World), i + d = us.length → d < k → Src w u (ints .u8 us) → Own 5 w sum (ints .u8 (xp sm us i)) →
      ∃ w', digest_Stretch_l6 K k p2 p3 p4 p13 p15 p16 p17 sum p81 p82 u ((u.len : Nat) : Int) (i : Int) w = some ((), w') ∧ Own 5 w' sum (ints .u8 (xorL sm us)) ∧ Upd (fun k => sum.blk = some k) w w' := by
  intro d
  induction d with
  | zero =>
    intro i k w hi hkk hu ho
    obtain ⟨k, rfl⟩ : ∃ q, k = q + 1 := ⟨k - 1, by omega⟩
    have hul : u.len = us.length := by rw [hu.len, ints_length]
    have hd : decide ((i : Int) < ((u.len : Nat) : Int)) = false := by rw [hul]; simp; omega
    have e : xp sm us i = xorL sm us := by rw [show i = sm.length by omega, xp_all hl]
    refine ⟨w, ?_, e ▸ ho, Upd.refl _ _⟩
    have eu : digest_Stretch_l6 K (k + 1) = digest_Stretch_l6_b K (digest_Stretch_l6 K k) := rfl
    rw [eu]
    unfold digest_Stretch_l6_b
    rw [hd, if_neg (by decide)]
  | succ d ih =>
    intro i k w hi hkk hu ho
    obtain ⟨k, rfl⟩ : ∃ q, k = q + 1 := ⟨k - 1, by omega⟩
    have hul : u.len = us.length := by rw [hu.len, ints_length]
    have hsl : sum.len = us.length := by rw [ho.len, ints_length, xp_len hl (by omega), hl]
    have hd : decide ((i : Int) < ((u.len : Nat) : Int)) = true := by rw [hul]; simp; omega
    have e1 : IntKind.i64.wrap ((i : Int) + 1) = ((i + 1 : Nat) : Int) := by rw [w64 (by omega) (by omega)]; rfl
    obtain ⟨q, hq, lq⟩ := src_ld hu (show i < us.length by omega)
    obtain ⟨p, hp, lp⟩ := own_at ho (xp_at hl (show i < sm.length by omega))
    obtain ⟨p', w1, hp', s1, o1, u1⟩ := ho.st (i := i) (by omega) (.int .u8 (bits .xor .u8 (sm.getD i 0) (us.getD i 0)))
    obtain rfl : p = p' := Option.some.inj (hp.symm.trans hp')
    rw [ints_set_, xp_set hl (by omega)] at o1
    have hne0 : us ≠ [] := fun e => by rw [e] at hi; simp at hi
    obtain ⟨w2, h2, o2, u2⟩ := ih (i + 1) k w1 (by omega) (by omega) (src_upd hu u1 fun x hx _ => hne x hx hne0) o1
    refine ⟨w2, ?_, o2, u1.trans' u2 fun _ _ e => e⟩
    have c1 : (0 : Int) ≤ (i : Int) ∧ (i : Int) < ((u.len : Nat) : Int) := by omega
    have c2 : (0 : Int) ≤ (i : Int) ∧ (i : Int) < ((sum.len : Nat) : Int) := by omega
    have eu : digest_Stretch_l6 K (k + 1) = digest_Stretch_l6_b K (digest_Stretch_l6 K k) := rfl
    rw [eu]
    unfold digest_Stretch_l6_b
    rw [hd, if_pos rfl, hq, Option.bind_some, if_pos c1, Int.toNat_natCast, Nat.mul_one, lq, Option.bind_some, hp, Option.bind_some, if_pos c2, lp, Option.bind_some, Option.bind_some, if_pos c2, s1, Option.bind_some, e1, h2]

/-- the codes, one after the other -/
def strU (C S : List Int) (h : Int) (pass x : List Int) : Nat → List Int
  | 0 => macOf C S h pass x
  | t + 1 => macOf C S h pass (strU C S h pass x t)
/-- .. put together -/
def strF (C S : List Int) (h : Int) (pass x : List Int) : Nat → List Int
  | 0 => strU C S h pass x 0
  | t + 1 => xorL (strF C S h pass x t) (strU C S h pass x (t + 1))

theorem strU_len {h : Int} (hk : known h = true) (C S pass x : List Int) : ∀ t, (strU C S h pass x t).length = szH h
  | 0 => macOf_size hk ..
  | t + 1 => macOf_size hk ..
theorem strU_in (C S : List Int) (h : Int) (pass x : List Int) : ∀ t, ∀ y ∈ strU C S h pass x t, InK .u8 y
  | 0 => macOf_in C S h pass _
  | t + 1 => macOf_in C S h pass _
theorem strF_len {h : Int} (hk : known h = true) (C S pass x : List Int) : ∀ t, (strF C S h pass x t).length = szH h
  | 0 => macOf_size hk ..
  | t + 1 => by unfold strF; rw [xorL_len (by rw [strF_len hk C S pass x t, strU_len hk]), strF_len hk C S pass x t]
theorem strF_in (C S : List Int) (h : Int) (pass x : List Int) : ∀ t, ∀ y ∈ strF C S h pass x t, InK .u8 y
  | 0 => strU_in C S h pass x 0
  | t + 1 => by unfold strF; exact xorL_in (strF_in C S h pass x t) (strU_in C S h pass x (t + 1))

theorem Stretch_l5 {K : Nat} (hK : 18446744073709551616 ≤ K) {h : Int} (hk : known h = true) {C S pass x : List Int} {em : TypeId} {gm : Nat} {cs : List Value} (kd : KdC C S h pass [] cs) {B : Nat} {p2 : Sl} {p3 p4 : Int} {p15 : Sl} {p16 : Int} {u sum : Sl} (hum : ∀ k, u.blk = some k → k ≠ gm) (hsm : ∀ k, sum.blk = some k → k ≠ gm) (hB : 4 ≤ B) (hub : ∀ k, u.blk = some k → B ≤ k) (hsb : ∀ k, sum.blk = some k → B ≤ k) (hus : ∀ k, u.blk = some k → sum.blk ≠ some k) {m : Nat} (hm : m ≤ 1048576) :
    ∀ (d t k : Nat) (w : World), t + d = m → d < k → Tabs w C S → Bk em w gm cs → Ans B w u (strU C S h pass x t) → Own 5 w sum (ints .u8 (strF C S h pass x t)) →
      ∃ w', digest_Stretch_l5 K k p2 p3 p4 ⟨gm, 0, none⟩ p15 p16 u sum (m : Int) (t : Int) w = some ((), w') ∧ Own 5 w' sum (ints .u8 (strF C S h pass x m)) ∧ Upd (fun k => u.blk = some k ∨ sum.blk = some k) w w' := by
  intro d
  induction d with
  | zero =>
    intro t k w ht hkk hT hb hu ho
    obtain ⟨k, rfl⟩ : ∃ q, k = q + 1 := ⟨k - 1, by omega⟩
    have htt : t = m := by omega
    have hd : decide ((t : Int) < (m : Int)) = false := by simp; omega
    refine ⟨w, ?_, htt ▸ ho, Upd.refl _ _⟩
    have eu : digest_Stretch_l5 K (k + 1) = digest_Stretch_l5_b K (digest_Stretch_l5 K k) := rfl
    rw [eu]
    unfold digest_Stretch_l5_b
    rw [hd, if_neg (by decide)]
  | succ d ih =>
    intro t k w ht hkk hT hb hu ho
    obtain ⟨k, rfl⟩ : ∃ q, k = q + 1 := ⟨k - 1, by omega⟩
    have hd : decide ((t : Int) < (m : Int)) = true := by simp; omega
    have e1 : IntKind.i64.wrap ((t : Int) + 1) = ((t + 1 : Nat) : Int) := by rw [w64 (by omega) (by omega)]; rfl
    obtain ⟨_, h28, h64⟩ := szH_ok hk
    obtain ⟨w1, h1, a1, u1⟩ := again_ok hK hk hT hb kd hu (strU_len hk C S pass x t) (strU_in C S h pass x t) hum
    have a1 : Ans B w1 u (strU C S h pass x (t + 1)) := a1
    have o1 := ho.upd u1 fun k hk e => hus k e hk
    have hul := strU_len hk C S pass x (t + 1)
    obtain ⟨w2, h2, o2, u2⟩ := Stretch_l6 (K := K) (p2 := p2) (p3 := p3) (p4 := p4) (p13 := ⟨gm, 0, none⟩) (p15 := p15) (p17 := u) (p16 := p16) (p81 := (m : Int)) (p82 := (t : Int)) (sm := strF C S h pass x t) (us := strU C S h pass x (t + 1)) (by rw [strF_len hk, hul]) (by omega)
      (fun q hq _ e => hus q.block (by simp [Sl.blk, hq]) e) (strU C S h pass x (t + 1)).length 0 K w1 (by omega) (by omega) a1.src (by rw [xp_zero]; exact o1)
    have h2 : digest_Stretch_l6 K K p2 p3 p4 ⟨gm, 0, none⟩ p15 p16 u sum (m : Int) (t : Int) u ((u.len : Nat) : Int) 0 w1 = _ := h2
    have q : Upd (fun k => u.blk = some k ∨ sum.blk = some k) w w2 := (u1.mono fun k _ e => .inl e).trans' (u2.mono (T := fun k => u.blk = some k ∨ sum.blk = some k) fun k _ e => .inr e) fun _ _ e => e
    obtain ⟨w3, h3, o3, u3⟩ := ih (t + 1) k w2 (by omega) (by omega) (hT.upd q fun k hk e => by
      rcases e with e | e
      · have := hub k e; omega
      · have := hsb k e; omega) (hb.upd q fun e => by
      rcases e with e | e
      · exact hum _ e rfl
      · exact hsm _ e rfl) (a1.upd u2 fun k hk e => hus k hk e) o2
    refine ⟨w3, ?_, o3, q.trans' u3 fun _ _ e => e⟩
    have eu : digest_Stretch_l5 K (k + 1) = digest_Stretch_l5_b K (digest_Stretch_l5 K k) := rfl
    rw [eu]
    unfold digest_Stretch_l5_b
    rw [hd, if_pos rfl, h1, bnd_ok, h2, bnd_ok, e1, h3]

theorem Stretch_s4 {K : Nat} (hK : 18446744073709551616 ≤ K) {h : Int} (hk : known h = true) {C S pass salt : List Int} {w : World} (T : Tabs w C S) {em : TypeId} {gm : Nat} {cs : List Value} (hb : Bk em w gm cs) (kd : KdC C S h pass [] cs) {s : Sl} (hs : PartOk w (s, salt)) (hsl : salt.length ≤ 33554432) (i : Int) :
    ∃ u w', digest_Stretch_s4 K s ⟨gm, 0, none⟩ i w = some ((u, ()), w') ∧ Ans w.heap.size w' u (macOf C S h pass (salt ++ bigB i 4)) ∧ Upd none_ w w' := by
  have lA : ∀ {w' : World}, Bk em w' gm cs → ldA 284 ⟨gm, 0, none⟩ w' = some cs.toArray := by
    intro w' hb
    have := hb.ldA (i := 0) (n := 284) (by rw [kd.len]; decide)
    rw [List.drop_zero, List.take_of_length_le (by rw [kd.len]; decide)] at this
    exact this
  obtain ⟨r, w1, h1, o1, bl1, f1⟩ := big_ok hK (B := w.heap.size) i (m := 4) (by decide) (w := w.drew) (s := ⟨none, 0, 0⟩) (xs := []) (Own.nil 5 w.drew) (by decide) (Nat.le_refl _) (fun k hk => by cases hk)
  have h1 : digest_big K ⟨none, 0, 0⟩ i 4 w.drew = _ := h1
  rw [List.nil_append] at o1
  have u1 : Upd none_ w w1 := (Upd.of_below (S := none_) (w := w.drew) bl1).predrew
  have hs1 := u1.size
  have hb1 := hb.upd0 u1
  have p1 : PartOk w1 (s, salt) := ⟨hs.1.upd0 u1, hs.2.1, hs.2.2.1, fun q hq => by have := hs.2.2.2 q hq; omega⟩
  have p2 : PartOk w1 (r, bigB i 4) := ⟨o1.src ints_one, bigB_in i 4, by rw [show (r, bigB i 4).2.length = 4 from bigB_len i 4]; decide, lt_of_blk fun k hk => o1.lt hk⟩
  obtain ⟨w2, c1, c2, u2⟩ := some_parts [(s, salt), (r, bigB i 4)] (fun p hp => by
    simp only [List.mem_cons, List.not_mem_nil, or_false] at hp
    rcases hp with rfl | rfl
    · exact p1
    · exact p2) (by simp) (by simp)
  have c1 : bldS prog 24 2 #[(0, (.slice s.a s.len s.cap)), (1, (.slice r.a r.len r.cap))] w1 = some (⟨some ⟨w1.heap.size, 0, none⟩, 2, 2⟩, w2) := c1
  have c2 : Parts w2 ⟨some ⟨w1.heap.size, 0, none⟩, 2, 2⟩ ([(s, salt), (r, bigB i 4)].map (·.2)) (fun k => k < w2.heap.size) := c2
  have hfl : ([(s, salt), (r, bigB i 4)].map (·.2)).flatten = salt ++ bigB i 4 := by simp
  have hs2 := u2.size
  obtain ⟨u, w3, d1, d2, u3⟩ := kcode_ok hK hk ((T.upd0 u1).upd0 u2) kd c2 (fun k hk => hk) (by rw [hfl, List.length_append, bigB_len]; omega)
  rw [hfl] at d2
  refine ⟨u, w3, ?_, d2.mono (by omega), (u1.and0 u2).and0 u3⟩
  unfold digest_Stretch_s4
  rw [lA hb.drew, Option.bind_some, h1, bnd_ok, lA hb1, Option.bind_some, sameK_self, c1, bnd_ok, lA (hb1.upd0 u2), Option.bind_some, sameK_self, d1, bnd_ok, lA ((hb1.upd0 u2).upd0 u3), Option.bind_some, sameK_self]

/-- j blocks, one behind the other -/
def strO (C S : List Int) (h : Int) (pass salt : List Int) (m : Nat) : Nat → List Int
  | 0 => []
  | j + 1 => strO C S h pass salt m j ++ strF C S h pass (salt ++ bigB ((j + 1 : Nat) : Int) 4) m

theorem strO_len {h : Int} (hk : known h = true) (C S pass salt : List Int) (m : Nat) : ∀ j, (strO C S h pass salt m j).length = j * szH h
  | 0 => by simp [strO]
  | j + 1 => by unfold strO; rw [List.length_append, strO_len hk C S pass salt m j, Nat.succ_mul, strF_len hk]

theorem Stretch_l3 {K : Nat} (hK : 18446744073709551616 ≤ K) {h : Int} (hk : known h = true) {C S pass salt : List Int} {s : Sl} (hsl : salt.length ≤ 33554432) {n : Nat} (hn : 0 < n) (hn2 : n ≤ 65536) {m : Nat} (hm : m ≤ 1048575) {gm : Nat} {B : Nat} (hgB : gm < B) {cs : List Value} (kd : KdC C S h pass [] cs) :
    ∀ (d j k : Nat) (w : World) (out : Sl), j + d = cnt h n → d < k → Tabs w C S → Bk 89 w gm cs → PartOk w (s, salt) → (∀ q, s.a = some q → q.block < B) → Own 5 w out (ints .u8 (strO C S h pass salt m j)) → Fresh B out → 4 ≤ B → B ≤ w.heap.size →
      ∃ out' w', digest_Stretch_l3 K k s ((m + 1 : Nat) : Int) (n : Int) ⟨gm, 0, none⟩ out ((j + 1 : Nat) : Int) w = some ((out', ()), w') ∧ Own 5 w' out' (ints .u8 (strO C S h pass salt m (cnt h n))) ∧ Fresh B out' ∧ Below B w w' := by
  obtain ⟨hsz, hs28, hs64⟩ := szH_ok hk
  obtain ⟨hc1, hc2, hc3⟩ := cnt_ok hk hn
  have hcl : cnt h n ≤ 65536 := by
    rcases Nat.lt_or_ge 65536 (cnt h n) with e | e
    · have := hc3 65536 e
      have : 65536 * 28 ≤ 65536 * szH h := Nat.mul_le_mul_left _ hs28
      omega
    · exact e
  intro d
  induction d with
  | zero =>
    intro j k w out hj hkk hT hb hs hsb ho hf h4 hB
    obtain ⟨k, rfl⟩ : ∃ q, k = q + 1 := ⟨k - 1, by omega⟩
    have hol : out.len = j * szH h := by rw [ho.len, ints_length, strO_len hk]
    have hjj : j = cnt h n := by omega
    have hd : decide (((out.len : Nat) : Int) < (n : Int)) = false := by rw [hol, hjj]; simp only [decide_eq_false_iff_not]; omega
    refine ⟨out, w, ?_, hjj ▸ ho, hf, Below.refl B w⟩
    have eu : digest_Stretch_l3 K (k + 1) = digest_Stretch_l3_b K (digest_Stretch_l3 K k) := rfl
    rw [eu]
    unfold digest_Stretch_l3_b
    rw [hd, if_neg (by decide)]
  | succ d ih =>
    intro j k w out hj hkk hT hb hs hsb ho hf h4 hB
    obtain ⟨k, rfl⟩ : ∃ q, k = q + 1 := ⟨k - 1, by omega⟩
    have hol : out.len = j * szH h := by rw [ho.len, ints_length, strO_len hk]
    have hjl := hc3 j (by omega)
    have hd : decide (((out.len : Nat) : Int) < (n : Int)) = true := by rw [hol]; simp only [decide_eq_true_eq]; omega
    have ei : IntKind.u64.wrap (((j + 1 : Nat) : Int) + 1) = ((j + 1 + 1 : Nat) : Int) := by rw [IntKind.wrap_u64]; omega
    have em : IntKind.i64.wrap (((m + 1 : Nat) : Int) - 1) = (m : Int) := by rw [w64 (by omega) (by omega)]; omega
    obtain ⟨u, w1, h1, a1, u1⟩ := Stretch_s4 hK hk hT hb kd hs hsl ((j + 1 : Nat) : Int)
    have hs1 := u1.size
    have a1 : Ans w.heap.size w1 u (strU C S h pass (salt ++ bigB ((j + 1 : Nat) : Int) 4) 0) := a1
    have hul := strU_len hk C S pass (salt ++ bigB ((j + 1 : Nat) : Int) 4) 0
    obtain ⟨sm, w2, h2, l2, o2, u2, f2⟩ := apd_ok sliceB (Own.nil 5 w1) a1.src (by rw [a1.len, hul]; show (0 + szH h) * 1 ≤ _; omega)
    rw [List.nil_append] at o2
    have h2 : apd prog 25 25 (.slice none 0 0) (.slice u.a u.len u.cap) w1 = some (sm, w2) := h2
    have u2' : Upd none_ w1 w2 := u2.mono fun k _ e => by cases e
    have hs2 := u2'.size
    have fsm : ∀ k, sm.blk = some k → w1.heap.size ≤ k := fun k hk => by
      rcases f2 with e | e
      · rw [e] at hk; cases hk
      · rw [e] at hk; have := Option.some.inj hk; omega
    have hub : ∀ k, u.blk = some k → w.heap.size ≤ k ∧ k < w1.heap.size := fun k hk => ⟨a1.fresh k hk, a1.lt hk⟩
    have q2 := u1.and0 u2'
    obtain ⟨w3, h3, o3, u3⟩ := Stretch_l5 hK hk kd (x := salt ++ bigB ((j + 1 : Nat) : Int) 4) (em := 89) (gm := gm) (B := w.heap.size) (p2 := s) (p3 := ((m + 1 : Nat) : Int)) (p4 := (n : Int)) (p15 := out) (p16 := ((j + 1 : Nat) : Int)) (u := u) (sum := sm) (fun k hk => by have := hub k hk; omega) (fun k hk => by have := fsm k hk; omega) (by omega) (fun k hk => (hub k hk).1) (fun k hk => by have := fsm k hk; omega) (fun k hk e => by have := hub k hk; have := fsm k e; omega) (m := m) (by omega)
      m 0 K w2 (by omega) (by omega) (hT.upd0 q2) (hb.upd0 q2) (a1.upd0 u2') o2
    have h3 : digest_Stretch_l5 K K s ((m + 1 : Nat) : Int) (n : Int) ⟨gm, 0, none⟩ out ((j + 1 : Nat) : Int) u sm (m : Int) 0 w2 = _ := h3
    have hs3 := u3.size
    have q3 : Upd none_ w w3 := q2.trans' u3 fun k hk e => by
      rcases e with e | e
      · have := hub k e; omega
      · have := fsm k e; omega
    have hfl := strF_len hk C S pass (salt ++ bigB ((j + 1 : Nat) : Int) 4) m
    obtain ⟨o4, w4, h4', l4, o4', u4, f4⟩ := apd_ok sliceB (ho.upd0 q3) (o3.src ints_one) (by rw [hol, o3.len, ints_length, hfl]; omega)
    rw [← ints_append] at o4'
    have o4' : Own 5 w4 o4 (ints .u8 (strO C S h pass salt m (j + 1))) := o4'
    have hob : ∀ k, out.blk = some k → k < w.heap.size := fun k hk => ho.lt hk
    have q4 : Upd (fun k => out.blk = some k) w w4 := (q3.mono (T := fun k => out.blk = some k) fun _ _ e => e.elim).trans' u4 fun _ _ e => e
    have bl : Below B w w4 := q4.below hB fun k hk e => by have := hf k e; omega
    have hs4 := q4.size
    obtain ⟨out', w', g1, g2, g3, g4⟩ := ih (j + 1) k w4 o4 (by omega) (by omega) (hT.upd q4 fun k hk e => by have := hf k e; omega) (hb.upd q4 fun e => by have := hf _ e; omega)
      ⟨hs.1.upd q4 fun q hq e => by have := hf _ e; have := hsb q hq; omega, hs.2.1, hs.2.2.1, fun q hq => by have := hs.2.2.2 q hq; omega⟩ hsb o4'
      (fun k hk => by
        rcases f4 with f4 | f4
        · exact hf k (f4 ▸ hk)
        · rw [f4] at hk; have := Option.some.inj hk; omega) h4 (by omega)
    refine ⟨out', w', ?_, g2, g3, bl.trans g4⟩
    have eu : digest_Stretch_l3 K (k + 1) = digest_Stretch_l3_b K (digest_Stretch_l3 K k) := rfl
    rw [eu]
    unfold digest_Stretch_l3_b
    rw [hd, if_pos rfl, h1, bnd_ok]
    dsimp only
    rw [h2, bnd_ok, em, h3, bnd_ok, h4', bnd_ok, ei, g1]

end Go.Sh

/- What Stretch answers, whatever it is asked. -/
set_option linter.unusedVariables false
namespace Go.Sh
open Go.Fw Go.Sha Go.RowKit Go.Proofs.Tryd Go.Deep

/-- what Stretch refuses -/
def strErr (h : Int) (p s : Nat) (turns n : Int) : Int :=
  if known h = false then 10 else if p > 33554432 ∨ s > 33554428 then 4 else if turns < 1 ∨ turns > 1048576 then 11 else if n < 1 ∨ n > 65536 ∨ turns * ((cnt h n.toNat : Nat) : Int) > 2097152 then 12 else 0

theorem strErr_10 {h : Int} (hk : known h = false) (p s : Nat) (t n : Int) : strErr h p s t n = 10 := by unfold strErr; rw [if_pos hk]
theorem strErr_4 {h : Int} (hk : known h = true) {p s : Nat} (h1 : p > 33554432 ∨ s > 33554428) (t n : Int) : strErr h p s t n = 4 := by
  unfold strErr; rw [if_neg (by rw [hk]; decide), if_pos h1]
theorem strErr_11 {h : Int} (hk : known h = true) {p s : Nat} (h1 : ¬ (p > 33554432 ∨ s > 33554428)) {t : Int} (h2 : t < 1 ∨ t > 1048576) (n : Int) : strErr h p s t n = 11 := by
  unfold strErr; rw [if_neg (by rw [hk]; decide), if_neg h1, if_pos h2]
theorem strErr_12 {h : Int} (hk : known h = true) {p s : Nat} (h1 : ¬ (p > 33554432 ∨ s > 33554428)) {t n : Int} (h2 : ¬ (t < 1 ∨ t > 1048576)) (h3 : n < 1 ∨ n > 65536 ∨ t * ((cnt h n.toNat : Nat) : Int) > 2097152) : strErr h p s t n = 12 := by
  unfold strErr; rw [if_neg (by rw [hk]; decide), if_neg h1, if_neg h2, if_pos h3]
theorem strErr_0 {h : Int} (hk : known h = true) {p s : Nat} (h1 : ¬ (p > 33554432 ∨ s > 33554428)) {t n : Int} (h2 : ¬ (t < 1 ∨ t > 1048576)) (h3 : ¬ (n < 1 ∨ n > 65536 ∨ t * ((cnt h n.toNat : Nat) : Int) > 2097152)) : strErr h p s t n = 0 := by
  unfold strErr; rw [if_neg (by rw [hk]; decide), if_neg h1, if_neg h2, if_neg h3]

theorem cnt_le {h : Int} (hk : known h = true) {n : Nat} (hn : n ≤ 65536) : cnt h n ≤ 65536 := by
  obtain ⟨_, h28, h64⟩ := szH_ok hk
  unfold cnt
  exact Nat.le_trans (Nat.div_le_div_right (c := szH h) (show n + szH h - 1 ≤ 65536 * szH h by omega)) (by rw [Nat.mul_div_cancel _ (by omega)]; exact Nat.le_refl _)

theorem cnt_reckon {h : Int} (hk : known h = true) {t n : Int} (ht : ¬ (t < 1 ∨ t > 1048576)) (h1 : ¬ n < 1) (h2 : ¬ n > 65536) :
    IntKind.i64.wrap (t * (IntKind.i64.wrap (Int.tdiv (IntKind.i64.wrap ((IntKind.i64.wrap (n + sizeOfH h)) - 1)) (sizeOfH h)))) = t * ((cnt h n.toNat : Nat) : Int) := by
  obtain ⟨e, h28, h64⟩ := szH_ok hk
  obtain ⟨m, rfl⟩ : ∃ m : Nat, n = (m : Int) := ⟨n.toNat, by omega⟩
  obtain ⟨q, rfl⟩ : ∃ q : Nat, t = (q : Int) := ⟨t.toNat, by omega⟩
  have hc := cnt_le hk (n := m) (by omega)
  have hq : q * cnt h m ≤ 1048576 * 65536 := Nat.mul_le_mul (by omega) hc
  rw [e, w64 (n := (m : Int) + _) (by omega) (by omega), w64 (n := (m : Int) + _ - 1) (by omega) (by omega), Int.toNat_natCast]
  have e1 : (m : Int) + ((szH h : Nat) : Int) - 1 = ((m + szH h - 1 : Nat) : Int) := by omega
  have e2 : (m + szH h - 1) / szH h = cnt h m := rfl
  rw [e1, tdiv_nat, e2, wn64 (by omega)]
  have e3 : (q : Int) * ((cnt h m : Nat) : Int) = ((q * cnt h m : Nat) : Int) := by simp
  rw [e3, wn64 (by omega)]

theorem size_ne {h : Int} (hk : known h = true) : sizeOfH h ≠ 0 := by obtain ⟨e, h28, _⟩ := szH_ok hk; omega

theorem Stretch_s0_ok {K : Nat} {h : Int} {pass salt : Sl} {t n : Int} (w : World) :
    digest_Stretch_s0 K pass salt t n (sizeOfH h) w = some (if strErr h pass.len salt.len t n = 0 then .norm () else .ret (⟨none, 0, 0⟩, strErr h pass.len salt.len t n, ()), w) := by
  unfold digest_Stretch_s0
  rw [size_zero]
  cases hk : known h with
  | false => rw [strErr_10 hk]; rfl
  | true =>
    rw [if_neg (by decide)]
    have e1 : digest_Stretch_s1 K pass salt w = some ((decide (pass.len > 33554432 ∨ salt.len > 33554428), ()), w) := by
      unfold digest_Stretch_s1
      by_cases h2 : pass.len > 33554432
      · have hd : decide (((pass.len : Nat) : Int) > 33554432) = true := by simp only [decide_eq_true_eq]; omega
        rw [hd, if_pos rfl, decide_eq_true (show pass.len > 33554432 ∨ salt.len > 33554428 from .inl h2)]
      · have hd : decide (((pass.len : Nat) : Int) > 33554432) = false := by simp only [decide_eq_false_iff_not]; omega
        have hd2 : decide (((salt.len : Nat) : Int) > 33554428) = decide (pass.len > 33554432 ∨ salt.len > 33554428) := by
          by_cases h3 : salt.len > 33554428
          · rw [decide_eq_true (show pass.len > 33554432 ∨ salt.len > 33554428 from .inr h3)]; simp only [decide_eq_true_eq]; omega
          · rw [decide_eq_false (show ¬ (pass.len > 33554432 ∨ salt.len > 33554428) by omega)]; simp only [decide_eq_false_iff_not]; omega
        rw [hd, if_neg (by decide), hd2]
    have e2 : digest_Stretch_s2 K t w = some ((decide (t < 1 ∨ t > 1048576), ()), w) := by
      unfold digest_Stretch_s2
      by_cases h2 : t < 1
      · rw [decide_eq_true h2, if_pos rfl, decide_eq_true (show t < 1 ∨ t > 1048576 from .inl h2)]
      · rw [decide_eq_false h2, if_neg (by decide)]
        by_cases h3 : t > 1048576
        · rw [decide_eq_true h3, decide_eq_true (show t < 1 ∨ t > 1048576 from .inr h3)]
        · rw [decide_eq_false h3, decide_eq_false (show ¬ (t < 1 ∨ t > 1048576) by omega)]
    rw [e1, bnd_ok]
    dsimp only
    by_cases c1 : pass.len > 33554432 ∨ salt.len > 33554428
    · rw [decide_eq_true c1, if_pos rfl, strErr_4 hk c1, if_neg (by decide)]
    · rw [decide_eq_false c1, if_neg (by decide), e2, bnd_ok]
      dsimp only
      by_cases c2 : t < 1 ∨ t > 1048576
      · rw [decide_eq_true c2, if_pos rfl, strErr_11 hk c1 c2, if_neg (by decide)]
      · rw [decide_eq_false c2, if_neg (by decide)]
        by_cases c3 : n < 1
        · rw [decide_eq_true c3, if_pos rfl, strErr_12 hk c1 c2 (.inl c3), if_neg (by decide)]
        · rw [decide_eq_false c3, if_neg (by decide)]
          by_cases c4 : n > 65536
          · rw [decide_eq_true c4, if_pos rfl, strErr_12 hk c1 c2 (.inr (.inl c4)), if_neg (by decide)]
          · rw [decide_eq_false c4, if_neg (by decide), if_pos (size_ne hk), cnt_reckon hk c2 c3 c4]
            by_cases c5 : t * ((cnt h n.toNat : Nat) : Int) > 2097152
            · rw [decide_eq_true c5, if_pos rfl, strErr_12 hk c1 c2 (.inr (.inr c5)), if_neg (by decide)]
            · rw [decide_eq_false c5, if_neg (by decide), strErr_0 hk c1 c2 (fun e => e.elim c3 fun e => e.elim c4 c5), if_pos rfl]

theorem strErr_zero {h : Int} {p s : Nat} {t n : Int} (he : strErr h p s t n = 0) : known h = true ∧ p ≤ 33554432 ∧ s ≤ 33554428 ∧ (∃ m : Nat, t = ((m + 1 : Nat) : Int) ∧ m ≤ 1048575) ∧ ∃ m : Nat, n = (m : Int) ∧ 0 < m ∧ m ≤ 65536 := by
  cases hk : known h with
  | false => rw [strErr_10 hk] at he; cases he
  | true =>
    by_cases c1 : p > 33554432 ∨ s > 33554428
    · rw [strErr_4 hk c1] at he; cases he
    · by_cases c2 : t < 1 ∨ t > 1048576
      · rw [strErr_11 hk c1 c2] at he; cases he
      · by_cases c3 : n < 1 ∨ n > 65536 ∨ t * ((cnt h n.toNat : Nat) : Int) > 2097152
        · rw [strErr_12 hk c1 c2 c3] at he; cases he
        · have c4 : ¬ n < 1 := fun e => c3 (.inl e)
          have c5 : ¬ n > 65536 := fun e => c3 (.inr (.inl e))
          exact ⟨rfl, by omega, by omega, ⟨(t - 1).toNat, by omega, by omega⟩, n.toNat, by omega, by omega, by omega⟩

/-- what Stretch tells -/
def strOf (C S : List Int) (h : Int) (pass salt : List Int) (t n : Int) : List Int :=
  if strErr h pass.length salt.length t n = 0 then (strO C S h pass salt (t - 1).toNat (cnt h n.toNat)).take n.toNat else []

theorem strOf_len (C S : List Int) (h : Int) (pass salt : List Int) (t n : Int) : (strOf C S h pass salt t n).length ≤ 65536 := by
  unfold strOf
  split
  · rename_i he
    obtain ⟨hk, _, _, _, m, rfl, _, hm⟩ := strErr_zero he
    rw [List.length_take, Int.toNat_natCast]; omega
  · exact Nat.zero_le _

theorem Stretch_any {K : Nat} (hK : 18446744073709551616 ≤ K) (h : Int) {C S pass salt : List Int} {w : World} (T : Tabs w C S) {sp ss : Sl} (hp : PartOk w (sp, pass)) (hs : PartOk w (ss, salt)) (t n : Int) :
    ∃ s' w', digest_Stretch K h sp ss t n w = some ((s', strErr h pass.length salt.length t n, ()), w') ∧ Vw 5 w' s' (ints .u8 (strOf C S h pass salt t n)) ∧ Fresh w.heap.size s' ∧ Upd none_ w w' := by
  have h4 := T.lt
  have hpl : sp.len = pass.length := by rw [hp.1.len, ints_length]
  have hsl : ss.len = salt.length := by rw [hs.1.len, ints_length]
  obtain ⟨w1, h1, u1⟩ := Size_ok h w
  have hs1 := u1.size
  have hs0 := Stretch_s0_ok (K := K) (h := h) (pass := sp) (salt := ss) (t := t) (n := n) w1
  rw [hpl, hsl] at hs0
  unfold strOf
  by_cases he : strErr h pass.length salt.length t n = 0
  · rw [if_pos he] at hs0 ⊢
    obtain ⟨hk, hl1, hl2, ⟨m, rfl, hm⟩, q, rfl, hq0, hq1⟩ := strErr_zero he
    rw [Int.toNat_natCast]
    have em : (((m + 1 : Nat) : Int) - 1).toNat = m := by omega
    rw [em]
    obtain ⟨hsz, hs28, hs64⟩ := szH_ok hk
    obtain ⟨hc1, hc2, hc3⟩ := cnt_ok hk hq0
    have hcl := cnt_le hk hq1
    obtain ⟨cs, w2, h2, kd, u2⟩ := key_ok hK hk (T.upd0 u1) (hp.1.upd0 u1) hp.2.1 (show pass.length ≤ 1099511627776 by omega) (fun q hq => by have := hp.2.2.2 q hq; show q.block < _; omega)
    have hs2 := u2.size
    obtain ⟨w3, n3, b3, u3, z3⟩ := newB_ok z89 89 w2
    obtain ⟨w4, s4, b4, u4, _⟩ := lay b3 (vs := cs) (by rw [kd.len]; kernel_rfl) kd.one
    have hs3 := u3.size
    have hs4 := u4.size
    have q4 : Upd none_ w w4 := ((u1.and0 u2).and0 u3).trans' u4 fun k hk e => by omega
    obtain ⟨out, w5, h5, o5, f5, bl5⟩ := Stretch_l3 hK hk (C := C) (S := S) (pass := pass) (salt := salt) (s := ss) (by omega) hq0 hq1 (m := m) hm (gm := w2.heap.size) (B := w4.heap.size) b4.lt kd (cnt h q) 0 K w4 ⟨none, 0, 0⟩ (by omega) (by omega) (T.upd0 q4) b4
      ⟨hs.1.upd0 q4, hs.2.1, hs.2.2.1, fun q hq => by have := hs.2.2.2 q hq; show q.block < _; omega⟩ (fun q hq => by have := hs.2.2.2 q hq; omega) (Own.nil 5 w4) (fun k hk => by cases hk) (by omega) (Nat.le_refl _)
    have h5 : digest_Stretch_l3 K K ss ((m + 1 : Nat) : Int) (q : Int) ⟨w2.heap.size, 0, none⟩ ⟨none, 0, 0⟩ 1 w4 = _ := h5
    have hol : out.len = cnt h q * szH h := by rw [o5.len, ints_length, strO_len hk]
    have hcap := o5.cap
    have hne : ints .u8 (strO C S h pass salt m (cnt h q)) ≠ [] := fun e => by
      have := congrArg List.length e
      rw [ints_length, strO_len hk] at this
      simp at this; omega
    have hv := o5.front hne (n := q) (c := q) (by omega) (Nat.le_refl _) (by omega)
    rw [ints_take] at hv
    have esl : sla out.a 0 q 1 = out.a := sla_zero ..
    refine ⟨⟨out.a, q, q⟩, w5, ?_, hv, fun k hk => by have := f5 k hk; have := q4.size; omega, q4.and0 (Upd.of_below bl5)⟩
    unfold digest_Stretch
    rw [h1, bnd_ok, hs0, bnd_ok]
    dsimp only
    rw [h2, bnd_ok, n3, bnd_ok]
    dsimp only
    rw [if_pos (by rw [List.size_toArray, kd.len]), s4, Option.bind_some, h5, bnd_ok]
    dsimp only
    rw [if_pos (by omega), Int.toNat_natCast, if_pos (by omega), esl, he, Nat.sub_zero]
  · rw [if_neg he] at hs0 ⊢
    refine ⟨⟨none, 0, 0⟩, w1, ?_, Vw.nil 5 w1, (fun k hk => by cases hk), u1⟩
    unfold digest_Stretch
    rw [h1, bnd_ok, hs0, bnd_ok]

/-! ### The document's answer -/

end Go.Sh

/- strings.Builder, as the printed functions use it: bytes one by one, then the text. -/
set_option linter.unusedVariables false
namespace Go.Sh
open Go.Fw Go.RowKit Go.Proofs.Tryd


/-- a Builder in block b that holds the bytes xs; all of it in blocks from B on -/
structure BAt (B : Nat) (w : World) (b : Nat) (xs : List Int) : Prop where
  ex : ∃ p s, Bk 105 w b [.pointer p, slV s] ∧ (p = none ∨ p = some ⟨b, 0, none⟩) ∧ Own 5 w s (ints .u8 xs) ∧ s.blk ≠ some b ∧ (∀ k, s.blk = some k → B ≤ k) ∧ (xs = [] → s = nilS)
  bb : B ≤ b

theorem bk_shape {e : TypeId} {w : World} {g : Nat} {cs : List Value} (h : Bk e w g cs) : w.shape? g = some (e, cs.length) := by
  unfold Bk at h
  simp [World.shape?, h]

theorem BAt.new (w : World) : ∃ w', newB z105 105 w = some (⟨w.heap.size, 0, none⟩, w') ∧ BAt w.heap.size w' w.heap.size [] ∧ Upd none_ w w' := by
  obtain ⟨w', h1, h2, h3, h4⟩ := newB_ok z105 105 w
  exact ⟨w', h1, ⟨⟨none, nilS, h2, .inl rfl, Own.nil .., (fun e => by cases e), (fun k hk => by cases hk), fun _ => rfl⟩, Nat.le_refl _⟩, h3⟩

theorem BAt.lt {B : Nat} {w : World} {b : Nat} {xs : List Int} (h : BAt B w b xs) : b < w.heap.size := by
  obtain ⟨p, s, h1, _⟩ := h.ex; exact h1.lt

theorem WriteByte_ok {B : Nat} {w : World} {b : Nat} {xs : List Int} (h : BAt B w b xs) (c : Int) (hl : xs.length + 1 ≤ 140737488355328) :
    ∃ w', strings_Builder_WriteByte (some ⟨b, 0, none⟩) c w = some ((.nilIface, ()), w') ∧ BAt B w' b (xs ++ [c]) ∧ Below B w w' := by
  obtain ⟨⟨p, s, h1, h2, h3, h4, h5, h6⟩, hB⟩ := h
  have hbl := h1.lt
  have hsl : s.len = xs.length := by rw [h3.len, ints_length]
  have hc : ∃ w1, strings_Builder_copyCheck (some ⟨b, 0, none⟩) w = some ((), w1) ∧ Bk 105 w1 b [.pointer (some ⟨b, 0, none⟩), slV s] ∧ Upd (· = b) w w1 := by
    have hg : (⟨b, 0, none⟩ : Addr).off = 0 ∧ (⟨b, 0, none⟩ : Addr).spot = none ∧ w.shape? b = some (105, 2) ∧ w.frozen? ⟨b, 0, none⟩ = false := ⟨rfl, rfl, bk_shape h1, h1.frozen 0⟩
    have hld : ldP ⟨b, 0, none⟩ w = some p := h1.ldP rfl
    unfold strings_Builder_copyCheck
    rw [Option.bind_some, if_pos hg, hld]
    rcases h2 with rfl | rfl
    · exact ⟨_, if_pos rfl, h1.setCell 0 _, Upd.setCell w ⟨b, 0, none⟩ _⟩
    · exact ⟨w, by rw [if_neg (by simp), if_pos rfl], h1, Upd.refl _ _⟩
  obtain ⟨w1, c1, c2, c3⟩ := hc
  have o1 : Own 5 w1 s (ints .u8 xs) := h3.upd c3 fun k hk e => h4 (e ▸ hk)
  obtain ⟨w2, d1, d2, d3, d4⟩ := bldS1_ok sliceB (.int .u8 c) rfl w1
  obtain ⟨s3, w3, e1, e2, e3, e4, e5⟩ := apd_ok sliceB (o1.upd0 d3) (d2.src (by simp [Value.oneCell'])) (by show (s.len + 1) * 1 ≤ _; omega)
  have hs1 := c3.size
  have hs2 := d3.size
  have b3 : Bk 105 w3 b [.pointer (some ⟨b, 0, none⟩), slV s] := (c2.upd0 d3).upd e4 h4
  have hs3b : s3.blk ≠ some b := by
    rcases e5 with e | e
    · rw [e]; exact h4
    · rw [e]; intro e'; have := Option.some.inj e'; omega
  obtain ⟨w4, f1, f2, f3⟩ := b3.stC (i := 1) (Nat.lt_succ_self 1) (.slice s3.a s3.len s3.cap)
  have l1 : ldS ⟨b, 1, none⟩ w1 = some s := c2.ldS rfl
  refine ⟨w4, ?_, ⟨⟨some ⟨b, 0, none⟩, s3, f2, .inr rfl, ?_, hs3b, ?_, fun e => by simp at e⟩, hB⟩, ?_⟩
  · unfold strings_Builder_WriteByte
    rw [c1, bnd_ok]
    simp only [Option.bind_some, add_lit, Nat.zero_add]
    rw [l1, Option.bind_some, d1, bnd_ok]
    dsimp only
    rw [e1, bnd_ok, f1, Option.bind_some]
  · rw [ints_append]; exact e3.upd f3 fun k hk e => hs3b (e ▸ hk)
  · intro k hk
    rcases e5 with e | e
    · exact h5 k (e ▸ hk)
    · rw [e] at hk; have := Option.some.inj hk; omega
  · have b1 : Below B w w1 := c3.below (by omega) fun k hk e => by omega
    have b2 : Below B w1 w2 := d3.below (by omega) fun _ _ => id
    have b3 : Below B w2 w3 := e4.below (by omega) fun k hk e => by have := h5 k e; omega
    have b4 : Below B w3 w4 := f3.below (by have := e4.size; omega) fun k hk e => by omega
    exact ((b1.trans b2).trans b3).trans b4

/-- bytes of a list, as the machine's strings hold them -/
def u8s (xs : List Int) : List UInt8 := xs.map fun n => UInt8.ofNat n.toNat
theorem bytesOf_u8s (xs : List Int) : bytesOf xs = ⟨(u8s xs).toArray⟩ := rfl
theorem u8s_len (xs : List Int) : (u8s xs).length = xs.length := List.length_map ..

theorem upd_freeze {e : TypeId} {w : World} {g : Nat} {cs : List Value} (h : Bk e w g cs) (n : Nat) : Upd (· = g) w (w.freeze ⟨g, 0, none⟩ n) := by
  unfold World.freeze
  split
  · exact Upd.refl _ _
  · refine ⟨rfl, rfl, rfl, by simp, fun k hk hn => ?_⟩
    show (w.heap.modify g _)[k]? = _
    rw [Array.getElem?_modify, if_neg (fun e => hn e.symm)]

theorem BString_ok {B : Nat} {w : World} {b : Nat} {xs : List Int} (h : BAt B w b xs) (hin : ∀ x ∈ xs, 0 ≤ x ∧ x < 256) (hl : xs.length ≤ 140737488355328) (hBw : B ≤ w.heap.size) :
    ∃ w', strings_Builder_String (some ⟨b, 0, none⟩) w = some ((bytesOf xs, ()), w') ∧ Below B w w' := by
  obtain ⟨⟨p, s, h1, h2, h3, h4, h5, h6⟩, hB⟩ := h
  have hsl : s.len = xs.length := by rw [h3.len, ints_length]
  have l1 : ∀ w', Bk 105 w' b [.pointer p, slV s] → ldS ⟨b, 1, none⟩ w' = some s := fun w' h => h.ldS rfl
  have hd := h1.drew
  have sk : ∀ {α : Type} (v : Value) (k : Option α), sameK v v k = k := fun v k => by unfold sameK; exact if_pos rfl
  unfold strings_Builder_String strings_Builder_String_s0
  simp only [Option.bind_some, add_lit, Nat.zero_add]
  rw [l1 _ hd]
  simp only [Option.bind_some]
  by_cases hx : xs = []
  · have hs := h6 hx
    subst hs hx
    have e1 : usSD prog #[25] 133 #[(.slice nilS.a nilS.len nilS.cap)] w.drew = some (.pointer none, w.drew) := rfl
    have e2 : usS prog #[133, 3] 9 #[.pointer none, (.int .i64 ((nilS.len : Nat) : Int))] w.drew = some (.empty, w.drew) := by
      unfold usS
      have := Lib.run_unsafeString_none (P := prog) w.drew 133 3 9 none
      show (match (Builtin.unsafeString_ #[133, 3] 9 #[.pointer none, .int .i64 0]).run prog w.drew with | .ok (.string s) w' => some (s, w') | _ => none) = _
      rw [this]
    refine ⟨w.drew, ?_, Below.drew (Below.refl B w)⟩
    rw [e1, bnd_ok, l1 _ hd]
    simp only [Option.bind_some]
    rw [sk, sk, e2, bnd_ok, l1 _ hd]
    simp only [Option.bind_some]
    rw [sk, sk, bnd_ok]
    rfl
  · have hne : ints .u8 xs ≠ [] := fun e => hx (by cases xs with | nil => rfl | cons y r => cases e)
    obtain ⟨g, cs, a1, a2, a3, a4, a5, a6⟩ := h3.bk hne
    have hgb : g ≠ b := fun e => h4 (by rw [Sl.blk, a1]; exact congrArg some e)
    have hgB : B ≤ g := h5 g (by rw [Sl.blk, a1]; rfl)
    obtain ⟨sa, sl, sc⟩ := s
    have a1 : sa = some ⟨g, 0, none⟩ := a1
    have hsl : sl = xs.length := hsl
    subst a1 hsl
    have a3 : xs.length ≤ sc := a3
    have a4 : sc ≤ maxLen := a4
    have a5 : cs.length = sc := a5
    have a6 : cs.take xs.length = ints .u8 xs := a6
    have hpos : 0 < xs.length := List.length_pos_iff.2 hx
    have e1 : usSD prog #[25] 133 #[(.slice (some ⟨g, 0, none⟩) xs.length sc)] w.drew = some (.pointer (some ⟨g, 0, none⟩), w.drew) := by
      unfold usSD
      rw [Lib.run_unsafeSliceData_row _ _ _ _ _ _ (by omega)]
    have e2 : usS prog #[133, 3] 9 #[.pointer (some ⟨g, 0, none⟩), (.int .i64 ((xs.length : Nat) : Int))] w.drew = some (bytesOf xs, w.drew.freeze ⟨g, 0, none⟩ xs.length) := by
      unfold usS
      have := Lib.run_unsafeString_row (P := prog) w.drew 133 3 9 5 underlying133 (by kernel_rfl) g cs.length (by rw [bk_shape a2.drew]) (u8s xs) (fun e => hx (List.eq_nil_of_length_eq_zero (by rw [← u8s_len, e]; rfl))) (by rw [u8s_len]; omega) (by rw [u8s_len]; omega) (fun j x hj => by
        have hj2 : j < xs.length := by have := (List.getElem?_eq_some_iff.1 hj).1; rwa [u8s_len] at this
        rw [add_lit, Nat.zero_add, a2.drew.cell]
        have h1 : (cs.take xs.length)[j]? = cs[j]? := by rw [List.getElem?_take, if_pos hj2]
        rw [← h1, a6, ints_get hj2]
        have h2 : x = UInt8.ofNat (xs[j]).toNat := by
          unfold u8s at hj
          rw [List.getElem?_map, List.getElem?_eq_getElem hj2] at hj
          exact (Option.some.inj hj).symm
        have hb := hin xs[j] (List.getElem_mem hj2)
        have h3 : (x.toNat : Int) = xs[j] := by rw [h2, UInt8.toNat_ofNat']; omega
        rw [h3])
      rw [u8s_len] at this
      rw [this]
      rfl
    have u3 := upd_freeze a2.drew xs.length
    have b3 : Bk 105 (w.drew.freeze ⟨g, 0, none⟩ xs.length) b [.pointer p, slV ⟨some ⟨g, 0, none⟩, xs.length, sc⟩] := hd.upd u3 (fun e => hgb e.symm)
    refine ⟨w.drew.freeze ⟨g, 0, none⟩ xs.length, ?_, (Below.drew (Below.refl B w)).trans (u3.below (by exact hBw) fun k hk e => by omega)⟩
    rw [e1, bnd_ok, l1 _ hd]
    simp only [Option.bind_some]
    rw [sk, sk, e2, bnd_ok, l1 _ b3]
    simp only [Option.bind_some]
    rw [sk, sk, bnd_ok]

end Go.Sh

/- Hex, both. -/
set_option linter.unusedVariables false
namespace Go.Sh
open Go.Fw Go.RowKit Go.Proofs.Tryd

theorem t0_src_ld {w : World} {s : Sl} {xs : List Int} (h : Src w s (ints .u8 xs)) {i : Nat} (hi : i < xs.length) : ∃ p, s.a = some p ∧ ldI .u8 (p.add i) w = some (xs.getD i 0) := by
  obtain ⟨p, hp, hl⟩ := h.rds.ld
  refine ⟨p, hp (fun e => by rw [e] at hi; simp at hi), ?_⟩
  rw [hl i hi, List.getD_eq_getElem?_getD, List.getElem?_eq_getElem hi]; rfl
theorem t0_src_below {B : Nat} {w w' : World} {s : Sl} {vs : List Value} (h : Src w s vs) (b : Below B w w') (hn : ∀ p, s.a = some p → vs ≠ [] → p.block < B) : Src w' s vs :=
  ⟨h.len, h.cap, h.rd.imp id fun ⟨p, hp, hr⟩ => ⟨p, hp, hr.upd (upd_of_below b) fun hne e => by have := hn p hp hne; omega⟩, h.one⟩
theorem t0_take_succ_getD {α : Type} {l : List α} {i : Nat} (hi : i < l.length) (d : α) : l.take (i + 1) = l.take i ++ [l.getD i d] := by
  rw [List.take_add_one, List.getD_eq_getElem?_getD, List.getElem?_eq_getElem hi]; rfl

/-- a digit -/
def dig (k : Nat) : Int := if k < 10 then 48 + k else 87 + k
def hexOf (xs : List Int) : List Int := xs.flatMap fun x => [dig (x.toNat / 16), dig (x.toNat % 16)]
theorem str1_fin : ∀ k : Fin 16, str1[k.val]? = some (UInt8.ofNat (dig k.val).toNat) := by decide
theorem str1_at {k : Nat} (h : k < 16) : ∃ b : UInt8, str1[k]? = some b ∧ ((b.toNat : Nat) : Int) = dig k := by
  refine ⟨_, str1_fin ⟨k, h⟩, ?_⟩
  have : ∀ k : Fin 16, (((UInt8.ofNat (dig k.val).toNat).toNat : Nat) : Int) = dig k.val := by decide
  exact this ⟨k, h⟩
theorem t0_dig_in {k : Nat} (h : k < 16) : 0 ≤ dig k ∧ dig k < 256 := by unfold dig; split <;> omega
theorem hexOf_snoc (xs : List Int) (x : Int) : hexOf (xs ++ [x]) = hexOf xs ++ [dig (x.toNat / 16)] ++ [dig (x.toNat % 16)] := by
  unfold hexOf; rw [List.flatMap_append, List.append_assoc]; rfl
theorem hexOf_len (xs : List Int) : (hexOf xs).length = 2 * xs.length := by
  induction xs with
  | nil => rfl
  | cons x r ih => unfold hexOf at ih ⊢; rw [List.flatMap_cons, List.length_append, ih]; simp; omega
theorem hexOf_in {xs : List Int} (h : ∀ x ∈ xs, InK .u8 x) : ∀ y ∈ hexOf xs, 0 ≤ y ∧ y < 256 := by
  intro y hy
  obtain ⟨x, hx, hy⟩ := List.mem_flatMap.1 hy
  have hb : 0 ≤ x ∧ x < 256 := h x hx
  simp only [List.mem_cons, List.not_mem_nil, or_false] at hy
  rcases hy with rfl | rfl
  · exact t0_dig_in (by omega)
  · exact t0_dig_in (by omega)

theorem hex_loop {K B b : Nat} {s : Sl} {xs : List Int} (hx : ∀ x ∈ xs, InK .u8 x) (hl : xs.length ≤ 8388608) (hb : ∀ p, s.a = some p → ints .u8 xs ≠ [] → p.block < B) :
    ∀ (d i n : Nat) (w : World), i + d = xs.length → d < n → Src w s (ints .u8 xs) → BAt B w b (hexOf (xs.take i)) →
      ∃ w', digest_Hex_l0 K n ⟨b, 0, none⟩ s ((xs.length : Nat) : Int) (i : Int) w = some ((), w') ∧ BAt B w' b (hexOf xs) ∧ Below B w w' := by
  intro d
  induction d with
  | zero =>
    intro i n w hi hn hs hB
    obtain ⟨n, rfl⟩ : ∃ m, n = m + 1 := ⟨n - 1, by omega⟩
    refine ⟨w, ?_, by rw [List.take_of_length_le (by omega)] at hB; exact hB, Below.refl B w⟩
    have eu : digest_Hex_l0 K (n + 1) = digest_Hex_l0_b K (digest_Hex_l0 K n) := rfl
    rw [eu]
    unfold digest_Hex_l0_b
    rw [if_neg (by simp; omega)]
  | succ d ih =>
    intro i n w hi hn hs hB
    obtain ⟨n, rfl⟩ : ∃ m, n = m + 1 := ⟨n - 1, by omega⟩
    have hsl : s.len = xs.length := by rw [hs.len, ints_length]
    obtain ⟨p, hp, hld⟩ := t0_src_ld hs (i := i) (by omega)
    have hxi : 0 ≤ xs.getD i 0 ∧ xs.getD i 0 < 256 := by
      have : xs.getD i 0 = xs[i]'(by omega) := by rw [List.getD_eq_getElem?_getD, List.getElem?_eq_getElem (by omega)]; rfl
      rw [this]; exact hx _ (List.getElem_mem _)
    have et := t0_take_succ_getD (l := xs) (i := i) (by omega) 0
    generalize xs.getD i 0 = x at hld hxi et
    obtain ⟨v, rfl⟩ : ∃ v : Nat, x = (v : Int) := ⟨x.toNat, by omega⟩
    have hv : v < 256 := by omega
    have f1 : Int.fdiv (v : Int) (2 ^ 4) = ((v / 16 : Nat) : Int) := fdiv_pow v 4
    have f2 : bits .and .u8 (v : Int) 15 = ((v % 16 : Nat) : Int) := by
      have : ∀ v : Fin 256, bits .and .u8 ((v.val : Nat) : Int) 15 = ((v.val % 16 : Nat) : Int) := by decide +kernel
      exact this ⟨v, hv⟩
    obtain ⟨b1, s1, t1⟩ := str1_at (k := v / 16) (by omega)
    obtain ⟨b2, s2, t2⟩ := str1_at (k := v % 16) (by omega)
    have hlen := hexOf_len (xs.take i)
    rw [List.length_take] at hlen
    obtain ⟨w1, k1, B1, c1⟩ := WriteByte_ok hB (dig (v / 16)) (by omega)
    obtain ⟨w2, k2, B2, c2⟩ := WriteByte_ok B1 (dig (v % 16)) (by rw [List.length_append, List.length_singleton]; omega)
    have e1 : IntKind.i64.wrap ((i : Int) + 1) = ((i + 1 : Nat) : Int) := by rw [w64 (by omega) (by omega)]; rfl
    have e2 : hexOf (xs.take i) ++ [dig (v / 16)] ++ [dig (v % 16)] = hexOf (xs.take (i + 1)) := by rw [et, hexOf_snoc]; rfl
    rw [e2] at B2
    obtain ⟨w3, k3, B3, c3⟩ := ih (i + 1) n w2 (by omega) (by omega) (t0_src_below hs (c1.trans c2) hb) B2
    refine ⟨w3, ?_, B3, (c1.trans c2).trans c3⟩
    have eu : digest_Hex_l0 K (n + 1) = digest_Hex_l0_b K (digest_Hex_l0 K n) := rfl
    rw [eu]
    unfold digest_Hex_l0_b
    rw [if_pos (by simp; omega), hp, Option.bind_some, if_pos (by rw [hsl]; omega), Int.toNat_natCast, Nat.mul_one, hld, Option.bind_some, f1, if_pos (by omega), Int.toNat_natCast, s1, Option.bind_some, t1, k1, bnd_ok, f2, if_pos (by omega), Int.toNat_natCast, s2, Option.bind_some, t2, k2, bnd_ok, e1, k3]

theorem Hex_ok {K : Nat} (hK : 18446744073709551616 ≤ K) {w : World} {s : Sl} {xs : List Int} (hs : Src w s (ints .u8 xs)) (hx : ∀ x ∈ xs, InK .u8 x) (hl : xs.length ≤ 8388608) :
    ∃ w', digest_Hex K s w = some ((bytesOf (hexOf xs), ()), w') ∧ Upd none_ w w' := by
  have hsl : s.len = xs.length := by rw [hs.len, ints_length]
  obtain ⟨w1, n1, B1, u1⟩ := BAt.new w
  have hs1 := u1.size
  obtain ⟨w2, j2, B2, c2⟩ := hex_loop (K := K) (s := s) hx hl (B := w.heap.size) (b := w.heap.size) (fun p hp hne => by
    rcases hs.rd with ⟨e, _⟩ | ⟨q, e, hr⟩
    · rw [e] at hp; cases hp
    · rw [e] at hp; cases hp; exact hr.lt hne) xs.length 0 K w1 (by omega) (by omega) (hs.upd0 u1) B1
  have hs2 := c2.size
  obtain ⟨w3, j3, c3⟩ := BString_ok B2 (hexOf_in hx) (by rw [hexOf_len]; omega) (by omega)
  refine ⟨w3, ?_, Upd.of_below (((u1.below (Nat.le_refl _) fun _ _ => id).trans c2).trans c3)⟩
  unfold digest_Hex
  have j2 : digest_Hex_l0 K K ⟨w.heap.size, 0, none⟩ s ((xs.length : Nat) : Int) 0 w1 = _ := j2
  rw [hsl, if_neg (by simp; omega), n1, bnd_ok, j2, bnd_ok, j3, bnd_ok]

end Go.Sh

/- Base64, as the program writes it. -/
set_option linter.unusedVariables false
namespace Go.Sh
open Go.Fw Go.RowKit Go.Proofs.Tryd

/-- what a letter of base64 is worth; -1: it is none -/
def wv (c : Int) : Int := if 65 ≤ c ∧ c ≤ 90 then c - 65 else if 97 ≤ c ∧ c ≤ 122 then c - 71 else if 48 ≤ c ∧ c ≤ 57 then c + 4 else if c = 43 then 62 else if c = 47 then 63 else -1
/-- the letter of a number -/
def lt (v : Int) : Int := if v < 26 then 65 + v else if v < 52 then 71 + v else if v < 62 then v - 4 else if v = 62 then 43 else 47
theorem wv_in (c : Int) : -1 ≤ wv c ∧ wv c < 64 := by
  unfold wv; split; omega; split; omega; split; omega; split; omega; split <;> omega
theorem lt_wv {c : Int} (h : ¬ wv c < 0) : lt (wv c) = c := by
  unfold wv at h ⊢
  unfold lt
  by_cases h1 : 65 ≤ c ∧ c ≤ 90
  · rw [if_pos h1, if_pos (by omega)]; omega
  · rw [if_neg h1] at h ⊢
    by_cases h2 : 97 ≤ c ∧ c ≤ 122
    · rw [if_pos h2, if_neg (by omega), if_pos (by omega)]; omega
    · rw [if_neg h2] at h ⊢
      by_cases h3 : 48 ≤ c ∧ c ≤ 57
      · rw [if_pos h3, if_neg (by omega), if_neg (by omega), if_pos (by omega)]; omega
      · rw [if_neg h3] at h ⊢
        by_cases h4 : c = 43
        · rw [if_pos h4]; simp [h4]
        · rw [if_neg h4] at h ⊢
          by_cases h5 : c = 47
          · rw [if_pos h5]; simp [h5]
          · rw [if_neg h5] at h; omega
theorem lt_fin : ∀ k : Fin 64, wv (lt ((k.val : Nat) : Int)) = ((k.val : Nat) : Int) ∧ lt ((k.val : Nat) : Int) ≠ 61 ∧ 0 ≤ lt ((k.val : Nat) : Int) ∧ lt ((k.val : Nat) : Int) < 256 := by decide
theorem wv_lt {k : Int} (h : 0 ≤ k ∧ k < 64) : wv (lt k) = k ∧ lt k ≠ 61 ∧ 0 ≤ lt k ∧ lt k < 256 := by
  have := lt_fin ⟨k.toNat, by omega⟩
  simp only [Int.toNat_of_nonneg h.1] at this
  exact this
theorem wv_eq : wv 61 = -1 := by decide

def b64Of : List Int → List Int
  | [] => []
  | [a] => [lt (a / 4), lt (a % 4 * 16), 61, 61]
  | [a, b] => [lt (a / 4), lt (a % 4 * 16 + b / 16), lt (b % 16 * 4), 61]
  | a :: b :: c :: r => lt (a / 4) :: lt (a % 4 * 16 + b / 16) :: lt (b % 16 * 4 + c / 64) :: lt (c % 64) :: b64Of r

theorem b64Of_len : ∀ (xs : List Int), (b64Of xs).length = (xs.length + 2) / 3 * 4
  | [] => rfl
  | [a] => by simp [b64Of]
  | [a, b] => by simp [b64Of]
  | a :: b :: c :: r => by
    have e : (b64Of (a :: b :: c :: r)).length = (b64Of r).length + 4 := by simp only [b64Of, List.length_cons]
    rw [e, b64Of_len r]
    have : (a :: b :: c :: r).length = r.length + 3 := rfl
    omega

theorem b64Of_in : ∀ (xs : List Int), (∀ x ∈ xs, InK .u8 x) → ∀ y ∈ b64Of xs, 0 ≤ y ∧ y < 256
  | [], _, y, hy => by cases hy
  | [a], hx, y, hy => by
    have ha : 0 ≤ a ∧ a < 256 := hx a (by simp)
    simp only [b64Of, List.mem_cons, List.not_mem_nil, or_false] at hy
    rcases hy with rfl | rfl | rfl | rfl
    · exact (wv_lt (by omega)).2.2
    · exact (wv_lt (by omega)).2.2
    · omega
    · omega
  | [a, b], hx, y, hy => by
    have ha : 0 ≤ a ∧ a < 256 := hx a (by simp)
    have hb : 0 ≤ b ∧ b < 256 := hx b (by simp)
    simp only [b64Of, List.mem_cons, List.not_mem_nil, or_false] at hy
    rcases hy with rfl | rfl | rfl | rfl
    · exact (wv_lt (by omega)).2.2
    · exact (wv_lt (by omega)).2.2
    · exact (wv_lt (by omega)).2.2
    · omega
  | a :: b :: c :: r, hx, y, hy => by
    have ha : 0 ≤ a ∧ a < 256 := hx a (by simp)
    have hb : 0 ≤ b ∧ b < 256 := hx b (by simp)
    have hc : 0 ≤ c ∧ c < 256 := hx c (by simp)
    simp only [b64Of, List.mem_cons] at hy
    rcases hy with rfl | rfl | rfl | rfl | hy
    · exact (wv_lt (by omega)).2.2
    · exact (wv_lt (by omega)).2.2
    · exact (wv_lt (by omega)).2.2
    · exact (wv_lt (by omega)).2.2
    · exact b64Of_in r (fun x hx' => hx x (by simp [hx'])) y hy

theorem and_u64 {n i : Nat} (h : n < 18446744073709551616) (hi : i < 64) : bits .and .u64 (n : Int) (((2 ^ i - 1 : Nat)) : Int) = ((n % 2 ^ i : Nat) : Int) := by
  have h2 : 2 ^ i ≤ 2 ^ 63 := Nat.pow_le_pow_right (by decide) (by omega)
  rw [(bits_nats (k := .u64) rfl (show n < 2 ^ IntKind.u64.bits from h) (by show _ < 18446744073709551616; omega)).1, Nat.and_two_pow_sub_one_eq_mod]

theorem t_sizeB : (prog.info? 5).map (·.size) = some 1 := by kernel_rfl

/-- copy of bytes into a block of three -/
theorem cpy3_ok {w : World} {b : Sl} {xs : List Int} (hx : Src w b (ints .u8 xs)) {e : TypeId} {g : Nat} (hb : Bk e w g z121.toList) :
    ∃ w', cpy prog 25 25 (.slice (some ⟨g, 0, none⟩) 3 3) (.slice b.a b.len b.cap) w = some (((min xs.length 3 : Nat) : Int), w') ∧ Upd (· = g) w w' ∧
      ∀ j, j < 3 → ldI .u8 ⟨g, j, none⟩ w' = some (xs.getD j 0) := by
  have hlen := hx.len
  rw [ints_length] at hlen
  have h3 : z121.toList = [.int .u8 0, .int .u8 0, .int .u8 0] := rfl
  rcases hx.rd with ⟨h1, h2, hn⟩ | ⟨p, h1, h2⟩
  · have hxs : xs = [] := by cases xs with | nil => rfl | cons y r => cases hn
    subst hxs
    have h0 : b.len = 0 := hlen
    have hr := run_copy_nil (P := prog) w 25 25 0 5 ⟨g, 0, none⟩ 3 3 sliceB.ht (by rw [t_sizeB]; rfl)
    refine ⟨w, ?_, Upd.refl _ _, ?_⟩
    · unfold cpy
      rw [h1, h0, h2, hr]
      simp [goInt]
    · intro j hj
      refine hb.ldI ?_
      rw [h3]
      rcases (show j = 0 ∨ j = 1 ∨ j = 2 by omega) with rfl | rfl | rfl <;> rfl
  · have hmin : min b.len 3 = min xs.length 3 := by rw [hlen]
    have hr := run_copy_row (P := prog) w 25 25 0 5 g 0 3 3 p b.len b.cap z121 e ((ints .u8 xs).take (min b.len 3)) sliceB.ht t_sizeB hb (by simp [hlen])
      (fun j v hv => h2 j v (by
        rw [List.getElem?_take] at hv
        split at hv
        · exact hv
        · cases hv)) (by simp [hlen, z121]; omega) (fun v hv => hx.one v (List.mem_of_mem_take hv))
    refine ⟨w.setRow g (z121.toList.take 0 ++ (ints .u8 xs).take (min b.len 3) ++ z121.toList.drop (0 + ((ints .u8 xs).take (min b.len 3)).length)).toArray, ?_, Upd.setRow w g _, ?_⟩
    · unfold cpy
      rw [h1, hr]
      have : ((ints .u8 xs).take (min b.len 3)).length = min xs.length 3 := by simp [hlen]
      simp only [goInt, this]
    · intro j hj
      refine (hb.setRow (z121.toList.take 0 ++ (ints .u8 xs).take (min b.len 3) ++ z121.toList.drop (0 + ((ints .u8 xs).take (min b.len 3)).length)).toArray).ldI ?_
      rw [hmin, h3]
      match xs with
      | [] => rcases (show j = 0 ∨ j = 1 ∨ j = 2 by omega) with rfl | rfl | rfl <;> rfl
      | [x] => rcases (show j = 0 ∨ j = 1 ∨ j = 2 by omega) with rfl | rfl | rfl <;> rfl
      | [x, y] => rcases (show j = 0 ∨ j = 1 ∨ j = 2 by omega) with rfl | rfl | rfl <;> rfl
      | x :: y :: z :: r =>
        have e : min (x :: y :: z :: r).length 3 = 3 := by simp
        rw [e]
        rcases (show j = 0 ∨ j = 1 ∨ j = 2 by omega) with rfl | rfl | rfl <;> rfl

theorem t_add_add (p : Addr) (a b : Nat) : (p.add a).add b = p.add (a + b) := by
  unfold Addr.add
  by_cases h1 : a = 0 <;> by_cases h2 : b = 0 <;> simp [h1, h2, Nat.add_assoc]
theorem t_sla_some {p : Addr} {lo m : Nat} (h : m ≠ lo) : sla (some p) lo m 1 = some (p.add lo) := by simp [sla, h]

/-- the rest of a slice -/
theorem t_src_sub {w : World} {s : Sl} {vs : List Value} (h : Src w s vs) {lo : Nat} (h1 : lo ≤ vs.length) : Src w ⟨sla s.a lo s.cap 1, s.len - lo, s.cap - lo⟩ (vs.drop lo) := by
  have hl := h.len
  have hc := h.cap
  refine ⟨by simp; omega, by show s.len - lo ≤ s.cap - lo; omega, ?_, fun v hv => h.one v (List.mem_of_mem_drop hv)⟩
  rcases h.rd with ⟨a1, a2, a3⟩ | ⟨p, a1, a2⟩
  · left
    refine ⟨by simp [sla, a1], by show s.cap - lo = 0; omega, by rw [a3]; simp⟩
  · right
    by_cases hm : s.cap = lo
    · refine ⟨p, by simp [sla, a1, hm], fun i v hv => ?_⟩
      have : vs.drop lo = [] := List.drop_eq_nil_of_le (by omega)
      rw [this] at hv; simp at hv
    · refine ⟨p.add lo, by rw [a1, t_sla_some hm], fun i v hv => ?_⟩
      rw [t_add_add]
      rw [List.getElem?_drop] at hv
      exact a2 _ _ hv
theorem t_sla_blk {a : Option Addr} {lo m : Nat} {q : Addr} (h : sla a lo m 1 = some q) : ∃ p, a = some p ∧ q.block = p.block := by
  unfold sla at h
  split at h
  · exact ⟨q, h, rfl⟩
  · cases ha : a with
    | none => rw [ha] at h; simp at h
    | some p => rw [ha] at h; simp at h; exact ⟨p, rfl, by rw [← h]; unfold Addr.add; split <;> rfl⟩

theorem str4_fin : ∀ k : Fin 64, str4[k.val]? = some (UInt8.ofNat (lt ((k.val : Nat) : Int)).toNat) := by decide
theorem str4_at {k : Nat} (h : k < 64) : ∃ b : UInt8, str4[k]? = some b ∧ ((b.toNat : Nat) : Int) = lt (k : Int) := by
  refine ⟨_, str4_fin ⟨k, h⟩, ?_⟩
  have : ∀ k : Fin 64, (((UInt8.ofNat (lt ((k.val : Nat) : Int)).toNat).toNat : Nat) : Int) = lt ((k.val : Nat) : Int) := by decide
  exact this ⟨k, h⟩

/-- four letters of three bytes, of which n are there -/
def q4 (n v : Nat) : List Int := [lt ((v / 262144 % 64 : Nat) : Int), lt ((v / 4096 % 64 : Nat) : Int), if n < 2 then 61 else lt ((v / 64 % 64 : Nat) : Int), if n < 3 then 61 else lt ((v % 64 : Nat) : Int)]
def v3 (xs : List Int) : Nat := (xs.getD 0 0).toNat * 65536 + (xs.getD 1 0).toNat * 256 + (xs.getD 2 0).toNat
theorem b64Of_q4 : ∀ (xs : List Int), (∀ x ∈ xs, InK .u8 x) → xs ≠ [] → b64Of xs = q4 (min xs.length 3) (v3 xs) ++ b64Of (xs.drop (min xs.length 3))
  | [], _, h => (h rfl).elim
  | [a], hx, _ => by
    have ha : 0 ≤ a ∧ a < 256 := hx a (by simp)
    have e : v3 [a] = a.toNat * 65536 + 0 * 256 + 0 := rfl
    have e1 : ((v3 [a] / 262144 % 64 : Nat) : Int) = a / 4 := by omega
    have e2 : ((v3 [a] / 4096 % 64 : Nat) : Int) = a % 4 * 16 := by omega
    show _ = [lt ((v3 [a] / 262144 % 64 : Nat) : Int), lt ((v3 [a] / 4096 % 64 : Nat) : Int), 61, 61] ++ []
    rw [e1, e2]; rfl
  | [a, b], hx, _ => by
    have ha : 0 ≤ a ∧ a < 256 := hx a (by simp)
    have hb : 0 ≤ b ∧ b < 256 := hx b (by simp)
    have e : v3 [a, b] = a.toNat * 65536 + b.toNat * 256 + 0 := rfl
    have e1 : ((v3 [a, b] / 262144 % 64 : Nat) : Int) = a / 4 := by omega
    have e2 : ((v3 [a, b] / 4096 % 64 : Nat) : Int) = a % 4 * 16 + b / 16 := by omega
    have e3 : ((v3 [a, b] / 64 % 64 : Nat) : Int) = b % 16 * 4 := by omega
    show _ = [lt ((v3 [a, b] / 262144 % 64 : Nat) : Int), lt ((v3 [a, b] / 4096 % 64 : Nat) : Int), lt ((v3 [a, b] / 64 % 64 : Nat) : Int), 61] ++ []
    rw [e1, e2, e3]; rfl
  | a :: b :: c :: r, hx, _ => by
    have ha : 0 ≤ a ∧ a < 256 := hx a (by simp)
    have hb : 0 ≤ b ∧ b < 256 := hx b (by simp)
    have hc : 0 ≤ c ∧ c < 256 := hx c (by simp)
    have e : v3 (a :: b :: c :: r) = a.toNat * 65536 + b.toNat * 256 + c.toNat := rfl
    have em : min (a :: b :: c :: r).length 3 = 3 := by simp
    rw [em]
    generalize v3 (a :: b :: c :: r) = v at e
    have e1 : ((v / 262144 % 64 : Nat) : Int) = a / 4 := by omega
    have e2 : ((v / 4096 % 64 : Nat) : Int) = a % 4 * 16 + b / 16 := by omega
    have e3 : ((v / 64 % 64 : Nat) : Int) = b % 16 * 4 + c / 64 := by omega
    have e4 : ((v % 64 : Nat) : Int) = c % 64 := by omega
    show _ = [lt ((v / 262144 % 64 : Nat) : Int), lt ((v / 4096 % 64 : Nat) : Int), lt ((v / 64 % 64 : Nat) : Int), lt ((v % 64 : Nat) : Int)] ++ b64Of r
    rw [e1, e2, e3, e4]; simp only [b64Of]; rfl

theorem or_u64g {a i b : Nat} (h : a * 2 ^ i < 18446744073709551616) (hi : i < 64) (hb : b < 2 ^ i) : bits .or .u64 (((a * 2 ^ i : Nat)) : Int) (b : Int) = ((a * 2 ^ i + b : Nat) : Int) := by
  have h2 : 2 ^ i ≤ 2 ^ 63 := Nat.pow_le_pow_right (by decide) (by omega)
  rw [(bits_nats (k := .u64) rfl (show a * 2 ^ i < 2 ^ IntKind.u64.bits from h) (by show _ < 18446744073709551616; omega)).2.1]
  rw [← Nat.shiftLeft_eq, Nat.shiftLeft_add_eq_or_of_lt hb]

theorem three_or {a b c : Int} (ha : 0 ≤ a ∧ a < 256) (hb : 0 ≤ b ∧ b < 256) (hc : 0 ≤ c ∧ c < 256) : bits .or .u64 (bits .or .u64 (IntKind.u64.wrap ((IntKind.u64.wrap a) * 2 ^ 16)) (IntKind.u64.wrap ((IntKind.u64.wrap b) * 2 ^ 8))) (IntKind.u64.wrap c) = ((a.toNat * 65536 + b.toNat * 256 + c.toNat : Nat) : Int) := by
  obtain ⟨a, rfl⟩ : ∃ n : Nat, a = (n : Int) := ⟨a.toNat, by omega⟩
  obtain ⟨b, rfl⟩ : ∃ n : Nat, b = (n : Int) := ⟨b.toNat, by omega⟩
  obtain ⟨c, rfl⟩ : ∃ n : Nat, c = (n : Int) := ⟨c.toNat, by omega⟩
  have w1 : ∀ n : Nat, n < 18446744073709551616 → IntKind.u64.wrap (n : Int) = (n : Int) := fun n h => wrap_nat rfl n h
  have e1 : (a : Int) * 2 ^ 16 = ((a * 2 ^ 16 : Nat) : Int) := by omega
  have e2 : (b : Int) * 2 ^ 8 = ((b * 2 ^ 8 : Nat) : Int) := by omega
  have e3 : a * 2 ^ 16 + b * 2 ^ 8 = (a * 256 + b) * 2 ^ 8 := by omega
  rw [w1 a (by omega), w1 b (by omega), w1 c (by omega), e1, e2, w1 _ (by omega), w1 _ (by omega), or_u64g (by omega) (by omega) (by omega), e3, or_u64g (by omega) (by omega) (by omega)]
  simp only [Int.toNat_natCast]; omega

theorem quad_step {K : Nat} {s : Sl} {p : Addr} {n v i m : Nat} (hv : v < 16777216) (hi : i < 4) (w : World) :
    digest_Base64_l1 K (m + 1) s p (n : Int) (v : Int) (i : Int) w = bnd (strings_Builder_WriteByte (some p) (if n < i then 61 else lt ((v / 2 ^ (18 - 6 * i) % 64 : Nat) : Int)) w) fun _ w1 => digest_Base64_l1 K m s p (n : Int) (v : Int) ((i + 1 : Nat) : Int) w1 := by
  have e1 : IntKind.i64.wrap ((i : Int) + 1) = ((i + 1 : Nat) : Int) := by rw [w64 (by omega) (by omega)]; rfl
  have e2 : IntKind.i64.wrap (18 - (IntKind.i64.wrap (6 * (i : Int)))) = ((18 - 6 * i : Nat) : Int) := by
    rw [w64 (n := 6 * (i : Int)) (by omega) (by omega), w64 (by omega) (by omega)]; omega
  have eu : digest_Base64_l1 K (m + 1) = digest_Base64_l1_b K (digest_Base64_l1 K m) := rfl
  rw [eu]
  unfold digest_Base64_l1_b
  rw [if_pos (by simp; omega), e1]
  by_cases hn : n < i
  · rw [if_pos (by simp; omega), if_pos hn]
  · rw [if_neg (by simp; omega), if_neg hn, e2, if_pos (by omega), Int.toNat_natCast]
    have e3 : min (18 - 6 * i) IntKind.u64.bits = 18 - 6 * i := Nat.min_eq_left (by show 18 - 6 * i ≤ 64; omega)
    have e4 : bits .and .u64 (((v / 2 ^ (18 - 6 * i) : Nat)) : Int) 63 = ((v / 2 ^ (18 - 6 * i) % 64 : Nat) : Int) := and_u64 (i := 6) (by have := Nat.div_le_self v (2 ^ (18 - 6 * i)); omega) (by omega)
    rw [e3, fdiv_pow, e4, if_pos (by omega), Int.toNat_natCast]
    obtain ⟨c, c1, c2⟩ := str4_at (k := v / 2 ^ (18 - 6 * i) % 64) (by omega)
    rw [c1, Option.bind_some, c2]

theorem quad_ok {K B b : Nat} (hK : 18446744073709551616 ≤ K) {w : World} {s : Sl} {acc : List Int} {n v : Nat} (hn : 1 ≤ n) (hv : v < 16777216) (h : BAt B w b acc) (hl : acc.length ≤ 70368744177664) :
    ∃ w', digest_Base64_l1 K K s ⟨b, 0, none⟩ (n : Int) (v : Int) 0 w = some ((), w') ∧ BAt B w' b (acc ++ q4 n v) ∧ Below B w w' := by
  obtain ⟨m, rfl⟩ : ∃ m, K = m + 5 := ⟨K - 5, by omega⟩
  obtain ⟨w1, k1, B1, c1⟩ := WriteByte_ok h (if n < 0 then 61 else lt ((v / 2 ^ (18 - 6 * 0) % 64 : Nat) : Int)) (by omega)
  obtain ⟨w2, k2, B2, c2⟩ := WriteByte_ok B1 (if n < 1 then 61 else lt ((v / 2 ^ (18 - 6 * 1) % 64 : Nat) : Int)) (by simp; omega)
  obtain ⟨w3, k3, B3, c3⟩ := WriteByte_ok B2 (if n < 2 then 61 else lt ((v / 2 ^ (18 - 6 * 2) % 64 : Nat) : Int)) (by simp; omega)
  obtain ⟨w4, k4, B4, c4⟩ := WriteByte_ok B3 (if n < 3 then 61 else lt ((v / 2 ^ (18 - 6 * 3) % 64 : Nat) : Int)) (by simp; omega)
  refine ⟨w4, ?_, ?_, ((c1.trans c2).trans c3).trans c4⟩
  · have s0 := quad_step (K := m + 5) (s := s) (p := ⟨b, 0, none⟩) (n := n) (m := m + 4) hv (i := 0) (by omega) w
    have s1 := quad_step (K := m + 5) (s := s) (p := ⟨b, 0, none⟩) (n := n) (m := m + 3) hv (i := 1) (by omega) w1
    have s2 := quad_step (K := m + 5) (s := s) (p := ⟨b, 0, none⟩) (n := n) (m := m + 2) hv (i := 2) (by omega) w2
    have s3 := quad_step (K := m + 5) (s := s) (p := ⟨b, 0, none⟩) (n := n) (m := m + 1) hv (i := 3) (by omega) w3
    have e0 : digest_Base64_l1 (m + 5) (m + 5) s ⟨b, 0, none⟩ (n : Int) (v : Int) 0 w = _ := s0
    rw [e0, k1, bnd_ok, s1, k2, bnd_ok, s2, k3, bnd_ok, s3, k4, bnd_ok]
    have eu : digest_Base64_l1 (m + 5) (m + 1) = digest_Base64_l1_b (m + 5) (digest_Base64_l1 (m + 5) m) := rfl
    rw [eu]
    unfold digest_Base64_l1_b
    rw [if_neg (by decide)]
  · have e : acc ++ q4 n v = acc ++ [if n < 0 then 61 else lt ((v / 2 ^ (18 - 6 * 0) % 64 : Nat) : Int)] ++ [if n < 1 then 61 else lt ((v / 2 ^ (18 - 6 * 1) % 64 : Nat) : Int)] ++ [if n < 2 then 61 else lt ((v / 2 ^ (18 - 6 * 2) % 64 : Nat) : Int)] ++ [if n < 3 then 61 else lt ((v / 2 ^ (18 - 6 * 3) % 64 : Nat) : Int)] := by
      rw [if_neg (by omega), if_neg (by omega : ¬ n < 1)]
      simp only [q4, List.append_assoc]
      simp
    rw [e]; exact B4

theorem t0_getD_in {xs : List Int} (h : ∀ x ∈ xs, InK .u8 x) (i : Nat) : 0 ≤ xs.getD i 0 ∧ xs.getD i 0 < 256 := by
  rw [List.getD_eq_getElem?_getD]
  by_cases hi : i < xs.length
  · rw [List.getElem?_eq_getElem hi]; exact h _ (List.getElem_mem _)
  · rw [List.getElem?_eq_none (by omega)]; decide
theorem v3_lt {xs : List Int} (h : ∀ x ∈ xs, InK .u8 x) : v3 xs < 16777216 := by
  have h0 := t0_getD_in h 0
  have h1 := t0_getD_in h 1
  have h2 := t0_getD_in h 2
  unfold v3; omega
theorem q4_len (n v : Nat) : (q4 n v).length = 4 := rfl
theorem q4_in (n v : Nat) : ∀ y ∈ q4 n v, 0 ≤ y ∧ y < 256 := by
  intro y hy
  simp only [q4, List.mem_cons, List.not_mem_nil, or_false] at hy
  rcases hy with rfl | rfl | rfl | rfl
  · exact (wv_lt (by omega)).2.2
  · exact (wv_lt (by omega)).2.2
  · split
    · omega
    · exact (wv_lt (by omega)).2.2
  · split
    · omega
    · exact (wv_lt (by omega)).2.2

theorem b64_outer {K B b : Nat} (hK : 18446744073709551616 ≤ K) :
    ∀ (d n : Nat) (w : World) (s : Sl) (rest acc : List Int), rest.length ≤ d → d < n → Src w s (ints .u8 rest) → (∀ x ∈ rest, InK .u8 x) → (∀ p, s.a = some p → ints .u8 rest ≠ [] → p.block < B) → BAt B w b acc → B ≤ w.heap.size →
      acc.length + 4 * rest.length ≤ 70368744177664 → ∃ w', digest_Base64_l0 K n s ⟨b, 0, none⟩ w = some ((), w') ∧ BAt B w' b (acc ++ b64Of rest) ∧ Below B w w' := by
  intro d
  induction d with
  | zero =>
    intro n w s rest acc hd hn hs hx hb hB hBw hl
    obtain ⟨n, rfl⟩ : ∃ m, n = m + 1 := ⟨n - 1, by omega⟩
    have hr : rest = [] := List.eq_nil_of_length_eq_zero (by omega)
    subst hr
    have hsl : s.len = 0 := hs.len
    have eu : digest_Base64_l0 K (n + 1) = digest_Base64_l0_b K (digest_Base64_l0 K n) := rfl
    rw [eu]
    unfold digest_Base64_l0_b
    rw [if_neg (by rw [hsl]; decide)]
    exact ⟨w, rfl, by rw [show b64Of [] = [] from rfl, List.append_nil]; exact hB, Below.refl B w⟩
  | succ d ih =>
    intro n w s rest acc hd hn hs hx hb hB hBw hl
    obtain ⟨n, rfl⟩ : ∃ m, n = m + 1 := ⟨n - 1, by omega⟩
    have hsl : s.len = rest.length := by rw [hs.len, ints_length]
    have eu : digest_Base64_l0 K (n + 1) = digest_Base64_l0_b K (digest_Base64_l0 K n) := rfl
    rw [eu]
    unfold digest_Base64_l0_b
    by_cases hr : rest = []
    · subst hr
      have hsl : s.len = 0 := hs.len
      rw [if_neg (by rw [hsl]; decide)]
      exact ⟨w, rfl, by rw [show b64Of [] = [] from rfl, List.append_nil]; exact hB, Below.refl B w⟩
    · have hpos : 0 < rest.length := List.length_pos_iff.2 hr
      obtain ⟨w1, n1, n2, n3, n4⟩ := newB_ok z121 121 w
      obtain ⟨w2, c1, c2, c3⟩ := cpy3_ok (hs.upd0 n3) n2
      have bw : Below B w w2 := (n3.below hBw fun _ _ => id).trans (c2.below (by have := n3.size; omega) fun k hk e => by omega)
      have hB2 : BAt B w2 b acc := by
        obtain ⟨⟨p, sl, h1, h2, h3, h4, h5, h6⟩, hbb⟩ := hB
        have hlt := h1.lt
        refine ⟨⟨p, sl, (h1.upd0 n3).upd c2 (by omega), h2, (h3.upd0 n3).upd c2 (fun k hk e => ?_), h4, h5, h6⟩, hbb⟩
        have := h3.lt hk
        omega
      have hm : min rest.length 3 ≤ rest.length := Nat.min_le_left ..
      have hm1 : 1 ≤ min rest.length 3 := by omega
      obtain ⟨w3, j1, j2, j3⟩ := quad_ok (K := K) hK (s := ⟨(sla s.a (min rest.length 3) s.cap 1), (s.len - (min rest.length 3)), (s.cap - (min rest.length 3))⟩) (n := min rest.length 3) hm1 (v3_lt hx) hB2 (by omega)
      have hs3 : Src w3 ⟨(sla s.a (min rest.length 3) s.cap 1), (s.len - (min rest.length 3)), (s.cap - (min rest.length 3))⟩ (ints .u8 (rest.drop (min rest.length 3))) := by
        have := t_src_sub (t0_src_below hs (bw.trans j3) hb) (lo := min rest.length 3) (by rw [ints_length]; exact hm)
        have e : (ints .u8 rest).drop (min rest.length 3) = ints .u8 (rest.drop (min rest.length 3)) := by simp [ints, List.map_drop]
        rw [e] at this; exact this
      obtain ⟨w4, g1, g2, g3⟩ := ih n w3 _ (rest.drop (min rest.length 3)) (acc ++ q4 (min rest.length 3) (v3 rest)) (by rw [List.length_drop]; omega) (by omega) hs3 (fun x h => hx x (List.mem_of_mem_drop h))
        (fun q hq hne => by
          obtain ⟨p, hp, hqb⟩ := t_sla_blk hq
          rw [hqb]
          exact hb p hp (fun e => hr (by cases rest with | nil => rfl | cons y r => cases e)))
        j2 (by have := bw.size; have := j3.size; omega) (by rw [List.length_append, q4_len, List.length_drop]; omega)
      refine ⟨w4, ?_, by rw [b64Of_q4 rest hx hr, ← List.append_assoc]; exact g2, (bw.trans j3).trans g3⟩
      have a0 : ldI .u8 ((⟨w.heap.size, 0, none⟩ : Addr).add (0 * 1)) w2 = some (rest.getD 0 0) := by rw [add_lit]; exact c3 0 (by omega)
      have a1 : ldI .u8 ((⟨w.heap.size, 0, none⟩ : Addr).add (1 * 1)) w2 = some (rest.getD 1 0) := by rw [add_lit]; exact c3 1 (by omega)
      have a2 : ldI .u8 ((⟨w.heap.size, 0, none⟩ : Addr).add (2 * 1)) w2 = some (rest.getD 2 0) := by rw [add_lit]; exact c3 2 (by omega)
      have ce : cpy prog 25 25 (.slice (sla (some ⟨w.heap.size, 0, none⟩) 0 3 1) (3 - 0) (3 - 0)) (.slice s.a s.len s.cap) w1 = some (((min rest.length 3 : Nat) : Int), w2) := by rw [sla_zero]; exact c1
      have c0 : (0 : Int) ≤ ((min rest.length 3 : Nat) : Int) ∧ ((min rest.length 3 : Nat) : Int) ≤ ((s.len : Nat) : Int) := by omega
      have ev : bits .or .u64 (bits .or .u64 (IntKind.u64.wrap ((IntKind.u64.wrap (rest.getD 0 0)) * 2 ^ 16)) (IntKind.u64.wrap ((IntKind.u64.wrap (rest.getD 1 0)) * 2 ^ 8))) (IntKind.u64.wrap (rest.getD 2 0)) = ((v3 rest : Nat) : Int) := three_or (t0_getD_in hx 0) (t0_getD_in hx 1) (t0_getD_in hx 2)
      rw [if_pos (by rw [hsl]; simp; omega), n1, bnd_ok, ce, bnd_ok, if_pos c0, a0, Option.bind_some, a1, Option.bind_some, a2, Option.bind_some, ev, Int.toNat_natCast, j1, bnd_ok, g1]

theorem b64Of_len_le (xs : List Int) : (b64Of xs).length ≤ 4 * xs.length + 4 := by rw [b64Of_len]; omega

theorem Base64_ok {K : Nat} (hK : 18446744073709551616 ≤ K) {w : World} {s : Sl} {xs : List Int} (hs : Src w s (ints .u8 xs)) (hx : ∀ x ∈ xs, InK .u8 x) (hl : xs.length ≤ 12582912) :
    ∃ w', digest_Base64 K s w = some ((bytesOf (b64Of xs), ()), w') ∧ Upd none_ w w' := by
  have hsl : s.len = xs.length := by rw [hs.len, ints_length]
  obtain ⟨w1, n1, B1, u1⟩ := BAt.new w
  have hs1 := u1.size
  obtain ⟨w2, j2, B2, c2⟩ := b64_outer (K := K) (B := w.heap.size) (b := w.heap.size) hK xs.length K w1 s xs [] (Nat.le_refl _) (by omega) (hs.upd0 u1) hx (fun p hp hne => by
    rcases hs.rd with ⟨e, _⟩ | ⟨q, e, hr⟩
    · rw [e] at hp; cases hp
    · rw [e] at hp; cases hp; exact hr.lt hne) B1 (by omega) (by simp; omega)
  rw [List.nil_append] at B2
  have hs2 := c2.size
  have hle := b64Of_len_le xs
  obtain ⟨w3, j3, c3⟩ := BString_ok B2 (b64Of_in xs hx) (by omega) (by omega)
  refine ⟨w3, ?_, Upd.of_below (((u1.below (Nat.le_refl _) fun _ _ => id).trans c2).trans c3)⟩
  unfold digest_Base64
  rw [hsl, if_neg (by simp; omega), n1, bnd_ok, j2, bnd_ok, j3, bnd_ok]


end Go.Sh

/- The published vectors, by the machine's own operators on numbers: nothing but closed sums. -/
set_option linter.unusedVariables false
namespace Go.Sh
open Go.Fw Go.Sha Go.RowKit Go.Proofs.Tryd

def vAbc : List Int := [97, 98, 99]
def vLong : List Int := [97, 98, 99, 100, 98, 99, 100, 101, 99, 100, 101, 102, 100, 101, 102, 103, 101, 102, 103, 104, 102, 103, 104, 105, 103, 104, 105, 106, 104, 105, 106, 107, 105, 106, 107, 108, 106, 107, 108, 109, 107, 108, 109, 110, 108, 109, 110, 111, 109, 110, 111, 112, 110, 111, 112, 113]
def vJefe : List Int := [74, 101, 102, 101]
def vWhat : List Int := [119, 104, 97, 116, 32, 100, 111, 32, 121, 97, 32, 119, 97, 110, 116, 32]
def vFor : List Int := [102, 111, 114, 32, 110, 111, 116, 104, 105, 110, 103, 63]
def vPass : List Int := [112, 97, 115, 115, 119, 111, 114, 100]
def vSalt : List Int := [115, 97, 108, 116]
def vBar : List Int := [102, 111, 111, 98, 97, 114]
def digC (h : Int) (xs : List Int) : List Int := digestOf h cubesC (firstH squaresS h) xs

theorem vec5 : bytesOf (hexOf (digC 224 vAbc)) = str5 := by decide +kernel
theorem vec6 : bytesOf (hexOf (digC 256 vAbc)) = str6 := by decide +kernel
theorem vec7 : bytesOf (hexOf (digC 256 vLong)) = str7 := by decide +kernel
theorem vec8 : bytesOf (hexOf (digC 256 [])) = str8 := by decide +kernel
theorem vec9 : bytesOf (hexOf (digC 384 vAbc)) = str9 := by decide +kernel
theorem vec10 : bytesOf (hexOf (digC 512 vAbc)) = str10 := by decide +kernel
theorem vec13 : bytesOf (b64Of vBar) = str13 := by decide +kernel
theorem vec14 : bytesOf (b64Of (vBar.take 5)) = str14 := by decide +kernel
theorem vec15 : bytesOf (b64Of (vBar.take 4)) = str15 := by decide +kernel
theorem vec11 : bytesOf (hexOf (macOf cubesC squaresS 256 vJefe (vWhat ++ vFor))) = str11 := by decide +kernel
theorem vec12 : bytesOf (hexOf ((strO cubesC squaresS 256 vPass vSalt 1 1).take 32)) = str12 := by decide +kernel

end Go.Sh

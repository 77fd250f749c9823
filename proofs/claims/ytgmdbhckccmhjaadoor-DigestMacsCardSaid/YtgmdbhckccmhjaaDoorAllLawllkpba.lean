/- Texts of this claim, put together: Mac, None, Code, Expand, RefExpand, Codes, Expands, OpenS, Strm, Three, ThreeA, ThreeB, ThreeC -/
import Derived.Test.YtgmdbhckccmhjaaDoorAllLawmoekla
/- HMAC of package digest: a key is taken in; its code is told. -/
set_option linter.unusedVariables false
namespace Go.Fw
/-- a struct of two fields is built of them -/
theorem built_two {P : Program} {t : TypeId} {it : TypeInfo} {f0 f1 : Field} {z : Value} (h1 : P.info? t = some it) (h2 : P.underlying t = some (.struct #[f0, f1])) (h3 : it.zero = some z) {i0 i1 : TypeInfo} (h4 : P.info? f0.type = some i0) (h5 : P.info? f1.type = some i1) (h6 : f0.offset = 0) (h7 : f1.offset = i0.size)
    {vs us : List Value} (h8 : vs.length = i0.size) (h9 : us.length = i1.size) (h10 : z.cells.size = i0.size + i1.size) :
    P.built t [(0, .agg vs.toArray), (1, .agg us.toArray)] = some (vs ++ us).toArray := by
  unfold Program.built
  simp only [h1, h2, h3]
  simp only [List.mapM_cons, List.mapM_nil, h4, h5, Option.map_some, Option.bind_eq_bind, Option.bind_some, Option.pure_def, h6, h7]
  unfold Instr.fill
  have c : (Value.agg vs.toArray).cells = vs.toArray := rfl
  have c2 : (Value.agg us.toArray).cells = us.toArray := rfl
  simp only [c]
  have e0 : (#[((0 : Nat), i0.size), (i0.size, i1.size)] : Array (Nat × Nat))[0]? = some (0, i0.size) := rfl
  have e1 : (#[((0 : Nat), i0.size), (i0.size, i1.size)] : Array (Nat × Nat))[1]? = some (i0.size, i1.size) := rfl
  rw [e0]
  dsimp only
  have hz : z.cells.toList.length = z.cells.size := Array.length_toList
  have a1 := fold_seg vs 0 0 z.cells (by omega)
  have hs1 : (vs.zipIdx.foldl (fun cs p => cs.setIfInBounds (0 + p.2) p.1) z.cells).size = z.cells.size := by
    have := congrArg List.length a1
    rw [seg_length (by omega)] at this
    simpa using this
  rw [if_neg (by simp [h8, h10])]
  unfold Instr.fill
  simp only [c2]
  rw [e1]
  dsimp only
  have fe : ∀ (a : Array Value) (l : List Value) (o : Nat), l.toArray.zipIdx.foldl (fun cs (p : Value × Nat) => cs.setIfInBounds (o + p.2) p.1) a = l.zipIdx.foldl (fun cs p => cs.setIfInBounds (o + p.2) p.1) a := by
    intro a l o
    rw [← Array.foldl_toList, Array.toList_zipIdx]
  have hs2 : (vs.toArray.zipIdx.foldl (fun cs (p : Value × Nat) => cs.setIfInBounds (0 + p.2) p.1) z.cells).size = z.cells.size := by rw [fe]; exact hs1
  rw [if_neg (by simp only [List.size_toArray, h9, hs2, h10]; simp)]
  unfold Instr.fill
  congr 1
  rw [fe, fe]
  apply Array.ext'
  have a2 := fold_seg us 0 i0.size (vs.zipIdx.foldl (fun cs p => cs.setIfInBounds (0 + p.2) p.1) z.cells) (by omega)
  refine Eq.trans a2 ?_
  rw [a1]
  unfold seg
  simp only [List.take_zero, List.nil_append, Nat.zero_add, Nat.add_zero]
  have : (z.cells.toList.drop vs.length).length = us.length := by rw [List.length_drop]; omega
  rw [← h8, List.take_left, List.drop_append, List.drop_eq_nil_of_le (show vs.length ≤ vs.length + us.length by omega)]
  rw [List.drop_eq_nil_of_le (by rw [List.length_drop]; omega)]
  simp
end Go.Fw
namespace Go.Sh
open Go.Fw Go.Sha Go.RowKit Go.Proofs.Tryd

theorem built89 {a b : List Value} (ha : a.length = 142) (hb : b.length = 142) : prog.built 89 [(0, (.agg a.toArray)), (1, (.agg b.toArray))] = some (a ++ b).toArray :=
  built_two (P := prog) (t := 89) (it := t89) (f0 := { name := "inner", type := 87, offset := 0, embedded := false, tag := "", pkgPath := "coffer/digest", byteOffset := 0 }) (f1 := { name := "outer", type := 87, offset := 142, embedded := false, tag := "", pkgPath := "coffer/digest", byteOffset := 240 }) (z := .agg z89)
    (by kernel_rfl) (by kernel_rfl) (by kernel_rfl) (i0 := t87) (i1 := t87) (by kernel_rfl) (by kernel_rfl) rfl (by kernel_rfl) (by rw [ha]; kernel_rfl) (by rw [hb]; kernel_rfl) (by kernel_rfl)

/-- every byte with a number -/
def xorB (c : Int) (l : List Int) : List Int := l.map fun x => bits .xor .u8 x c
/-- a key with zeros behind it, a block's bytes in all -/
def padK (h : Int) (l : List Int) : List Int := l ++ List.replicate (blk h - l.length) 0
/-- a key, or its digest, if it is longer than a block -/
def keyH (C S : List Int) (h : Int) (ks : List Int) : List Int := if ks.length > blk h then digestOf h C (firstH S h) ks else ks
def ipad (C S : List Int) (h : Int) (ks : List Int) : List Int := xorB 54 (padK h (keyH C S h ks))
def opad (C S : List Int) (h : Int) (ks : List Int) : List Int := xorB 92 (padK h (keyH C S h ks))
/-- the code of bytes under a key -/
def macOf (C S : List Int) (h : Int) (ks xs : List Int) : List Int := digestOf h C (firstH S h) (opad C S h ks ++ digestOf h C (firstH S h) (ipad C S h ks ++ xs))
/-- .. nothing of no such digest -/
def codeOf (C S : List Int) (h : Int) (ks xs : List Int) : List Int := if known h = true then macOf C S h ks xs else []

theorem xorB_len (c : Int) (l : List Int) : (xorB c l).length = l.length := List.length_map ..
theorem xorB_in {c : Int} (hc : InK .u8 c) {l : List Int} (h : ∀ x ∈ l, InK .u8 x) : ∀ x ∈ xorB c l, InK .u8 x := by
  intro x hx
  obtain ⟨y, hy, rfl⟩ := List.mem_map.1 hx
  exact InK.xor rfl (h y hy) hc
theorem in54 : InK .u8 54 := ⟨by decide, by decide⟩
theorem in92 : InK .u8 92 := ⟨by decide, by decide⟩
theorem in0 : InK .u8 0 := ⟨by decide, by decide⟩
theorem padK_in {h : Int} {l : List Int} (hl : ∀ x ∈ l, InK .u8 x) : ∀ x ∈ padK h l, InK .u8 x := by
  intro x hx
  rcases List.mem_append.1 hx with hx | hx
  · exact hl x hx
  · rw [(List.mem_replicate.1 hx).2]; exact in0
theorem digestOf_lt {h : Int} (hk : known h = true) (C H0 xs : List Int) : (digestOf h C H0 xs).length ≤ blk h := by
  have := digestOf_len h C H0 xs
  have := known_blk hk
  omega
theorem keyH_len {h : Int} (hk : known h = true) (C S ks : List Int) : (keyH C S h ks).length ≤ blk h := by
  unfold keyH; split
  · exact digestOf_lt hk ..
  · omega
theorem keyH_in {h : Int} (C S : List Int) {ks : List Int} (hl : ∀ x ∈ ks, InK .u8 x) : ∀ x ∈ keyH C S h ks, InK .u8 x := by
  unfold keyH; split
  · exact digestOf_in h C _ ks
  · exact hl
theorem padK_len {h : Int} {l : List Int} (hl : l.length ≤ blk h) : (padK h l).length = blk h := by
  unfold padK; rw [List.length_append, List.length_replicate]; omega
theorem ipad_len {h : Int} (hk : known h = true) (C S ks : List Int) : (ipad C S h ks).length = blk h := by unfold ipad; rw [xorB_len, padK_len (keyH_len hk ..)]
theorem opad_len {h : Int} (hk : known h = true) (C S ks : List Int) : (opad C S h ks).length = blk h := by unfold opad; rw [xorB_len, padK_len (keyH_len hk ..)]
theorem ipad_in {h : Int} (C S : List Int) {ks : List Int} (hl : ∀ x ∈ ks, InK .u8 x) : ∀ x ∈ ipad C S h ks, InK .u8 x := xorB_in in54 (padK_in (keyH_in C S hl))
theorem opad_in {h : Int} (C S : List Int) {ks : List Int} (hl : ∀ x ∈ ks, InK .u8 x) : ∀ x ∈ opad C S h ks, InK .u8 x := xorB_in in92 (padK_in (keyH_in C S hl))

/-! ### A digest in the midst, in a row of cells -/

theorem st_mk {w : World} {e : TypeId} {g : Nat} {pre post : List Value} {h : Int} {cnt : Nat} {H half : List Int} (hH : H.length = 8) (hh : half.length = 128) (hi : ∀ x ∈ half, InK .u8 x) {o : Nat} (ho : pre.length = o)
    (hb : Bk e w g (pre ++ stCells h cnt H half ++ post)) : StAt w e g o (pre ++ stCells h cnt H half ++ post) h cnt H half := by
  have hl := stCells_len h cnt hH hh
  refine ⟨?_, by rw [List.length_append, List.length_append]; omega, hH, hh, hi⟩
  have : seg (pre ++ stCells h cnt H half ++ post) o (stCells h cnt H half) = pre ++ stCells h cnt H half ++ post := by
    unfold seg
    subst ho
    have e1 : (pre ++ stCells h cnt H half ++ post).take pre.length = pre := by rw [List.append_assoc, List.take_left]
    have e2 : (pre ++ stCells h cnt H half ++ post).drop (pre.length + (stCells h cnt H half).length) = post := by rw [← List.length_append, List.drop_left]
    rw [e1, e2]
  rw [this]; exact hb

theorem StAt.cells {w : World} {e : TypeId} {g o : Nat} {pre old post : List Value} {h : Int} {cnt : Nat} {H half : List Int} (s : StAt w e g o (pre ++ old ++ post) h cnt H half) (ho : pre.length = o) (hl : old.length = 142) : Bk e w g (pre ++ stCells h cnt H half ++ post) := by
  have hsl := stCells_len h cnt s.words s.len
  have : seg (pre ++ old ++ post) o (stCells h cnt H half) = pre ++ stCells h cnt H half ++ post := by
    unfold seg
    subst ho
    have e1 : (pre ++ old ++ post).take pre.length = pre := by rw [List.append_assoc, List.take_left]
    have e2 : (pre ++ old ++ post).drop (pre.length + (stCells h cnt H half).length) = post := by rw [hsl, ← hl, ← List.length_append, List.drop_left]
    rw [e1, e2]
  rw [← this]; exact s.bk

theorem _root_.Go.Sha.Fed.H8 {h : Int} {C S xs H half : List Int} (f : Fed h C (firstH S h) xs H half) : H.length = 8 := by rw [f.words]; exact compsH_len _ _ _ _ _ (firstH_len S h)

/-- the cells of a digest that was fed -/
structure StC (C S : List Int) (h : Int) (xs : List Int) (cs : List Value) : Prop where
  ex : ∃ H half, cs = stCells h xs.length H half ∧ Fed h C (firstH S h) xs H half ∧ ∀ x ∈ half, InK .u8 x

theorem StC.len {C S : List Int} {h : Int} {xs : List Int} {cs : List Value} (s : StC C S h xs cs) : cs.length = 142 := by
  obtain ⟨H, half, rfl, f, _⟩ := s.ex
  exact stCells_len _ _ f.H8 f.len
theorem StC.one {C S : List Int} {h : Int} {xs : List Int} {cs : List Value} (s : StC C S h xs cs) : ∀ v ∈ cs, v.oneCell' = true := by
  obtain ⟨H, half, rfl, f, _⟩ := s.ex
  exact stCells_one _ _ _ _
theorem StC.start (C S : List Int) (h : Int) : StC C S h [] (stCells h 0 (firstH S h) half0) := ⟨_, _, rfl, Fed.start .., half0_in⟩

/-- take, on cells -/
theorem take_cells {K : Nat} (hK : 18446744073709551616 ≤ K) {w : World} {e : TypeId} {g o : Nat} {pre old post : List Value} {h : Int} (hk : known h = true) {C S xs ys : List Int} (T : Tabs w C S) (s : StC C S h xs old) (hb : Bk e w g (pre ++ old ++ post)) (ho : pre.length = o) (hg : 4 ≤ g)
    {b : Sl} (hy : ∀ x ∈ ys, InK .u8 x) (hlim : xs.length + ys.length ≤ 140737488355328) (hx : Src w b (ints .u8 ys)) (hbg : ∀ p, b.a = some p → p.block ≠ g) (hbv : ∀ p, b.a = some p → p.block < w.heap.size) :
    ∃ w' cs', digest_state_take K (some ⟨g, o, none⟩) b w = some ((), w') ∧ Bk e w' g (pre ++ cs' ++ post) ∧ StC C S h (xs ++ ys) cs' ∧ Upd (· = g) w w' := by
  have hol := s.len
  obtain ⟨H, half, rfl, f, hi⟩ := s.ex
  have st := st_mk f.H8 f.len hi ho hb
  obtain ⟨w', H', half', h1, h2, h3, h4⟩ := take_ok hK hk st f T.cl (show g ≠ 2 by omega) T.gc hy hlim hx hbg hbv
  exact ⟨w', _, h1, h2.cells ho hol, ⟨H', half', rfl, h3, h2.inn⟩, h4⟩

/-- end, on cells -/
theorem end_cells {K : Nat} (hK : 18446744073709551616 ≤ K) {w : World} {h : Int} (hk : known h = true) {C S xs : List Int} {cs : List Value} (T : Tabs w C S) (s : StC C S h xs cs) (hlim : xs.length ≤ 1099511627776) :
    ∃ s' w', digest_state_end K cs.toArray w = some ((s', ()), w') ∧ Ans w.heap.size w' s' (digestOf h C (firstH S h) xs) ∧ Upd none_ w w' := by
  obtain ⟨H, half, rfl, f, hi⟩ := s.ex
  exact end_ok hK hk f f.H8 hi T.cl T.gc hlim

/-! ### The key -/

def mx (c : Int) (xs : List Int) (i : Nat) : List Int := xorB c (xs.take i) ++ xs.drop i

theorem mx_len (c : Int) (xs : List Int) (i : Nat) : (mx c xs i).length = xs.length := by
  unfold mx; rw [List.length_append, xorB_len, List.length_take, List.length_drop]; omega
theorem mx_zero (c : Int) (xs : List Int) : mx c xs 0 = xs := by unfold mx xorB; rw [List.take_zero, List.map_nil, List.nil_append, List.drop_zero]
theorem mx_at (c : Int) {xs : List Int} {i : Nat} (hi : i < xs.length) : (mx c xs i)[i]? = some (xs.getD i 0) := by
  unfold mx
  have hl : (xorB c (xs.take i)).length = i := by rw [xorB_len, List.length_take]; omega
  rw [List.getElem?_append_right (by omega), hl, Nat.sub_self, List.getElem?_drop, Nat.add_zero, List.getD_eq_getElem?_getD, List.getElem?_eq_getElem hi]; rfl
theorem mx_set (c : Int) {xs : List Int} {i : Nat} (hi : i < xs.length) : (mx c xs i).set i (bits .xor .u8 (xs.getD i 0) c) = mx c xs (i + 1) := by
  unfold mx
  have hl : (xorB c (xs.take i)).length = i := by rw [xorB_len, List.length_take]; omega
  rw [List.set_append_right _ _ (by omega), hl, Nat.sub_self, drop_getD hi 0, List.set_cons_zero, take_succ_getD hi 0]
  unfold xorB
  rw [List.map_append, List.append_assoc]; rfl

theorem key_l1 {K : Nat} {a4 s6 m9 : Addr} {e : TypeId} {gi go : Nat} (hne : gi ≠ go) {xs ys : List Int} (hx : xs.length = 128) (hy : ys.length = 128) :
    ∀ (d i n : Nat) (w : World), i + d = 128 → d < n → Bk e w gi (ints .u8 (mx 54 xs i)) → Bk e w go (ints .u8 (mx 92 ys i)) →
      ∃ w', digest_key_l1 K n a4 s6 m9 ⟨gi, 0, none⟩ ⟨go, 0, none⟩ (i : Int) w = some ((), w') ∧ Bk e w' gi (ints .u8 (xorB 54 xs)) ∧ Bk e w' go (ints .u8 (xorB 92 ys)) ∧ Upd (fun k => k = gi ∨ k = go) w w' := by
  intro d
  induction d with
  | zero =>
    intro i n w hi hn hb hc
    obtain ⟨n, rfl⟩ : ∃ m, n = m + 1 := ⟨n - 1, by omega⟩
    have e1 : mx 54 xs i = xorB 54 xs := by unfold mx; rw [List.take_of_length_le (by omega), List.drop_eq_nil_of_le (by omega), List.append_nil]
    have e2 : mx 92 ys i = xorB 92 ys := by unfold mx; rw [List.take_of_length_le (by omega), List.drop_eq_nil_of_le (by omega), List.append_nil]
    have hd : decide ((i : Int) < 128) = false := by simp; omega
    refine ⟨w, ?_, e1 ▸ hb, e2 ▸ hc, Upd.refl _ _⟩
    have eu : digest_key_l1 K (n + 1) = digest_key_l1_b K (digest_key_l1 K n) := rfl
    rw [eu]
    unfold digest_key_l1_b
    rw [hd, if_neg (by decide)]
  | succ d ih =>
    intro i n w hi hn hb hc
    obtain ⟨n, rfl⟩ : ∃ m, n = m + 1 := ⟨n - 1, by omega⟩
    have hd : decide ((i : Int) < 128) = true := by simp; omega
    have c : (0 : Int) ≤ (i : Int) ∧ (i : Int) < ((128 : Nat) : Int) := by omega
    have e1 : IntKind.i64.wrap ((i : Int) + 1) = ((i + 1 : Nat) : Int) := by rw [w64 (by omega) (by omega)]; rfl
    have l1 : ldI .u8 ⟨gi, i, none⟩ w = some (xs.getD i 0) := hb.ldI (by simp only [ints, List.getElem?_map, mx_at 54 (show i < xs.length by omega)]; rfl)
    obtain ⟨w1, s1, b1, u1⟩ := hb.stC (i := i) (by rw [ints_length, mx_len]; omega) (.int .u8 (bits .xor .u8 (xs.getD i 0) 54))
    rw [ints_set, mx_set 54 (by omega)] at b1
    have hc1 := hc.upd u1 (fun e => hne e.symm)
    have l2 : ldI .u8 ⟨go, i, none⟩ w1 = some (ys.getD i 0) := hc1.ldI (by simp only [ints, List.getElem?_map, mx_at 92 (show i < ys.length by omega)]; rfl)
    obtain ⟨w2, s2, b2, u2⟩ := hc1.stC (i := i) (by rw [ints_length, mx_len]; omega) (.int .u8 (bits .xor .u8 (ys.getD i 0) 92))
    rw [ints_set, mx_set 92 (by omega)] at b2
    obtain ⟨w3, h3, b3, c3, u3⟩ := ih (i + 1) n w2 (by omega) (by omega) (b1.upd u2 hne) b2
    refine ⟨w3, ?_, b3, c3, ((u1.trans u2).mono fun k _ e => e).trans' u3 fun _ _ e => e⟩
    have eu : digest_key_l1 K (n + 1) = digest_key_l1_b K (digest_key_l1 K n) := rfl
    rw [eu]
    unfold digest_key_l1_b
    rw [hd, if_pos rfl, if_pos c, Int.toNat_natCast, Nat.mul_one, add_lit, add_lit, Nat.zero_add, l1, Option.bind_some, if_pos c, s1, Option.bind_some, if_pos c, l2, Option.bind_some, if_pos c, s2, Option.bind_some, e1, h3]

/-- what a key is made to: two digests -/
structure KdC (C S : List Int) (h : Int) (ks xs : List Int) (cs : List Value) : Prop where
  ex : ∃ a b, cs = a ++ b ∧ StC C S h (ipad C S h ks ++ xs) a ∧ StC C S h (opad C S h ks) b

theorem KdC.len {C S : List Int} {h : Int} {ks xs : List Int} {cs : List Value} (s : KdC C S h ks xs cs) : cs.length = 284 := by
  obtain ⟨a, b, rfl, ha, hb⟩ := s.ex
  rw [List.length_append, ha.len, hb.len]
theorem KdC.one {C S : List Int} {h : Int} {ks xs : List Int} {cs : List Value} (s : KdC C S h ks xs cs) : ∀ v ∈ cs, v.oneCell' = true := by
  obtain ⟨a, b, rfl, ha, hb⟩ := s.ex
  intro v hv
  exact (List.mem_append.1 hv).elim (ha.one v) (hb.one v)

theorem z85_eq : z85.toList = ints .u8 (List.replicate 128 0) := by unfold z85 ints; rw [Array.toList_replicate, List.map_replicate]

theorem seg_zero_copy {ks : List Int} (hk : ks.length ≤ 128) : seg (ints .u8 (List.replicate 128 0)) 0 ((ints .u8 ks).take (min ks.length 128)) = ints .u8 (ks ++ List.replicate (128 - ks.length) 0) := by
  unfold seg
  have e : (ints .u8 ks).take (min ks.length 128) = ints .u8 ks := List.take_of_length_le (by rw [ints_length]; omega)
  have e2 : (ints .u8 (List.replicate 128 0)).drop ks.length = ints .u8 (List.replicate (128 - ks.length) 0) := by
    unfold ints; rw [← List.map_drop, List.drop_replicate]
  rw [e, List.take_zero, List.nil_append, Nat.zero_add, ints_length, ints_append, e2]

theorem pad_front {h : Int} {c : Int} {kk : List Int} (hl : kk.length ≤ blk h) : (xorB c (kk ++ List.replicate (128 - kk.length) 0)).take (blk h) = xorB c (padK h kk) := by
  have hb := blk_le h
  unfold xorB padK
  rw [← List.map_take, List.take_append, List.take_of_length_le hl, List.take_replicate, Nat.min_eq_left (by omega)]

theorem key_s0_ok {K : Nat} (hK : 18446744073709551616 ≤ K) {h : Int} (hk : known h = true) {C S ks : List Int} {w : World} (T : Tabs w C S) {k : Sl} (hx : Src w k (ints .u8 ks)) (hin : ∀ x ∈ ks, InK .u8 x) (hlim : ks.length ≤ 1099511627776) (hbv : ∀ p, k.a = some p → p.block < w.heap.size)
    {g : Nat} (hb : Bk 87 w g (stCells h 0 (firstH S h) half0)) :
    ∃ k' w', digest_key_s0 K k ⟨g, 0, none⟩ (decide (((k.len : Nat) : Int) > ((blk h : Nat) : Int))) w = some ((k', ()), w') ∧ Src w' k' (ints .u8 (keyH C S h ks)) ∧ (∀ p, k'.a = some p → p.block < w'.heap.size) ∧ Upd none_ w w' := by
  have hkl : k.len = ks.length := by rw [hx.len, ints_length]
  unfold keyH
  by_cases hl : ks.length > blk h
  · have hd : decide (((k.len : Nat) : Int) > ((blk h : Nat) : Int)) = true := by rw [hkl]; simp only [decide_eq_true_eq]; omega
    have hcl := stCells_len h 0 (firstH_len S h) (List.length_replicate (n := 128) (a := (0 : Int)))
    have lA := hb.ldA (i := 0) (n := 142) (by rw [hcl]; decide)
    rw [List.drop_zero, List.take_of_length_le (by rw [hcl]; decide)] at lA
    obtain ⟨w1, n1, b1, u1, z1⟩ := newB_ok z87 87 w
    obtain ⟨w2, s2, b2, u2, l2⟩ := lay b1 (vs := stCells h 0 (firstH S h) half0) (by rw [hcl]; rfl) (stCells_one _ _ _ _)
    have q2 : Upd none_ w w2 := u1.trans' u2 fun k hk e => by omega
    have h4 := T.lt
    have hs1 := u1.size
    obtain ⟨w3, cs3, h3, b3, st3, u3⟩ := take_cells hK hk (pre := []) (post := []) (o := 0) (ys := ks) (T.upd0 q2) (StC.start C S h) (by rw [List.nil_append, List.append_nil]; exact b2) rfl (by omega) hin (by simp; omega) (hx.upd0 q2) (fun p hp e => by have := hbv p hp; omega) (fun p hp => by have := hbv p hp; have := q2.size; omega)
    rw [List.nil_append, List.append_nil] at b3
    rw [List.nil_append] at st3
    have q3 : Upd none_ w w3 := q2.trans' u3 fun k hk e => by omega
    have lB := b3.ldA (i := 0) (n := 142) (by rw [st3.len]; decide)
    rw [List.drop_zero, List.take_of_length_le (by rw [st3.len]; decide)] at lB
    obtain ⟨s4, w4, h4', a4, u4⟩ := end_cells hK hk (T.upd0 q3) st3 hlim
    refine ⟨s4, w4, ?_, ?_, lt_of_blk fun k hk => a4.lt hk, q3.and0 u4⟩
    · unfold digest_key_s0
      rw [hd, if_pos rfl, lA, Option.bind_some, n1, bnd_ok, if_pos (by rw [List.size_toArray, hcl]), s2, Option.bind_some, h3, bnd_ok, lB, Option.bind_some, h4', bnd_ok]
    · rw [if_pos hl]; exact a4.src
  · have hd : decide (((k.len : Nat) : Int) > ((blk h : Nat) : Int)) = false := by rw [hkl]; simp only [decide_eq_false_iff_not]; omega
    refine ⟨k, w, ?_, by rw [if_neg hl]; exact hx, hbv, Upd.refl _ _⟩
    unfold digest_key_s0
    rw [hd, if_neg (by decide)]

theorem key_ok {K : Nat} (hK : 18446744073709551616 ≤ K) {h : Int} (hk : known h = true) {C S ks : List Int} {w : World} (T : Tabs w C S) {k : Sl} (hx : Src w k (ints .u8 ks)) (hin : ∀ x ∈ ks, InK .u8 x) (hlim : ks.length ≤ 1099511627776) (hbv : ∀ p, k.a = some p → p.block < w.heap.size) :
    ∃ cs w', digest_key K h k w = some ((cs.toArray, true, ()), w') ∧ KdC C S h ks [] cs ∧ Upd none_ w w' := by
  have h4 := T.lt
  have hbk := blk_le h
  obtain ⟨w1, n1, b1, u1, z1⟩ := newB_ok z89 89 w
  have b1 : Bk 89 w1 w.heap.size z89.toList := b1
  have T1 := T.upd0 u1
  obtain ⟨w2, h2, u2⟩ := begin_ok hK h T1.sl T1.sin T1.gs
  rw [hk] at h2
  have hcl := stCells_len h 0 (firstH_len S h) (List.length_replicate (n := 128) (a := (0 : Int)))
  obtain ⟨w3, n3, b3, u3, z3⟩ := newB_ok z87 87 w2
  obtain ⟨w4, s4, b4, u4, l4⟩ := lay b3 (vs := stCells h 0 (firstH S h) half0) (by rw [hcl]; rfl) (stCells_one _ _ _ _)
  rw [hcl] at l4
  have hs1 := u1.size
  have hs2 := u2.size
  have hs3 := u3.size
  have q4 : Upd none_ w w4 := ((u1.and0 u2).and0 u3).trans' u4 fun k hk e => by omega
  have hs4 := q4.size
  have hs34 := u4.size
  have T4 := T.upd0 q4
  have st4 : StAt w4 87 w2.heap.size 0 (stCells h 0 (firstH S h) half0) h 0 (firstH S h) half0 := by
    have := st_mk (pre := []) (post := []) (w := w4) (e := 87) (g := w2.heap.size) (h := h) (cnt := 0) (firstH_len S h) (List.length_replicate (n := 128) (a := (0 : Int))) half0_in (o := 0) rfl (by rw [List.nil_append, List.append_nil]; exact b4)
    rw [List.nil_append, List.append_nil] at this
    exact this
  obtain ⟨m1, _, _⟩ := st4.ld hk
  obtain ⟨kk, w5, h5, sk, vk, u5⟩ := key_s0_ok hK hk T4 (hx.upd0 q4) hin hlim (fun p hp => by have := hbv p hp; omega) b4
  have hs5 := u5.size
  have b5 := b4.upd0 u5
  have l5 : ldA 142 ⟨w2.heap.size, 0, none⟩ w5 = some (stCells h 0 (firstH S h) half0).toArray := by
    have := b5.ldA (i := 0) (n := 142) (by rw [hcl]; decide)
    rw [List.drop_zero, List.take_of_length_le (by rw [hcl]; decide)] at this
    exact this
  obtain ⟨w6, n6, b6, u6, z6⟩ := newB_ok z89 89 w5
  have hc2 : (stCells h 0 (firstH S h) half0 ++ stCells h 0 (firstH S h) half0).length = 284 := by rw [List.length_append, hcl]
  obtain ⟨w7, s7, b7, u7, _⟩ := lay b6 (vs := stCells h 0 (firstH S h) half0 ++ stCells h 0 (firstH S h) half0) (by rw [hc2]; kernel_rfl) (fun v hv => (List.mem_append.1 hv).elim (stCells_one _ _ _ _ v) (stCells_one _ _ _ _ v))
  have hs6 := u6.size
  have hs7 := u7.size
  obtain ⟨w8, n8, b8, u8, z8⟩ := newB_ok z85 85 w7
  obtain ⟨w9, n9, b9, u9, z9⟩ := newB_ok z85 85 w8
  have hs8 := u8.size
  have hs9 := u9.size
  have b8 : Bk 85 w8 w7.heap.size z85.toList := b8
  have b9 : Bk 85 w9 w8.heap.size z85.toList := b9
  rw [z85_eq] at b8 b9
  have hkl := keyH_len hk C S ks
  have hkkl : kk.len = (keyH C S h ks).length := by rw [sk.len, ints_length]
  have q57 : Upd none_ w5 w7 := u6.trans' u7 fun k hk e => by have e : k = w5.heap.size := e; omega
  have q59 := (q57.and0 u8).and0 u9
  have sk9 := sk.upd0 q59
  obtain ⟨w10, h10, b10, u10⟩ := cpy_ok sk9 (o := 0) (dLen := 128) (dCap := 128) (b8.upd0 u9) (by rw [ints_length, List.length_replicate]; omega)
  rw [hkkl, seg_zero_copy (by omega)] at b10
  have sk10 := sk9.upd u10 fun p hp e => by have := vk p hp; omega
  obtain ⟨w11, h11, b11, u11⟩ := cpy_ok sk10 (o := 0) (dLen := 128) (dCap := 128) (b9.upd u10 (by omega)) (by rw [ints_length, List.length_replicate]; omega)
  rw [hkkl, seg_zero_copy (by omega)] at b11
  have hs10 := u10.size
  have hs11 := u11.size
  have hpl : (keyH C S h ks ++ List.replicate (128 - (keyH C S h ks).length) 0).length = 128 := by rw [List.length_append, List.length_replicate]; omega
  obtain ⟨w12, h12, b12, c12, u12⟩ := key_l1 (K := K) (a4 := ⟨w.heap.size, 0, none⟩) (s6 := ⟨w2.heap.size, 0, none⟩) (m9 := ⟨w5.heap.size, 0, none⟩) (gi := w7.heap.size) (go := w8.heap.size) (by omega) hpl hpl 128 0 K w11 rfl (by omega)
    (by rw [mx_zero]; exact b10.upd u11 (by omega)) (by rw [mx_zero]; exact b11)
  have hs12 := u12.size
  have h12 : digest_key_l1 K K ⟨w.heap.size, 0, none⟩ ⟨w2.heap.size, 0, none⟩ ⟨w5.heap.size, 0, none⟩ ⟨w7.heap.size, 0, none⟩ ⟨w8.heap.size, 0, none⟩ 0 w11 = _ := h12
  have q59' : Upd none_ w w9 := (q4.and0 u5).and0 q59
  have q12 : Upd none_ w w12 := ((q59'.trans' u10 fun k hk e => by omega).trans' u11 fun k hk e => by omega).trans' u12 fun k hk e => by omega
  have q912 : Upd (fun k => k = w7.heap.size ∨ k = w8.heap.size) w9 w12 := ((u10.mono fun k _ e => .inl e).trans' (u11.mono (T := fun k => k = w7.heap.size ∨ k = w8.heap.size) fun k _ e => .inr e) fun _ _ e => e).trans' u12 fun _ _ e => e
  have st12 := ((st4.upd u5 id).upd q59 id).upd q912 (by omega)
  obtain ⟨m12, _, _⟩ := st12.ld hk
  have b7' : Bk 89 w12 w5.heap.size (stCells h 0 (firstH S h) half0 ++ stCells h 0 (firstH S h) half0) := ((b7.upd0 u8).upd0 u9).upd q912 (by omega)
  have T12 := T.upd0 q12
  have hsrc : ∀ {c : Int} {g : Nat} {w' : World}, Bk 85 w' g (ints .u8 (xorB c (keyH C S h ks ++ List.replicate (128 - (keyH C S h ks).length) 0))) → Src w' ⟨some ⟨g, 0, none⟩, blk h, 128⟩ (ints .u8 (xorB c (padK h (keyH C S h ks)))) := by
    intro c g w' hb
    rw [← pad_front hkl, ← ints_take]
    refine ⟨by rw [List.length_take, ints_length, xorB_len, hpl]; exact (Nat.min_eq_left hbk).symm, hbk, .inr ⟨_, rfl, hb.rd 0 _ fun i v hv => ?_⟩, fun v hv => ints_one v (List.mem_of_mem_take hv)⟩
    rw [List.getElem?_take] at hv
    split at hv
    · rw [Nat.zero_add]; exact hv
    · cases hv
  obtain ⟨w13, ci, h13, b13, st13, u13⟩ := take_cells hK hk (pre := []) (post := stCells h 0 (firstH S h) half0) (o := 0) (ys := ipad C S h ks) T12 (StC.start C S h) (by rw [List.nil_append]; exact b7') rfl (by omega) (ipad_in C S hin) (by rw [ipad_len hk]; simp; omega) (hsrc b12)
    (fun p hp e => by have e1 : p = ⟨w7.heap.size, 0, none⟩ := by simpa using hp.symm
                      rw [e1] at e; simp at e; omega) (fun p hp => by have e1 : p = ⟨w7.heap.size, 0, none⟩ := by simpa using hp.symm
                                                                      rw [e1]; exact b12.lt)
  rw [List.nil_append] at b13 st13
  have hs13 := u13.size
  have q13 : Upd none_ w w13 := q12.trans' u13 fun k hk e => by omega
  obtain ⟨m13, _, _⟩ := (st12.upd u13 (by omega)).ld hk
  obtain ⟨w14, co, h14, b14, st14, u14⟩ := take_cells hK hk (pre := ci) (post := []) (o := 142) (ys := opad C S h ks) (T.upd0 q13) (StC.start C S h) (by rw [List.append_nil]; exact b13) st13.len (by omega) (opad_in C S hin) (by rw [opad_len hk]; simp; omega) (hsrc (c12.upd u13 (by omega)))
    (fun p hp e => by have e1 : p = ⟨w8.heap.size, 0, none⟩ := by simpa using hp.symm
                      rw [e1] at e; simp at e; omega) (fun p hp => by have e1 : p = ⟨w8.heap.size, 0, none⟩ := by simpa using hp.symm
                                                                      rw [e1]; have := c12.lt; show w8.heap.size < w13.heap.size; omega)
  rw [List.append_nil] at b14
  rw [List.nil_append] at st14
  have kd : KdC C S h ks [] (ci ++ co) := ⟨ci, co, rfl, by rw [List.append_nil]; exact st13, st14⟩
  have hs14 := u14.size
  have l14 := b14.ldA (i := 0) (n := 284) (by rw [kd.len]; decide)
  rw [List.drop_zero, List.take_of_length_le (by rw [kd.len]; decide)] at l14
  have b1' : Bk 89 w14 w.heap.size z89.toList := ((((((b1.upd0 u2).upd0 u3).upd u4 (by omega)).upd0 u5).upd0 q59).upd q912 (by omega)).upd (u13.trans' u14 fun _ _ e => e) (by omega)
  obtain ⟨w15, s15, b15, u15, l15⟩ := lay b1' (vs := ci ++ co) (by rw [kd.len]; kernel_rfl) kd.one
  rw [kd.len] at l15
  refine ⟨ci ++ co, w15, ?_, kd, (q13.trans' u14 fun k hk e => by omega).trans' u15 fun k hk e => by omega⟩
  have cb : (0 : Int) ≤ ((blk h : Nat) : Int) ∧ ((blk h : Nat) : Int) ≤ ((128 : Nat) : Int) := by omega
  unfold digest_key
  rw [n1, bnd_ok, h2, bnd_ok, n3, bnd_ok]
  dsimp only
  rw [if_pos (by rw [List.size_toArray, hcl]), s4, Option.bind_some, if_neg (by decide)]
  simp only [add_lit, Nat.zero_add, Nat.add_zero, sla_zero, Nat.sub_zero] at m1 m12 m13 ⊢
  rw [m1, Option.bind_some, h5, bnd_ok, l5, Option.bind_some, Option.bind_some, built89 hcl hcl, Option.bind_some, n6, bnd_ok, if_pos (by rw [List.size_toArray, hc2]), s7, Option.bind_some, n8, bnd_ok, n9, bnd_ok, h10, bnd_ok, h11, bnd_ok, h12, bnd_ok, m12, Option.bind_some, if_pos cb, Int.toNat_natCast, add_lit, Nat.add_zero, h13, bnd_ok, m13, Option.bind_some, if_pos cb, Int.toNat_natCast, add_lit, Nat.zero_add, h14, bnd_ok, l14, Option.bind_some, if_pos (by rw [List.size_toArray, kd.len]), s15, Option.bind_some, l15, Option.bind_some]

/-- its code -/
theorem keyedEnd_ok {K : Nat} (hK : 18446744073709551616 ≤ K) {h : Int} (hk : known h = true) {C S ks xs : List Int} {w : World} (T : Tabs w C S) {cs : List Value} (kd : KdC C S h ks xs cs) (hlim : xs.length ≤ 549755813888) :
    ∃ s' w', digest_keyed_end K cs.toArray w = some ((s', ()), w') ∧ Ans w.heap.size w' s' (macOf C S h ks xs) ∧ Upd none_ w w' := by
  have h4 := T.lt
  have hcl := kd.len
  obtain ⟨a, b, rfl, ha, hb⟩ := kd.ex
  have hbk := blk_le h
  obtain ⟨w1, n1, b1, u1, z1⟩ := newB_ok (a ++ b).toArray 89 w
  have b1 : Bk 89 w1 w.heap.size (a ++ b) := b1
  have l1 := b1.ldA (i := 0) (n := 142) (by rw [hcl]; decide)
  rw [List.drop_zero, List.take_append_of_le_length (by rw [ha.len]; decide), List.take_of_length_le (by rw [ha.len]; decide)] at l1
  obtain ⟨s2, w2, h2, a2, u2⟩ := end_cells hK hk (T.upd0 u1) ha (by rw [List.length_append, ipad_len hk]; omega)
  have hs1 := u1.size
  have hs2 := u2.size
  obtain ⟨w3, co, h3, b3, st3, u3⟩ := take_cells hK hk (pre := a) (post := []) (o := 142) (ys := digestOf h C (firstH S h) (ipad C S h ks ++ xs)) ((T.upd0 u1).upd0 u2) hb (by rw [List.append_nil]; exact b1.upd0 u2) ha.len (by omega) (digestOf_in h C _ _) (by have := digestOf_len h C (firstH S h) (ipad C S h ks ++ xs); rw [opad_len hk]; omega) a2.src
    (fun p hp e => by have := a2.fresh p.block (by simp [Sl.blk, hp]); omega) (lt_of_blk fun k hk => a2.lt hk)
  rw [List.append_nil] at b3
  have q3 : Upd none_ w w3 := (u1.and0 u2).trans' u3 fun k hk e => by omega
  have l3 := b3.ldA (i := 142) (n := 142) (by rw [List.length_append, ha.len, st3.len]; decide)
  rw [← ha.len, List.drop_left, ha.len, List.take_of_length_le (by rw [st3.len]; decide)] at l3
  have hs3 := u3.size
  obtain ⟨s4, w4, h4', a4, u4⟩ := end_cells hK hk (T.upd0 q3) st3 (by have := digestOf_len h C (firstH S h) (ipad C S h ks ++ xs); rw [List.length_append, opad_len hk]; omega)
  refine ⟨s4, w4, ?_, a4.mono (by omega), q3.and0 u4⟩
  unfold digest_keyed_end
  rw [n1, bnd_ok]
  simp only [add_lit, Nat.zero_add, Nat.add_zero]
  rw [l1, Option.bind_some, h2, bnd_ok, h3, bnd_ok, l3, Option.bind_some, h4', bnd_ok]

end Go.Sh

/- DigestNone: of a nil Stream and a nil Mac. -/
set_option linter.unusedVariables false
namespace Go.Sh
open Go.Fw Go.Sha Go.RowKit Go.Proofs.Tryd

theorem NewMac_none {K : Nat} {h : Int} (hk : known h = false) (k : Sl) (w : World) : ∃ w', digest_NewMac K h k w = some ((none, 10, ()), w') ∧ Upd none_ w w' := by
  obtain ⟨w1, h1, u1⟩ := Size_ok h w
  refine ⟨w1, ?_, u1⟩
  unfold digest_NewMac
  rw [h1, bnd_ok]
  dsimp only
  rw [size_zero, hk, if_pos (show (!false) = true from rfl)]

theorem DigestNone_ok {K : Nat} (hK : 18446744073709551616 ≤ K) {C S : List Int} {w : World} (T : Tabs w C S) :
    ∃ w', law01_DigestNone K w = some ((true, ()), w') ∧ Upd none_ w w' := by
  have hn : (none : Option Addr).isNone = true := rfl
  obtain ⟨w1, h1, o1, u1, z1⟩ := bldS1_ok sliceB (.int .u8 1) rfl w
  obtain ⟨w2, h2, o2, u2, z2⟩ := bldS1_ok sliceSS (.slice (some ⟨w.heap.size, 0, none⟩) 1 1) rfl w1
  have hs0 : law01_DigestNone_s0 K none w = some ((false, ()), w2) := by
    unfold law01_DigestNone_s0 digest_Stream_Hash digest_Stream_Size digest_Stream_Block digest_Stream_Count digest_Stream_Sum digest_Stream_Copy digest_Stream_Write digest_Stream_Reset law01_num
    rw [if_pos hn, Option.bind_some]
    dsimp only
    rw [if_neg (by decide), if_pos hn, Option.bind_some]
    dsimp only
    rw [if_neg (by decide), if_pos hn, Option.bind_some]
    dsimp only
    rw [if_neg (by decide), if_pos hn, Option.bind_some]
    dsimp only
    rw [if_neg (by decide), if_pos hn, bnd_ok]
    dsimp only
    rw [if_neg (by decide), if_pos hn, bnd_ok]
    dsimp only
    rw [if_neg (by decide), h1, bnd_ok]
    dsimp only
    rw [h2, bnd_ok, if_pos hn, bnd_ok, Option.bind_some]
    dsimp only
    rw [if_neg (by decide), if_pos hn, bnd_ok, Option.bind_some]
    rfl
  have hs1 : law01_DigestNone_s1 K none w2 = some ((false, ()), w2) := by
    unfold law01_DigestNone_s1 digest_Mac_Size digest_Mac_Sum digest_Mac_Copy digest_Mac_Write digest_Mac_Reset law01_num
    rw [if_pos hn, Option.bind_some]
    dsimp only
    rw [if_neg (by decide), if_pos hn, bnd_ok]
    dsimp only
    rw [if_neg (by decide), if_pos hn, bnd_ok]
    dsimp only
    rw [if_neg (by decide), if_pos hn, bnd_ok, Option.bind_some]
    dsimp only
    rw [if_neg (by decide), if_pos hn, bnd_ok, Option.bind_some]
    rfl
  have T2 := (T.upd0 u1).upd0 u2
  obtain ⟨w3, g, h3, u3, hg, _⟩ := New_ok hK 0 T2.sl T2.sin T2.gs
  rw [if_neg (by decide), if_neg (by decide)] at h3
  obtain ⟨w4, h4, u4⟩ := NewMac_none (K := K) (h := -256) (by decide) ⟨none, 0, 0⟩ w3
  obtain ⟨w5, h5, u5⟩ := Size_ok 256 w4
  refine ⟨w5, ?_, (((u1.and0 u2).and0 u3).and0 u4).and0 u5⟩
  unfold law01_DigestNone law01_num
  rw [hs0, bnd_ok]
  dsimp only
  rw [if_neg (by decide), hs1, bnd_ok]
  dsimp only
  rw [if_neg (by decide), h3, bnd_ok, h4, bnd_ok]
  dsimp only
  rw [if_pos hn, if_pos hn, Option.bind_some]
  dsimp only
  rw [if_pos (by decide), Option.bind_some]
  dsimp only
  rw [if_pos (by decide), h5, bnd_ok]
  rfl

end Go.Sh

/- Code of package digest and of the document's answer; DigestCodes. -/
set_option linter.unusedVariables false
namespace Go.Sh
open Go.Fw Go.Sha Go.RowKit Go.Proofs.Tryd

theorem built101 {a b : List Value} (ha : a.length = 284) (hb : b.length = 284) : prog.built 101 [(0, (.agg a.toArray)), (1, (.agg b.toArray))] = some (a ++ b).toArray :=
  built_two (P := prog) (t := 101) (it := t101) (f0 := { name := "keyed", type := 89, offset := 0, embedded := true, tag := "", pkgPath := "coffer/digest", byteOffset := 0 }) (f1 := { name := "begun", type := 89, offset := 284, embedded := false, tag := "", pkgPath := "coffer/digest", byteOffset := 480 }) (z := .agg z101)
    (by kernel_rfl) (by kernel_rfl) (by kernel_rfl) (i0 := t89) (i1 := t89) (by kernel_rfl) (by kernel_rfl) rfl (by kernel_rfl) (by rw [ha]; kernel_rfl) (by rw [hb]; kernel_rfl) (by kernel_rfl)

/-- A Mac in a block: what it was fed, and how it began. -/
structure MacAt (w : World) (g : Nat) (C S : List Int) (h : Int) (ks xs : List Int) : Prop where
  ex : ∃ cs cs0, Bk 101 w g (cs ++ cs0) ∧ KdC C S h ks xs cs ∧ KdC C S h ks [] cs0

theorem MacAt.upd {w w' : World} {g : Nat} {C S : List Int} {h : Int} {ks xs : List Int} {X : Nat → Prop} (m : MacAt w g C S h ks xs) (u : Upd X w w') (hn : ¬ X g) : MacAt w' g C S h ks xs := by
  obtain ⟨cs, cs0, h1, h2, h3⟩ := m.ex
  exact ⟨cs, cs0, h1.upd u hn, h2, h3⟩
theorem MacAt.upd0 {w w' : World} {g : Nat} {C S : List Int} {h : Int} {ks xs : List Int} (m : MacAt w g C S h ks xs) (u : Upd none_ w w') : MacAt w' g C S h ks xs := m.upd u id
theorem MacAt.lt {w : World} {g : Nat} {C S : List Int} {h : Int} {ks xs : List Int} (m : MacAt w g C S h ks xs) : g < w.heap.size := by
  obtain ⟨cs, cs0, h1, _⟩ := m.ex
  exact h1.lt

theorem NewMac_ok {K : Nat} (hK : 18446744073709551616 ≤ K) {h : Int} (hk : known h = true) {C S ks : List Int} {w : World} (T : Tabs w C S) {k : Sl} (hx : Src w k (ints .u8 ks)) (hin : ∀ x ∈ ks, InK .u8 x) (hlim : ks.length ≤ 33554432) (hbv : ∀ p, k.a = some p → p.block < w.heap.size) :
    ∃ w' g, digest_NewMac K h k w = some ((some ⟨g, 0, none⟩, 0, ()), w') ∧ MacAt w' g C S h ks [] ∧ w.heap.size ≤ g ∧ Upd none_ w w' := by
  obtain ⟨w1, h1, u1⟩ := Size_ok h w
  have hkl : k.len = ks.length := by rw [hx.len, ints_length]
  have hd : decide (((k.len : Nat) : Int) > 33554432) = false := by rw [hkl]; simp only [decide_eq_false_iff_not]; omega
  have hs1 := u1.size
  obtain ⟨cs, w2, h2, kd, u2⟩ := key_ok hK hk (T.upd0 u1) (hx.upd0 u1) hin (by omega) (fun p hp => by have := hbv p hp; omega)
  have hs2 := u2.size
  have hcl := kd.len
  obtain ⟨w3, n3, b3, u3, z3⟩ := newB_ok z89 89 w2
  obtain ⟨w4, s4, b4, u4, l4⟩ := lay b3 (vs := cs) (by rw [hcl]; kernel_rfl) kd.one
  rw [hcl] at l4
  have hs3 := u3.size
  have hs4 := u4.size
  obtain ⟨w5, n5, b5, u5, z5⟩ := newB_ok (cs ++ cs).toArray 101 w4
  have b5 : Bk 101 w5 w4.heap.size (cs ++ cs) := b5
  refine ⟨w5, w4.heap.size, ?_, ⟨cs, cs, b5, kd, kd⟩, by omega, (((u1.and0 u2).and0 u3).trans' u4 fun k hk e => by omega).and0 u5⟩
  unfold digest_NewMac
  rw [h1, bnd_ok]
  dsimp only
  rw [size_zero, hk, if_neg (by decide), hd, if_neg (by decide), h2, bnd_ok, n3, bnd_ok]
  dsimp only
  rw [if_pos (by rw [List.size_toArray, hcl]), s4, Option.bind_some, l4, Option.bind_some, Option.bind_some, built101 hcl hcl, Option.bind_some, n5, bnd_ok]

theorem MacWrite_loop {K : Nat} (hK : 18446744073709551616 ≤ K) {e : TypeId} {g : Nat} {post : List Value} {h : Int} (hk : known h = true) {C S : List Int} (hg : 4 ≤ g) {s : Sl} {xss : List (List Int)} {Q : Nat → Prop} (hQ : ¬ Q g) :
    ∀ (d i n : Nat) (w : World) (xs : List Int) (a : List Value), i + d = xss.length → d < n → Bk e w g (a ++ post) → StC C S h xs a → Tabs w C S → Parts w s xss Q → xs.length + (xss.drop i).flatten.length ≤ 140737488355328 →
      ∃ w' a', digest_Mac_Write_l0 K n (some ⟨g, 0, none⟩) s ((s.len : Nat) : Int) (i : Int) w = some ((), w') ∧ Bk e w' g (a' ++ post) ∧ StC C S h (xs ++ (xss.drop i).flatten) a' ∧ Upd (· = g) w w' := by
  intro d
  induction d with
  | zero =>
    intro i n w xs a hi hn hb sa hT hp hl
    obtain ⟨n, rfl⟩ : ∃ m, n = m + 1 := ⟨n - 1, by omega⟩
    have hd : decide ((i : Int) < ((s.len : Nat) : Int)) = false := by rw [hp.len]; simp; omega
    have e0 : xs ++ (xss.drop i).flatten = xs := by rw [List.drop_eq_nil_of_le (by omega)]; simp
    refine ⟨w, a, ?_, hb, by rw [e0]; exact sa, Upd.refl _ _⟩
    show digest_Mac_Write_l0_b K (digest_Mac_Write_l0 K n) (some ⟨g, 0, none⟩) s ((s.len : Nat) : Int) (i : Int) w = _
    unfold digest_Mac_Write_l0_b
    rw [hd, if_neg (by decide)]
  | succ d ih =>
    intro i n w xs a hi hn hb sa hT hp hl
    obtain ⟨n, rfl⟩ : ∃ m, n = m + 1 := ⟨n - 1, by omega⟩
    have hm := hp.many
    have hd : decide ((i : Int) < ((s.len : Nat) : Int)) = true := by rw [hp.len]; simp; omega
    obtain ⟨p, t, h1, h2, h3, h4, h5, h6, h7⟩ := hp.at (i := i) (by omega)
    have c : (0 : Int) ≤ (i : Int) ∧ (i : Int) < ((s.len : Nat) : Int) := by rw [hp.len]; omega
    have e1 : IntKind.i64.wrap ((i : Int) + 1) = ((i + 1 : Nat) : Int) := by rw [w64 (by omega) (by omega)]; rfl
    have hdr : (xss.drop i).flatten = xss.getD i [] ++ (xss.drop (i + 1)).flatten := by rw [drop_getD (by omega) [], List.flatten_cons]
    rw [hdr, List.length_append] at hl
    obtain ⟨w1, a1, b1, b2, b3, b4⟩ := take_cells hK hk (pre := []) (post := post) (o := 0) hT sa (by rw [List.nil_append]; exact hb) rfl hg h7 (by omega) h3 (fun q hq e => hQ (e ▸ (h4 q hq).1)) (fun q hq => (h4 q hq).2)
    rw [List.nil_append] at b2
    obtain ⟨w2, a2, c1, c2, c3, c4⟩ := ih (i + 1) n w1 (xs ++ xss.getD i []) a1 (by omega) (by omega) b2 b3 (hT.upd b4 fun k hk e => by omega) (hp.upd b4 fun k hk e => hQ (e ▸ hk)) (by rw [List.length_append]; omega)
    rw [List.append_assoc, ← hdr] at c3
    refine ⟨w2, a2, ?_, c2, c3, b4.trans' c4 fun _ _ e => e⟩
    show digest_Mac_Write_l0_b K (digest_Mac_Write_l0 K n) (some ⟨g, 0, none⟩) s ((s.len : Nat) : Int) (i : Int) w = _
    unfold digest_Mac_Write_l0_b
    rw [hd, if_pos rfl, h1, Option.bind_some, if_pos c, Int.toNat_natCast, Nat.mul_one, h2, Option.bind_some, Option.bind_some, add_lit, add_lit, Nat.add_zero, b1, bnd_ok, e1, c1]

/-- its count and its block -/
theorem KdC.ld {C S : List Int} {h : Int} (hk : known h = true) {ks xs : List Int} {cs cs0 : List Value} {e : TypeId} {g : Nat} {w : World} (kd : KdC C S h ks xs cs) (hb : Bk e w g (cs ++ cs0)) :
    ldI .u64 ⟨g, 5, none⟩ w = some (((blk h + xs.length : Nat) : Int)) ∧ ldI .i64 ⟨g, 1, none⟩ w = some (((blk h : Nat) : Int)) := by
  obtain ⟨a, b, rfl, ha, hb'⟩ := kd.ex
  obtain ⟨H, half, rfl, f, hi⟩ := ha.ex
  have st := st_mk (pre := []) (post := b ++ cs0) (o := 0) (w := w) (e := e) (g := g) f.H8 f.len hi rfl (by rw [List.nil_append, ← List.append_assoc]; exact hb)
  obtain ⟨l1, l5, _⟩ := st.ld hk
  rw [List.length_append, ipad_len hk] at l5
  exact ⟨by simpa using l5, by simpa using l1⟩

theorem MacWrite_ok {K : Nat} (hK : 18446744073709551616 ≤ K) {w : World} {g : Nat} {h : Int} (hk : known h = true) {C S ks xs : List Int} (T : Tabs w C S) (hg : 4 ≤ g) (m : MacAt w g C S h ks xs) {s : Sl} {xss : List (List Int)} {Q : Nat → Prop} (hQ : ¬ Q g) (hp : Parts w s xss Q) (hl : xs.length + xss.flatten.length ≤ 33554432) :
    ∃ w', digest_Mac_Write K (some ⟨g, 0, none⟩) s w = some ((0, ()), w') ∧ MacAt w' g C S h ks (xs ++ xss.flatten) ∧ Upd (· = g) w w' := by
  obtain ⟨cs, cs0, h1, h2, h3⟩ := m.ex
  obtain ⟨l5, l1⟩ := h2.ld hk h1.drew
  obtain ⟨a, b, rfl, ha, hb⟩ := h2.ex
  have hpd := hp.upd0 (Upd.refl none_ w).drew
  have ht := total_ok hK hpd
  have hbk := blk_le h
  obtain ⟨w2, a2, b1, b2, b3, b4⟩ := MacWrite_loop hK hk hg hQ (post := b ++ cs0) xss.length 0 K w.drew _ a (by omega) (by have := hp.many; omega) (by rw [← List.append_assoc]; exact h1.drew) ha T.drew hpd (by rw [List.drop_zero, List.length_append, ipad_len hk]; omega)
  rw [List.drop_zero] at b3
  rw [List.append_assoc] at b3
  have b1 : digest_Mac_Write_l0 K K (some ⟨g, 0, none⟩) s ((s.len : Nat) : Int) 0 w.drew = _ := b1
  have htl := totB_le xss 0 (by omega)
  have h1' : totB 0 xss ≤ 33554432 := htl.1.2 (by omega)
  have h2' := htl.2 h1'
  have hd : decide (((xs.length + totB 0 xss : Nat) : Int) > 33554432) = false := by simp only [decide_eq_false_iff_not]; omega
  have ew : IntKind.u64.wrap (((blk h + xs.length : Nat) : Int) - IntKind.u64.wrap ((blk h : Nat) : Int)) = ((xs.length : Nat) : Int) := by rw [IntKind.wrap_u64, IntKind.wrap_u64]; omega
  refine ⟨w2, ?_, ⟨a2 ++ b, cs0, by rw [List.append_assoc]; exact b2, ⟨a2, b, rfl, b3, hb⟩, h3⟩, b4.predrew⟩
  unfold digest_Mac_Write
  rw [if_neg (by simp), Option.bind_some, Option.bind_some]
  simp only [add_lit, Nat.add_zero, Nat.zero_add]
  rw [l5, Option.bind_some, l1, Option.bind_some, ht, Option.bind_some]
  dsimp only
  rw [ew, tot_wrap hp.lens (by omega), hd, if_neg (by decide), b1, bnd_ok]

theorem MacWrite_long {K : Nat} (hK : 18446744073709551616 ≤ K) {w : World} {g : Nat} {h : Int} (hk : known h = true) {C S ks xs : List Int} (m : MacAt w g C S h ks xs) (hn : xs.length ≤ 33554432) {s : Sl} {xss : List (List Int)} {Q : Nat → Prop} (hp : Parts w s xss Q) (hl : ¬ xs.length + xss.flatten.length ≤ 33554432) :
    digest_Mac_Write K (some ⟨g, 0, none⟩) s w = some ((4, ()), w.drew) := by
  obtain ⟨cs, cs0, h1, h2, h3⟩ := m.ex
  obtain ⟨l5, l1⟩ := h2.ld hk h1.drew
  have ht := total_ok hK (hp.upd0 (Upd.refl none_ w).drew)
  have hbk := blk_le h
  have htl := totB_le xss 0 (by omega)
  have h1' : ¬ xs.length + totB 0 xss ≤ 33554432 := fun e => by have := htl.2 (by omega); omega
  have hd : decide (((xs.length + totB 0 xss : Nat) : Int) > 33554432) = true := by simp only [decide_eq_true_eq]; omega
  have ew : IntKind.u64.wrap (((blk h + xs.length : Nat) : Int) - IntKind.u64.wrap ((blk h : Nat) : Int)) = ((xs.length : Nat) : Int) := by rw [IntKind.wrap_u64, IntKind.wrap_u64]; omega
  unfold digest_Mac_Write
  rw [if_neg (by simp), Option.bind_some, Option.bind_some]
  simp only [add_lit, Nat.add_zero, Nat.zero_add]
  rw [l5, Option.bind_some, l1, Option.bind_some, ht, Option.bind_some]
  dsimp only
  rw [ew, tot_wrap hp.lens hn, hd, if_pos rfl]

theorem MacSum_ok {K : Nat} (hK : 18446744073709551616 ≤ K) {w : World} {g : Nat} {h : Int} (hk : known h = true) {C S ks xs : List Int} (T : Tabs w C S) (m : MacAt w g C S h ks xs) (hlim : xs.length ≤ 549755813888) :
    ∃ s' w', digest_Mac_Sum K (some ⟨g, 0, none⟩) w = some ((s', ()), w') ∧ Ans w.heap.size w' s' (macOf C S h ks xs) ∧ Upd none_ w w' := by
  obtain ⟨cs, cs0, h1, h2, h3⟩ := m.ex
  have lA := h1.ldA (i := 0) (n := 284) (by rw [List.length_append, h2.len, h3.len]; decide)
  rw [List.drop_zero, List.take_append_of_le_length (by rw [h2.len]; decide), List.take_of_length_le (by rw [h2.len]; decide)] at lA
  obtain ⟨s', w', a1, a2, a3⟩ := keyedEnd_ok hK hk T h2 hlim
  refine ⟨s', w', ?_, a2, a3⟩
  unfold digest_Mac_Sum
  rw [if_neg (by simp), Option.bind_some, add_lit, lA, Option.bind_some, a1, bnd_ok]

theorem macOf_len (C S : List Int) (h : Int) (ks xs : List Int) : (macOf C S h ks xs).length ≤ 64 := digestOf_len ..
theorem codeOf_len (C S : List Int) (h : Int) (ks xs : List Int) : (codeOf C S h ks xs).length ≤ 64 := by
  unfold codeOf; split
  · exact macOf_len ..
  · exact Nat.zero_le _
theorem codeOf_in (C S : List Int) (h : Int) (ks xs : List Int) : ∀ x ∈ codeOf C S h ks xs, InK .u8 x := by
  unfold codeOf; split
  · exact digestOf_in h C _ _
  · intro x hx; simp at hx

theorem Code_any {K : Nat} (hK : 18446744073709551616 ≤ K) (h : Int) {C S ks : List Int} {w : World} (T : Tabs w C S) {k : Sl} (hx : Src w k (ints .u8 ks)) (hin : ∀ x ∈ ks, InK .u8 x) (hlim : ks.length ≤ 33554432) (hbv : ∀ p, k.a = some p → p.block < w.heap.size)
    {s : Sl} {xss : List (List Int)} {Q : Nat → Prop} (hp : Parts w s xss Q) (hQ : ∀ k, Q k → k < w.heap.size) (hl : xss.flatten.length ≤ 33554432) :
    ∃ s' w', digest_Code K h k s w = some ((s', (if known h = true then 0 else 10), ()), w') ∧ Vw 5 w' s' (ints .u8 (codeOf C S h ks xss.flatten)) ∧ Fresh w.heap.size s' ∧ Upd none_ w w' := by
  have h4 := T.lt
  unfold codeOf
  cases hk : known h with
  | true =>
    obtain ⟨w1, g, h1, m1, hg, u1⟩ := NewMac_ok hK hk T hx hin hlim hbv
    have hs1 := u1.size
    obtain ⟨w2, h2, m2, u2⟩ := MacWrite_ok hK hk (T.upd0 u1) (by omega) m1 (fun e => by have := hQ g e; omega) (hp.upd0 u1) (by simpa using hl)
    rw [List.nil_append] at m2
    have q2 : Upd none_ w w2 := u1.trans' u2 fun k hk e => by omega
    obtain ⟨s3, w3, h3, a3, u3⟩ := MacSum_ok hK hk (T.upd0 q2) m2 (by omega)
    have hs2 := q2.size
    refine ⟨s3, w3, ?_, by rw [if_pos rfl]; exact a3.vw (Nat.le_trans (macOf_len ..) (by decide)), fun k hk => by have := a3.fresh k hk; omega, q2.and0 u3⟩
    unfold digest_Code digest_Code_s0
    rw [h1, bnd_ok]
    dsimp only
    rw [if_pos (by decide), h2, bnd_ok, bnd_ok]
    dsimp only
    rw [if_neg (by decide), h3, bnd_ok, if_pos rfl]
  | false =>
    obtain ⟨w1, h1, u1⟩ := NewMac_none (K := K) hk k w
    refine ⟨⟨none, 0, 0⟩, w1, ?_, by rw [if_neg (by decide)]; exact Vw.nil 5 w1, (fun k hk => by cases hk), u1⟩
    unfold digest_Code digest_Code_s0
    rw [h1, bnd_ok]
    dsimp only
    rw [if_neg (by decide), bnd_ok]
    dsimp only
    rw [if_pos (by decide), if_neg (by decide)]

/-! ### The document's answer -/

/-- one byte behind an own slice -/
theorem pushO {w : World} {s : Sl} {xs : List Int} (x : Int) (ho : Own 5 w s (ints .u8 xs)) (hs : s.len + 1 ≤ 140737488355328) :
    ∃ w1 s2 w2, bldS prog 25 1 #[(0, (.int .u8 x))] w = some (⟨some ⟨w.heap.size, 0, none⟩, 1, 1⟩, w1) ∧ apd prog 25 25 (.slice s.a s.len s.cap) (.slice (some ⟨w.heap.size, 0, none⟩) 1 1) w1 = some (s2, w2) ∧
      Own 5 w2 s2 (ints .u8 (xs ++ [x])) ∧ Upd (fun k => s.blk = some k) w w2 ∧ (∀ k, s2.blk = some k → s.blk = some k ∨ w.heap.size ≤ k) := by
  obtain ⟨w1, h1, o1, u1, z1⟩ := bldS1_ok sliceB (.int .u8 x) rfl w
  obtain ⟨s2, w2, h2, l2, o2, u2, b2⟩ := apd_ok sliceB (ho.upd0 u1) (o1.src (by simp [Value.oneCell'])) (by show (s.len + 1) * 1 ≤ _; omega)
  refine ⟨w1, s2, w2, h1, h2, by simpa using o2, (u1.mono fun _ _ e => e.elim).trans' u2 fun _ _ e => e, fun k hk => ?_⟩
  rcases b2 with e | e
  · exact .inl (e ▸ hk)
  · rw [e] at hk; have := Option.some.inj hk; exact .inr (by omega)

theorem src_ld {w : World} {s : Sl} {xs : List Int} (h : Src w s (ints .u8 xs)) {i : Nat} (hi : i < xs.length) : ∃ p, s.a = some p ∧ ldI .u8 (p.add i) w = some (xs.getD i 0) := by
  obtain ⟨p, hp, hl⟩ := h.rds.ld
  refine ⟨p, hp (fun e => by rw [e] at hi; simp at hi), ?_⟩
  rw [hl i hi, List.getD_eq_getElem?_getD, List.getElem?_eq_getElem hi]; rfl

theorem padK_get {h : Int} {l : List Int} (hl : l.length ≤ blk h) {i : Nat} (hi : i < blk h) : (padK h l).getD i 0 = if i < l.length then l.getD i 0 else 0 := by
  unfold padK
  simp only [List.getD_eq_getElem?_getD]
  by_cases hc : i < l.length
  · rw [if_pos hc, List.getElem?_append_left hc]
  · rw [if_neg hc, List.getElem?_append_right (by omega), List.getElem?_replicate, if_pos (by omega)]; rfl

theorem xorB_take {c : Int} {l : List Int} {i : Nat} (hi : i < l.length) : xorB c (l.take i) ++ [bits .xor .u8 (l.getD i 0) c] = xorB c (l.take (i + 1)) := by
  rw [take_succ_getD hi 0]; unfold xorB; rw [List.map_append]; rfl

theorem refCode_l1 {K : Nat} {B : Nat} {h : Int} {b2 : Sl} {k8 : Sl} {kk : List Int} (hkk : kk.length ≤ blk h) :
    ∀ (d i n : Nat) (w : World) (si so : Sl), i + d = blk h → d < n → Src w k8 (ints .u8 kk) → (∀ p, k8.a = some p → ints .u8 kk ≠ [] → p.block < B) → Own 5 w si (ints .u8 (xorB 54 ((padK h kk).take i))) → Own 5 w so (ints .u8 (xorB 92 ((padK h kk).take i))) → Fresh B si → Fresh B so → (∀ k, si.blk = some k → so.blk ≠ some k) → B ≤ w.heap.size →
      ∃ si' so' w', ref01_Code_l1 K n h b2 ((blk h : Nat) : Int) k8 si so (i : Int) w = some ((si', so', ()), w') ∧ Own 5 w' si' (ints .u8 (xorB 54 (padK h kk))) ∧ Own 5 w' so' (ints .u8 (xorB 92 (padK h kk))) ∧ Fresh B si' ∧ Fresh B so' ∧ (∀ k, si'.blk = some k → so'.blk ≠ some k) ∧ Below B w w' := by
  have hbk := blk_le h
  have hpl := padK_len hkk
  intro d
  induction d with
  | zero =>
    intro i n w si so hi hn hx hxb hoi hoo hfi hfo hne hB
    obtain ⟨n, rfl⟩ : ∃ m, n = m + 1 := ⟨n - 1, by omega⟩
    have hd : decide ((i : Int) < ((blk h : Nat) : Int)) = false := by simp; omega
    rw [List.take_of_length_le (by omega)] at hoi hoo
    refine ⟨si, so, w, ?_, hoi, hoo, hfi, hfo, hne, Below.refl B w⟩
    have eu : ref01_Code_l1 K (n + 1) = ref01_Code_l1_b K (ref01_Code_l1 K n) := rfl
    rw [eu]
    unfold ref01_Code_l1_b
    rw [hd, if_neg (by decide)]
  | succ d ih =>
    intro i n w si so hi hn hx hxb hoi hoo hfi hfo hne hB
    obtain ⟨n, rfl⟩ : ∃ m, n = m + 1 := ⟨n - 1, by omega⟩
    have hd : decide ((i : Int) < ((blk h : Nat) : Int)) = true := by simp; omega
    have e1 : IntKind.i64.wrap ((i : Int) + 1) = ((i + 1 : Nat) : Int) := by rw [w64 (by omega) (by omega)]; rfl
    have hkl : k8.len = kk.length := by rw [hx.len, ints_length]
    have hs2 : ref01_Code_s2 K k8 (i : Int) 0 (decide ((i : Int) < ((k8.len : Nat) : Int))) w = some (((padK h kk).getD i 0, ()), w) := by
      unfold ref01_Code_s2
      rw [padK_get hkk (by omega)]
      by_cases hc : i < kk.length
      · have hd2 : decide ((i : Int) < ((k8.len : Nat) : Int)) = true := by rw [hkl]; simp; omega
        obtain ⟨p, hp, hl⟩ := src_ld hx hc
        rw [hd2, if_pos rfl, hp, Option.bind_some, if_pos ⟨by omega, by rw [hkl]; omega⟩, Int.toNat_natCast, Nat.mul_one, hl, Option.bind_some, if_pos hc]
      · have hd2 : decide ((i : Int) < ((k8.len : Nat) : Int)) = false := by rw [hkl]; simp; omega
        rw [hd2, if_neg (by decide), if_neg hc]
    have hli : si.len = i := by rw [hoi.len, ints_length, xorB_len, List.length_take]; omega
    have hlo : so.len = i := by rw [hoo.len, ints_length, xorB_len, List.length_take]; omega
    obtain ⟨w1, si2, w2, a1, a2, a3, a4, a5⟩ := pushO (bits .xor .u8 ((padK h kk).getD i 0) 54) hoi (by omega)
    rw [xorB_take (by omega)] at a3
    have hoo2 := hoo.upd a4 fun k hk e => hne k e hk
    obtain ⟨w3, so2, w4, b1, b2', b3, b4, b5⟩ := pushO (bits .xor .u8 ((padK h kk).getD i 0) 92) hoo2 (by omega)
    rw [xorB_take (by omega)] at b3
    have hs2' := a4.size
    have hs4 := b4.size
    have hdis : ∀ k, si2.blk = some k → so.blk ≠ some k := fun k hk e => by
      rcases a5 k hk with a5 | a5
      · exact hne k a5 e
      · have := hoo.lt e; omega
    have hoi2 := a3.upd b4 fun k hk e => hdis k hk e
    have u : Upd (fun k => B ≤ k) w w4 := (a4.mono fun k _ e => hfi k e).trans' (b4.mono fun k _ e => hfo k e) fun _ _ e => e
    have bl : Below B w w4 := u.below hB fun k hk e => by omega
    obtain ⟨si', so', w', c1, c2, c3, c4, c5, c6, c7⟩ := ih (i + 1) n w4 si2 so2 (by omega) (by omega) (src_upd hx u fun p hp hne2 e => by have := hxb p hp hne2; omega) hxb hoi2 b3
      (fun k hk => (a5 k hk).elim (hfi k) fun e => by omega) (fun k hk => (b5 k hk).elim (hfo k) fun e => by omega)
      (fun k hk e => by
        rcases b5 k e with b5 | b5
        · exact hdis k hk b5
        · have := a3.lt hk; omega) (by omega)
    refine ⟨si', so', w', ?_, c2, c3, c4, c5, c6, bl.trans c7⟩
    have eu : ref01_Code_l1 K (n + 1) = ref01_Code_l1_b K (ref01_Code_l1 K n) := rfl
    rw [eu]
    unfold ref01_Code_l1_b
    rw [hd, if_pos rfl, hs2, bnd_ok]
    dsimp only
    rw [a1, bnd_ok]
    dsimp only
    rw [a2, bnd_ok, b1, bnd_ok]
    dsimp only
    rw [b2', bnd_ok, e1, c1]

theorem refCode_ok {K : Nat} (hK : 18446744073709551616 ≤ K) (h : Int) {C S ks xs : List Int} {w : World} (T : TabsR w C S) {k b : Sl} (hx : Src w k (ints .u8 ks)) (hin : ∀ x ∈ ks, InK .u8 x) (hlim : ks.length ≤ 1099511627776)
    (hb : Src w b (ints .u8 xs)) (hbin : ∀ x ∈ xs, InK .u8 x) (hblim : xs.length ≤ 549755813888) :
    ∃ s' w', ref01_Code K h k b w = some ((s', ()), w') ∧ Own 5 w' s' (ints .u8 (codeOf C S h ks xs)) ∧ Upd none_ w w' ∧ Fresh w.heap.size s' := by
  unfold codeOf
  cases hk : known h with
  | false =>
    have hb0 : blockOfH h = 0 := by
      have q : h ≠ 224 ∧ h ≠ 256 ∧ h ≠ 384 ∧ h ≠ 512 := by simp [known] at hk; omega
      unfold blockOfH
      rw [if_neg (by omega), if_neg (by omega)]
    refine ⟨⟨none, 0, 0⟩, w, ?_, by simpa using Own.nil 5 w, Upd.refl _ _, fun k hk => by cases hk⟩
    unfold ref01_Code
    rw [refBlock_ok, Option.bind_some, hb0]
    rfl
  | true =>
    have hb0 : blockOfH h = ((blk h : Nat) : Int) := by rcases known_cases hk with e | e | e | e <;> subst e <;> rfl
    have hbk := blk_le h
    have hbp := blk_pos h
    have hkl : k.len = ks.length := by rw [hx.len, ints_length]
    -- the key, or its digest
    have hkey : ∃ k' w1, ref01_Code_s0 K h k k (decide (((k.len : Nat) : Int) > ((blk h : Nat) : Int))) w = some ((k', ()), w1) ∧ Src w1 k' (ints .u8 (keyH C S h ks)) ∧ (∀ p, k'.a = some p → ints .u8 (keyH C S h ks) ≠ [] → p.block < w1.heap.size) ∧ Upd none_ w w1 := by
      unfold keyH
      by_cases hl : ks.length > blk h
      · have hd : decide (((k.len : Nat) : Int) > ((blk h : Nat) : Int)) = true := by rw [hkl]; simp only [decide_eq_true_eq]; omega
        obtain ⟨s1, w1, h1, o1, u1, f1⟩ := refSum_ok hK (h := h) T hx hin hlim
        unfold sumOf at o1
        rw [if_pos hk] at o1
        refine ⟨s1, w1, ?_, by rw [if_pos hl]; exact o1.src ints_one, fun p hp _ => o1.lt (by simp [Sl.blk, hp]), u1⟩
        unfold ref01_Code_s0
        rw [hd, if_pos rfl, h1, bnd_ok]
      · have hd : decide (((k.len : Nat) : Int) > ((blk h : Nat) : Int)) = false := by rw [hkl]; simp only [decide_eq_false_iff_not]; omega
        refine ⟨k, w, ?_, by rw [if_neg hl]; exact hx, fun p hp hne => ?_, Upd.refl _ _⟩
        · unfold ref01_Code_s0
          rw [hd, if_neg (by decide)]
        · rw [if_neg hl] at hne
          rcases hx.rd with ⟨e, _⟩ | ⟨q, e, hr⟩
          · rw [e] at hp; cases hp
          · rw [e] at hp; cases hp; exact hr.lt hne
    obtain ⟨k', w1, h1, hk1, hkb, u1⟩ := hkey
    have hs1 := u1.size
    obtain ⟨si, so, w2, h2, oi, oo, fi, fo, hne, bl2⟩ := refCode_l1 (K := K) (B := w1.heap.size) (h := h) (b2 := b) (keyH_len hk C S ks) (blk h) 0 K w1 ⟨none, 0, 0⟩ ⟨none, 0, 0⟩ (by omega) (by omega) hk1 hkb (by simpa [xorB] using Own.nil 5 w1) (by simpa [xorB] using Own.nil 5 w1) (fun k hk => by cases hk) (fun k hk => by cases hk) (fun k hk => by cases hk) (Nat.le_refl _)
    have h2 : ref01_Code_l1 K K h b ((blk h : Nat) : Int) k' ⟨none, 0, 0⟩ ⟨none, 0, 0⟩ 0 w1 = _ := h2
    have q2 : Upd none_ w w2 := u1.and0 (Upd.of_below bl2)
    have hs2 := bl2.size
    have hbl : b.len = xs.length := by rw [hb.len, ints_length]
    have hil : si.len = blk h := by rw [oi.len, ints_length, xorB_len, padK_len (keyH_len hk ..)]
    have hol : so.len = blk h := by rw [oo.len, ints_length, xorB_len, padK_len (keyH_len hk ..)]
    obtain ⟨s3, w3, h3, l3, o3, u3, b3⟩ := apd_ok sliceB oi (hb.upd0 q2) (by rw [hil, hbl]; omega)
    rw [← ints_append] at o3
    have oo3 := oo.upd u3 fun k hk e => hne k e hk
    have q3 : Upd none_ w w3 := q2.trans' u3 fun k hk e => by have := fi k e; omega
    have hs3 := u3.size
    have hii := ipad_in (h := h) C S hin
    obtain ⟨s4, w4, h4, o4, u4, f4⟩ := refSum_ok hK (h := h) (T.upd0 q3) (o3.src ints_one) (fun x hx => (List.mem_append.1 hx).elim (hii x) (hbin x)) (by have := ipad_len hk C S ks; unfold ipad at this; rw [List.length_append, this]; omega)
    unfold sumOf at o4
    rw [if_pos hk] at o4
    have hs4 := u4.size
    have hdl := digestOf_len h C (firstH S h) (ipad C S h ks ++ xs)
    obtain ⟨s5, w5, h5, l5, o5, u5, b5⟩ := apd_ok sliceB (oo3.upd0 u4) (o4.src ints_one) (by rw [hol, o4.len, ints_length]; show (_ + (digestOf h C (firstH S h) (ipad C S h ks ++ xs)).length) * 1 ≤ _; omega)
    rw [← ints_append] at o5
    have q5 : Upd none_ w w5 := (q3.and0 u4).trans' u5 fun k hk e => by have := fo k e; omega
    have hs5 := u5.size
    have hoi := opad_in (h := h) C S hin
    obtain ⟨s6, w6, h6, o6, u6, f6⟩ := refSum_ok hK (h := h) (T.upd0 q5) (o5.src ints_one) (fun x hx => (List.mem_append.1 hx).elim (hoi x) (digestOf_in h C _ _ x)) (by
      have := opad_len hk C S ks
      unfold opad at this
      rw [List.length_append, this]
      show _ + (digestOf h C (firstH S h) (ipad C S h ks ++ xs)).length ≤ _
      omega)
    unfold sumOf at o6
    rw [if_pos hk] at o6
    refine ⟨s6, w6, ?_, by rw [if_pos rfl]; exact o6, q5.and0 u6, fun k hk => by have := f6 k hk; have := q5.size; omega⟩
    have hne0 : (((blk h : Nat) : Int) == 0) = false := by simp; omega
    unfold ref01_Code
    rw [refBlock_ok, Option.bind_some, hb0]
    dsimp only
    rw [hne0, if_neg (by decide), h1, bnd_ok]
    dsimp only
    rw [h2, bnd_ok]
    dsimp only
    rw [h3, bnd_ok, h4, bnd_ok]
    dsimp only
    rw [h5, bnd_ok, h6, bnd_ok]

end Go.Sh

/- Expand of package digest and of the document's answer. -/
set_option linter.unusedVariables false
namespace Go.Sh
open Go.Fw Go.Sha Go.RowKit Go.Proofs.Tryd

theorem kcode_loop {K : Nat} (hK : 18446744073709551616 ≤ K) {e : TypeId} {g : Nat} {post : List Value} {h : Int} (hk : known h = true) {C S : List Int} (hg : 4 ≤ g) {s : Sl} {xss : List (List Int)} {Q : Nat → Prop} (hQ : ¬ Q g) :
    ∀ (d i n : Nat) (w : World) (xs : List Int) (a : List Value), i + d = xss.length → d < n → Bk e w g (a ++ post) → StC C S h xs a → Tabs w C S → Parts w s xss Q → xs.length + (xss.drop i).flatten.length ≤ 140737488355328 →
      ∃ w' a', digest_keyed_code_l0 K n ⟨g, 0, none⟩ s ((s.len : Nat) : Int) (i : Int) w = some ((), w') ∧ Bk e w' g (a' ++ post) ∧ StC C S h (xs ++ (xss.drop i).flatten) a' ∧ Upd (· = g) w w' := by
  intro d
  induction d with
  | zero =>
    intro i n w xs a hi hn hb sa hT hp hl
    obtain ⟨n, rfl⟩ : ∃ m, n = m + 1 := ⟨n - 1, by omega⟩
    have hd : decide ((i : Int) < ((s.len : Nat) : Int)) = false := by rw [hp.len]; simp; omega
    have e0 : xs ++ (xss.drop i).flatten = xs := by rw [List.drop_eq_nil_of_le (by omega)]; simp
    refine ⟨w, a, ?_, hb, by rw [e0]; exact sa, Upd.refl _ _⟩
    show digest_keyed_code_l0_b K (digest_keyed_code_l0 K n) ⟨g, 0, none⟩ s ((s.len : Nat) : Int) (i : Int) w = _
    unfold digest_keyed_code_l0_b
    rw [hd, if_neg (by decide)]
  | succ d ih =>
    intro i n w xs a hi hn hb sa hT hp hl
    obtain ⟨n, rfl⟩ : ∃ m, n = m + 1 := ⟨n - 1, by omega⟩
    have hm := hp.many
    have hd : decide ((i : Int) < ((s.len : Nat) : Int)) = true := by rw [hp.len]; simp; omega
    obtain ⟨p, t, h1, h2, h3, h4, h5, h6, h7⟩ := hp.at (i := i) (by omega)
    have c : (0 : Int) ≤ (i : Int) ∧ (i : Int) < ((s.len : Nat) : Int) := by rw [hp.len]; omega
    have e1 : IntKind.i64.wrap ((i : Int) + 1) = ((i + 1 : Nat) : Int) := by rw [w64 (by omega) (by omega)]; rfl
    have hdr : (xss.drop i).flatten = xss.getD i [] ++ (xss.drop (i + 1)).flatten := by rw [drop_getD (by omega) [], List.flatten_cons]
    rw [hdr, List.length_append] at hl
    obtain ⟨w1, a1, b1, b2, b3, b4⟩ := take_cells hK hk (pre := []) (post := post) (o := 0) hT sa (by rw [List.nil_append]; exact hb) rfl hg h7 (by omega) h3 (fun q hq e => hQ (e ▸ (h4 q hq).1)) (fun q hq => (h4 q hq).2)
    rw [List.nil_append] at b2
    obtain ⟨w2, a2, c1, c2, c3, c4⟩ := ih (i + 1) n w1 (xs ++ xss.getD i []) a1 (by omega) (by omega) b2 b3 (hT.upd b4 fun k hk e => by omega) (hp.upd b4 fun k hk e => hQ (e ▸ hk)) (by rw [List.length_append]; omega)
    rw [List.append_assoc, ← hdr] at c3
    refine ⟨w2, a2, ?_, c2, c3, b4.trans' c4 fun _ _ e => e⟩
    show digest_keyed_code_l0_b K (digest_keyed_code_l0 K n) ⟨g, 0, none⟩ s ((s.len : Nat) : Int) (i : Int) w = _
    unfold digest_keyed_code_l0_b
    rw [hd, if_pos rfl, h1, Option.bind_some, if_pos c, Int.toNat_natCast, Nat.mul_one, h2, Option.bind_some, add_lit, Nat.add_zero, b1, bnd_ok, e1, c1]

/-- code: of a key that was taken in, parts fed -/
theorem kcode_ok {K : Nat} (hK : 18446744073709551616 ≤ K) {h : Int} (hk : known h = true) {C S ks : List Int} {w : World} (T : Tabs w C S) {cs : List Value} (kd : KdC C S h ks [] cs) {s : Sl} {xss : List (List Int)} {Q : Nat → Prop} (hp : Parts w s xss Q) (hQ : ∀ k, Q k → k < w.heap.size) (hl : xss.flatten.length ≤ 549755813888) :
    ∃ s' w', digest_keyed_code K cs.toArray s w = some ((s', ()), w') ∧ Ans w.heap.size w' s' (macOf C S h ks xss.flatten) ∧ Upd none_ w w' := by
  have h4 := T.lt
  have hbk := blk_le h
  obtain ⟨a, b, rfl, ha, hb⟩ := kd.ex
  rw [List.append_nil] at ha
  obtain ⟨w1, n1, b1, u1, z1⟩ := newB_ok (a ++ b).toArray 89 w
  have b1 : Bk 89 w1 w.heap.size (a ++ b) := b1
  have hs1 := u1.size
  obtain ⟨w2, a2, h2, b2, st2, u2⟩ := kcode_loop hK hk (g := w.heap.size) (post := b) h4 (fun e => by have := hQ _ e; omega) xss.length 0 K w1 _ a (by omega) (by have := hp.many; omega) b1 ha (T.upd0 u1) (hp.upd0 u1) (by rw [List.drop_zero, ipad_len hk]; omega)
  have h2 : digest_keyed_code_l0 K K ⟨w.heap.size, 0, none⟩ s ((s.len : Nat) : Int) 0 w1 = _ := h2
  rw [List.drop_zero] at st2
  have kd2 : KdC C S h ks xss.flatten (a2 ++ b) := ⟨a2, b, rfl, st2, hb⟩
  have l2 := b2.ldA (i := 0) (n := 284) (by rw [kd2.len]; decide)
  rw [List.drop_zero, List.take_of_length_le (by rw [kd2.len]; decide)] at l2
  have q2 : Upd none_ w w2 := u1.trans' u2 fun k hk e => by omega
  have hs2 := q2.size
  obtain ⟨s3, w3, h3, a3, u3⟩ := keyedEnd_ok hK hk (T.upd0 q2) kd2 hl
  refine ⟨s3, w3, ?_, a3.mono hs2, q2.and0 u3⟩
  unfold digest_keyed_code
  rw [n1, bnd_ok, h2, bnd_ok, l2, Option.bind_some, h3, bnd_ok]

/-- a part as it may stand in a list -/
def PartOk (w : World) (p : Sl × List Int) : Prop := Src w p.1 (ints .u8 p.2) ∧ (∀ x ∈ p.2, InK .u8 x) ∧ p.2.length ≤ 140737488351232 ∧ ∀ q, p.1.a = some q → q.block < w.heap.size

/-- a list of parts -/
theorem some_parts {w : World} (ps : List (Sl × List Int)) (h : ∀ p ∈ ps, PartOk w p) (h0 : 0 < ps.length) (hn : ps.length ≤ 1024) :
    ∃ w', bldS prog 24 ps.length ((ps.map fun p => slV p.1).zipIdx.map fun p => (p.2, p.1)).toArray w = some (⟨some ⟨w.heap.size, 0, none⟩, ps.length, ps.length⟩, w') ∧ Parts w' ⟨some ⟨w.heap.size, 0, none⟩, ps.length, ps.length⟩ (ps.map (·.2)) (fun k => k < w'.heap.size) ∧ Upd none_ w w' := by
  have hlen : (ps.map fun p => slV p.1).length = ps.length := List.length_map ..
  obtain ⟨w2, c1, c2, c3, c4⟩ := bldS_ok sliceSS (ps.map fun p => slV p.1) (fun v hv => by obtain ⟨x, _, rfl⟩ := List.mem_map.1 hv; rfl) (by omega) (by omega) w
  rw [hlen] at c1 c2
  have hs := c3.size
  refine ⟨w2, c1, ⟨by simp, Nat.le_refl _, ?_, ?_, by simp; omega, .inr ⟨⟨w.heap.size, 0, none⟩, ps.map (·.1), rfl, by simp, c2.lt (by simp [Sl.blk]), ?_, fun i hi => ?_⟩⟩, c3⟩
  · intro xs hxs
    obtain ⟨p, hp, rfl⟩ := List.mem_map.1 hxs
    exact (h p hp).2.1
  · intro xs hxs
    obtain ⟨p, hp, rfl⟩ := List.mem_map.1 hxs
    exact (h p hp).2.2.1
  · rcases (c2.src (fun v hv => by obtain ⟨x, _, rfl⟩ := List.mem_map.1 hv; rfl)).rd with ⟨b1, _⟩ | ⟨p, b1, b2⟩
    · cases b1
    · obtain rfl := Option.some.inj b1
      rw [List.map_map]; exact b2
  · have hi2 : i < ps.length := by simpa using hi
    have e1 : (ps.map (·.1)).getD i nilS = ps[i].1 := by simp [List.getD_eq_getElem?_getD, hi2]
    have e2 : (ps.map (·.2)).getD i [] = ps[i].2 := by simp [List.getD_eq_getElem?_getD, hi2]
    obtain ⟨f1, f2, f3, f4⟩ := h ps[i] (List.getElem_mem hi2)
    rw [e1, e2]
    exact ⟨f1.upd0 c3, fun q hq => by have := f4 q hq; exact ⟨by omega, by omega⟩⟩

/-- a digest's bytes -/
def szH (h : Int) : Nat := (h / 8).toNat
theorem szH_ok {h : Int} (hk : known h = true) : sizeOfH h = ((szH h : Nat) : Int) ∧ 28 ≤ szH h ∧ szH h ≤ 64 := by
  rcases known_cases hk with e | e | e | e <;> subst e <;> exact ⟨rfl, by decide, by decide⟩
theorem digestOf_size {h : Int} (hk : known h = true) (C H0 xs : List Int) : (digestOf h C H0 xs).length = szH h := by
  unfold digestOf
  rw [List.length_take, outW_len]
  rcases known_cases hk with e | e | e | e <;> subst e <;> rfl
theorem macOf_size {h : Int} (hk : known h = true) (C S ks xs : List Int) : (macOf C S h ks xs).length = szH h := digestOf_size hk ..
theorem macOf_in (C S : List Int) (h : Int) (ks xs : List Int) : ∀ x ∈ macOf C S h ks xs, InK .u8 x := digestOf_in h C _ _

/-- the last code behind j of them -/
def expT (C S : List Int) (h : Int) (prk info : List Int) : Nat → List Int
  | 0 => []
  | j + 1 => macOf C S h prk (expT C S h prk info j ++ info ++ [((j + 1 : Nat) : Int)])
/-- j codes, one behind the other -/
def expO (C S : List Int) (h : Int) (prk info : List Int) : Nat → List Int
  | 0 => []
  | j + 1 => expO C S h prk info j ++ expT C S h prk info (j + 1)

theorem expT_len {h : Int} (hk : known h = true) (C S prk info : List Int) : ∀ j, (expT C S h prk info j).length ≤ 64
  | 0 => by simp [expT]
  | j + 1 => by unfold expT; exact macOf_len ..
theorem expT_in {h : Int} (C S prk info : List Int) : ∀ j, ∀ x ∈ expT C S h prk info j, InK .u8 x
  | 0 => by simp [expT]
  | j + 1 => by unfold expT; exact macOf_in C S h prk _
theorem expO_len {h : Int} (hk : known h = true) (C S prk info : List Int) : ∀ j, (expO C S h prk info j).length = j * szH h
  | 0 => by simp [expO]
  | j + 1 => by unfold expO; rw [List.length_append, expO_len hk C S prk info j, Nat.succ_mul]; congr 1; exact macOf_size hk ..

/-- how many codes it takes -/
def cnt (h : Int) (n : Nat) : Nat := (n + szH h - 1) / szH h
theorem cnt_ok {h : Int} (hk : known h = true) {n : Nat} (hn : 0 < n) : n ≤ cnt h n * szH h ∧ 0 < cnt h n ∧ ∀ j, j < cnt h n → j * szH h < n := by
  obtain ⟨_, h1, h2⟩ := szH_ok hk
  unfold cnt
  have h3 := Nat.div_add_mod (n + szH h - 1) (szH h)
  have h4 := Nat.mod_lt (n + szH h - 1) (show 0 < szH h by omega)
  obtain ⟨q, hq⟩ : ∃ q, (n + szH h - 1) / szH h = q := ⟨_, rfl⟩
  rw [hq] at h3 ⊢
  have h5 : szH h * q = q * szH h := Nat.mul_comm ..
  refine ⟨by omega, ?_, fun j hj => ?_⟩
  · cases q with
    | zero => rw [Nat.mul_zero] at h3; omega
    | succ q => omega
  · have : (j + 1) * szH h ≤ q * szH h := Nat.mul_le_mul_right _ hj
    rw [Nat.succ_mul] at this; omega

theorem in_byte {j : Nat} (hj : j < 256) : InK .u8 (j : Int) := ⟨Int.natCast_nonneg _, by simp only [IntKind.bits]; omega⟩

theorem Ans.own {B : Nat} {w : World} {s : Sl} {zs : List Int} (h : Ans B w s zs) : ∀ q, s.a = some q → q.block < w.heap.size := lt_of_blk fun _ hk => h.lt hk

theorem Expand_l2 {K : Nat} (hK : 18446744073709551616 ≤ K) {h : Int} (hk : known h = true) {C S prk info : List Int} {si : Sl} (hin : ∀ x ∈ info, InK .u8 x) (hil : info.length ≤ 33554432) {n : Nat} (hn : 0 < n) (hn2 : n ≤ 255 * szH h) {m : Nat} {B : Nat} (hm : m < B) {cs : List Value} (kd : KdC C S h prk [] cs) :
    ∀ (d j k : Nat) (w : World) (out t : Sl), j + d = cnt h n → d < k → Tabs w C S → Bk 89 w m cs → PartOk w (si, info) → (∀ q, si.a = some q → q.block < B) → PartOk w (t, expT C S h prk info j) → Own 5 w out (ints .u8 (expO C S h prk info j)) → Fresh B out → (∀ q, t.a = some q → out.blk ≠ some q.block) → 4 ≤ B → B ≤ w.heap.size →
      ∃ out' w', digest_Expand_l2 K k si (n : Int) ⟨m, 0, none⟩ out t (IntKind.u8.wrap ((j + 1 : Nat) : Int)) w = some ((out', ()), w') ∧ Own 5 w' out' (ints .u8 (expO C S h prk info (cnt h n))) ∧ Fresh B out' ∧ Below B w w' := by
  obtain ⟨hsz, hs28, hs64⟩ := szH_ok hk
  obtain ⟨hc1, hc2, hc3⟩ := cnt_ok hk hn
  have hc255 : cnt h n ≤ 255 := by
    rcases Nat.lt_or_ge 255 (cnt h n) with e | e
    · have := hc3 255 e; omega
    · exact e
  intro d
  induction d with
  | zero =>
    intro j k w out t hj hkk hT hm1 hsi hsib ht ho hf hne h4 hB
    obtain ⟨k, rfl⟩ : ∃ q, k = q + 1 := ⟨k - 1, by omega⟩
    have hol : out.len = j * szH h := by rw [ho.len, ints_length, expO_len hk]
    have hjj : j = cnt h n := by omega
    have hd : decide (((out.len : Nat) : Int) < (n : Int)) = false := by rw [hol, hjj]; simp only [decide_eq_false_iff_not]; omega
    refine ⟨out, w, ?_, hjj ▸ ho, hf, Below.refl B w⟩
    have eu : digest_Expand_l2 K (k + 1) = digest_Expand_l2_b K (digest_Expand_l2 K k) := rfl
    rw [eu]
    unfold digest_Expand_l2_b
    rw [hd, if_neg (by decide)]
  | succ d ih =>
    intro j k w out t hj hkk hT hm1 hsi hsib ht ho hf hne h4 hB
    obtain ⟨k, rfl⟩ : ∃ q, k = q + 1 := ⟨k - 1, by omega⟩
    have hol : out.len = j * szH h := by rw [ho.len, ints_length, expO_len hk]
    have hjl := hc3 j (by omega)
    have hd : decide (((out.len : Nat) : Int) < (n : Int)) = true := by rw [hol]; simp only [decide_eq_true_eq]; omega
    have ei : IntKind.u8.wrap ((j + 1 : Nat) : Int) = ((j + 1 : Nat) : Int) := w8 (by omega) (by omega)
    have ei2 : IntKind.u8.wrap (((j + 1 : Nat) : Int) + 1) = IntKind.u8.wrap ((j + 1 + 1 : Nat) : Int) := by congr 1
    have lA := hm1.ldA (i := 0) (n := 284) (by rw [kd.len]; decide)
    rw [List.drop_zero, List.take_of_length_le (by rw [kd.len]; decide)] at lA
    obtain ⟨w1, b1, b2, u1, z1⟩ := bldS1_ok sliceB (.int .u8 ((j + 1 : Nat) : Int)) rfl w
    have hs1 := u1.size
    have p1 : PartOk w1 (t, expT C S h prk info j) := ⟨ht.1.upd0 u1, ht.2.1, ht.2.2.1, fun q hq => by have := ht.2.2.2 q hq; omega⟩
    have p2 : PartOk w1 (si, info) := ⟨hsi.1.upd0 u1, hsi.2.1, hsi.2.2.1, fun q hq => by have := hsi.2.2.2 q hq; omega⟩
    have p3 : PartOk w1 (⟨some ⟨w.heap.size, 0, none⟩, 1, 1⟩, [((j + 1 : Nat) : Int)]) := ⟨b2.src (by simp [Value.oneCell']), fun x hx => by obtain rfl := List.mem_singleton.1 hx; exact in_byte (by omega), by simp, fun q hq => by obtain rfl := Option.some.inj hq; exact b2.lt (by simp [Sl.blk])⟩
    obtain ⟨w2, c1, c2, u2⟩ := some_parts [(t, expT C S h prk info j), (si, info), (⟨some ⟨w.heap.size, 0, none⟩, 1, 1⟩, [((j + 1 : Nat) : Int)])] (fun p hp => by
      simp only [List.mem_cons, List.not_mem_nil, or_false] at hp
      rcases hp with rfl | rfl | rfl
      · exact p1
      · exact p2
      · exact p3) (by simp) (by simp)
    have c1 : bldS prog 24 3 #[(0, (.slice t.a t.len t.cap)), (1, (.slice si.a si.len si.cap)), (2, (.slice (some ⟨w.heap.size, 0, none⟩) 1 1))] w1 = some (⟨some ⟨w1.heap.size, 0, none⟩, 3, 3⟩, w2) := c1
    have c2 : Parts w2 ⟨some ⟨w1.heap.size, 0, none⟩, 3, 3⟩ ([(t, expT C S h prk info j), (si, info), (⟨some ⟨w.heap.size, 0, none⟩, 1, 1⟩, [((j + 1 : Nat) : Int)])].map (·.2)) (fun k => k < w2.heap.size) := c2
    have hs2 := u2.size
    have hfl : ([(t, expT C S h prk info j), (si, info), (⟨some ⟨w.heap.size, 0, none⟩, 1, 1⟩, [((j + 1 : Nat) : Int)])].map (·.2)).flatten = expT C S h prk info j ++ info ++ [((j + 1 : Nat) : Int)] := by simp
    have htl := expT_len hk C S prk info j
    obtain ⟨s3, w3, d1, d2, u3⟩ := kcode_ok hK hk ((hT.upd0 u1).upd0 u2) kd c2 (fun k hk => hk) (by rw [hfl, List.length_append, List.length_append]; simp only [List.length_singleton]; omega)
    rw [hfl] at d2
    have e3 : macOf C S h prk (expT C S h prk info j ++ info ++ [((j + 1 : Nat) : Int)]) = expT C S h prk info (j + 1) := rfl
    rw [e3] at d2
    have hs3 := u3.size
    have q3 := (u1.and0 u2).and0 u3
    have htl2 := expT_len hk C S prk info (j + 1)
    obtain ⟨s4, w4, f1, f2, f3, u4, f5⟩ := apd_ok sliceB (ho.upd0 q3) d2.src (by rw [hol, d2.len]; have : j * szH h ≤ 255 * 64 := Nat.mul_le_mul (by omega) hs64; omega)
    rw [← ints_append] at f3
    have f3 : Own 5 w4 s4 (ints .u8 (expO C S h prk info (j + 1))) := f3
    have hs4 := u4.size
    have hob : ∀ k, out.blk = some k → k < w.heap.size := fun k hk => ho.lt hk
    have q4 : Upd (fun k => out.blk = some k) w w4 := (q3.mono (T := fun k => out.blk = some k) fun _ _ e => e.elim).trans' u4 fun _ _ e => e
    have bl : Below B w w4 := q4.below hB fun k hk e => by have := hf k e; omega
    have hs3b : ∀ q, s3.a = some q → w2.heap.size ≤ q.block ∧ q.block < w3.heap.size := fun q hq => ⟨d2.fresh q.block (by simp [Sl.blk, hq]), d2.own q hq⟩
    have pn : PartOk w4 (s3, expT C S h prk info (j + 1)) := ⟨d2.src.upd u4 fun q hq e => by have := hs3b q hq; have := hob _ e; omega, expT_in C S prk info (j + 1), by show (expT C S h prk info (j + 1)).length ≤ _; omega, fun q hq => by have := hs3b q hq; omega⟩
    obtain ⟨out', w', g1, g2, g3, g4⟩ := ih (j + 1) k w4 s4 s3 (by omega) (by omega) (hT.upd q4 fun k hk e => by have := hf k e; omega) (hm1.upd q4 fun e => by have := hf m e; omega)
      ⟨hsi.1.upd q4 fun q hq e => by have := hf _ e; have := hsib q hq; omega, hsi.2.1, hsi.2.2.1, fun q hq => by have := hsi.2.2.2 q hq; have := q4.size; omega⟩ hsib pn f3
      (fun k hk => by
        rcases f5 with f5 | f5
        · exact hf k (f5 ▸ hk)
        · rw [f5] at hk; have := Option.some.inj hk; omega)
      (fun q hq e => by
        have := hs3b q hq
        rcases f5 with f5 | f5
        · rw [f5] at e; have := hob _ e; omega
        · rw [f5] at e; have := Option.some.inj e; omega) h4 (by have := q4.size; omega)
    refine ⟨out', w', ?_, g2, g3, bl.trans g4⟩
    have eu : digest_Expand_l2 K (k + 1) = digest_Expand_l2_b K (digest_Expand_l2 K k) := rfl
    rw [eu]
    unfold digest_Expand_l2_b
    rw [hd, if_pos rfl, lA, Option.bind_some, ei, b1, bnd_ok]
    dsimp only
    rw [c1, bnd_ok, d1, bnd_ok]
    dsimp only
    rw [f1, bnd_ok, ei2, g1]

/-- what Expand refuses -/
def expErr (h : Int) (p i : Nat) (n : Int) : Int :=
  if known h = false then 10 else if (p : Int) < sizeOfH h then 15 else if p > 33554432 ∨ i > 33554367 then 4 else if n < 1 ∨ n > 255 * sizeOfH h then 12 else 0
/-- what it tells -/
def expOf (C S : List Int) (h : Int) (prk info : List Int) (n : Int) : List Int :=
  if expErr h prk.length info.length n = 0 then (expO C S h prk info (cnt h n.toNat)).take n.toNat else []

theorem w255 {h : Int} (hk : known h = true) : IntKind.i64.wrap (255 * sizeOfH h) = 255 * sizeOfH h := by
  obtain ⟨e, h1, h2⟩ := szH_ok hk
  rw [e]; exact w64 (by omega) (by omega)

theorem expErr_10 {h : Int} (hk : known h = false) (p i : Nat) (n : Int) : expErr h p i n = 10 := by unfold expErr; rw [if_pos hk]
theorem expErr_15 {h : Int} (hk : known h = true) {p : Nat} (h1 : (p : Int) < sizeOfH h) (i : Nat) (n : Int) : expErr h p i n = 15 := by
  unfold expErr; rw [if_neg (by rw [hk]; decide), if_pos h1]
theorem expErr_4 {h : Int} (hk : known h = true) {p i : Nat} (h1 : ¬ (p : Int) < sizeOfH h) (h2 : p > 33554432 ∨ i > 33554367) (n : Int) : expErr h p i n = 4 := by
  unfold expErr; rw [if_neg (by rw [hk]; decide), if_neg h1, if_pos h2]
theorem expErr_12 {h : Int} (hk : known h = true) {p i : Nat} (h1 : ¬ (p : Int) < sizeOfH h) (h2 : ¬ (p > 33554432 ∨ i > 33554367)) {n : Int} (h3 : n < 1 ∨ n > 255 * sizeOfH h) : expErr h p i n = 12 := by
  unfold expErr; rw [if_neg (by rw [hk]; decide), if_neg h1, if_neg h2, if_pos h3]
theorem expErr_0 {h : Int} (hk : known h = true) {p i : Nat} (h1 : ¬ (p : Int) < sizeOfH h) (h2 : ¬ (p > 33554432 ∨ i > 33554367)) {n : Int} (h3 : ¬ (n < 1 ∨ n > 255 * sizeOfH h)) : expErr h p i n = 0 := by
  unfold expErr; rw [if_neg (by rw [hk]; decide), if_neg h1, if_neg h2, if_neg h3]

theorem Expand_s0_ok {K : Nat} {h : Int} {prk info : Sl} {n : Int} (w : World) :
    digest_Expand_s0 K prk info n (sizeOfH h) w = some (if expErr h prk.len info.len n = 0 then .norm () else .ret (⟨none, 0, 0⟩, expErr h prk.len info.len n, ()), w) := by
  unfold digest_Expand_s0
  rw [size_zero]
  cases hk : known h with
  | false => rw [expErr_10 hk]; rfl
  | true =>
    rw [if_neg (by decide)]
    by_cases h1 : (prk.len : Int) < sizeOfH h
    · rw [decide_eq_true h1, if_pos rfl, expErr_15 hk h1, if_neg (by decide)]
    · rw [decide_eq_false h1, if_neg (by decide)]
      unfold digest_Expand_s1
      by_cases h2 : prk.len > 33554432
      · have hd : decide (((prk.len : Nat) : Int) > 33554432) = true := by simp only [decide_eq_true_eq]; omega
        rw [hd, if_pos rfl, bnd_ok, if_pos rfl, expErr_4 hk h1 (.inl h2), if_neg (by decide)]
      · have hd : decide (((prk.len : Nat) : Int) > 33554432) = false := by simp only [decide_eq_false_iff_not]; omega
        rw [hd, if_neg (by decide), bnd_ok]
        dsimp only
        by_cases h3 : info.len > 33554367
        · have hd : decide (((info.len : Nat) : Int) > 33554367) = true := by simp only [decide_eq_true_eq]; omega
          rw [hd, if_pos rfl, expErr_4 hk h1 (.inr h3), if_neg (by decide)]
        · have hd : decide (((info.len : Nat) : Int) > 33554367) = false := by simp only [decide_eq_false_iff_not]; omega
          have h23 : ¬ (prk.len > 33554432 ∨ info.len > 33554367) := by omega
          rw [hd, if_neg (by decide), w255 hk]
          by_cases h4 : n < 1
          · rw [decide_eq_true h4, if_pos rfl, expErr_12 hk h1 h23 (.inl h4), if_neg (by decide)]
          · rw [decide_eq_false h4, if_neg (by decide)]
            by_cases h5 : n > 255 * sizeOfH h
            · rw [decide_eq_true h5, if_pos rfl, expErr_12 hk h1 h23 (.inr h5), if_neg (by decide)]
            · rw [decide_eq_false h5, if_neg (by decide), expErr_0 hk h1 h23 (by omega), if_pos rfl]

theorem refExpandError_ok (h : Int) (p i : Nat) (n : Int) : ref01_ExpandError h (p : Int) (i : Int) n = some (expErr h p i n, ()) := by
  unfold ref01_ExpandError
  rw [refSize_ok, Option.bind_some]
  dsimp only
  rw [size_zero]
  cases hk : known h with
  | false => rw [expErr_10 hk]; rfl
  | true =>
    rw [if_neg (by decide)]
    by_cases h1 : (p : Int) < sizeOfH h
    · rw [decide_eq_true h1, if_pos rfl, expErr_15 hk h1]
    · rw [decide_eq_false h1, if_neg (by decide)]
      unfold ref01_ExpandError_s0
      by_cases h2 : p > 33554432
      · have hd : decide (((p : Nat) : Int) > 33554432) = true := by simp only [decide_eq_true_eq]; omega
        rw [hd, if_pos rfl, Option.bind_some, expErr_4 hk h1 (.inl h2)]
        rfl
      · have hd : decide (((p : Nat) : Int) > 33554432) = false := by simp only [decide_eq_false_iff_not]; omega
        rw [hd, if_neg (by decide), Option.bind_some]
        dsimp only
        by_cases h3 : i > 33554367
        · have hd : decide (((i : Nat) : Int) > 33554367) = true := by simp only [decide_eq_true_eq]; omega
          rw [hd, if_pos rfl, expErr_4 hk h1 (.inr h3)]
        · have hd : decide (((i : Nat) : Int) > 33554367) = false := by simp only [decide_eq_false_iff_not]; omega
          have h23 : ¬ (p > 33554432 ∨ i > 33554367) := by omega
          rw [hd, if_neg (by decide), w255 hk]
          by_cases h4 : n < 1
          · rw [decide_eq_true h4, if_pos rfl, expErr_12 hk h1 h23 (.inl h4)]
          · rw [decide_eq_false h4, if_neg (by decide)]
            by_cases h5 : n > 255 * sizeOfH h
            · rw [decide_eq_true h5, if_pos rfl, expErr_12 hk h1 h23 (.inr h5)]
            · rw [decide_eq_false h5, if_neg (by decide), expErr_0 hk h1 h23 (by omega)]

theorem expErr_zero {h : Int} {p i : Nat} {n : Int} (he : expErr h p i n = 0) : known h = true ∧ p ≤ 33554432 ∧ i ≤ 33554367 ∧ ∃ m : Nat, n = (m : Int) ∧ 0 < m ∧ m ≤ 255 * szH h := by
  unfold expErr at he
  cases hk : known h with
  | false => rw [hk] at he; simp at he
  | true =>
    rw [hk, if_neg (by decide)] at he
    split at he
    · cases he
    · split at he
      · cases he
      · split at he
        · cases he
        · rename_i h1 h2 h3
          obtain ⟨e, _⟩ := szH_ok hk
          exact ⟨rfl, by omega, by omega, n.toNat, by omega, by omega, by omega⟩

theorem _root_.Go.Fw.Own.front {e : TypeId} {w : World} {s : Sl} {xs : List Value} (h : Own e w s xs) (hne : xs ≠ []) {n c : Nat} (hn : n ≤ s.len) (hc1 : n ≤ c) (hc : c ≤ s.cap) : Vw e w ⟨s.a, n, c⟩ (xs.take n) := by
  obtain ⟨g, cs, a1, a2, a3, a4, a5, a6⟩ := h.bk hne
  refine ⟨by rw [List.length_take, h.1]; exact Nat.min_eq_left hn, .inr ⟨g, 0, cs, a1, a2, hc1, by show c ≤ maxLen; omega, by show 0 + c ≤ cs.length; omega, ?_⟩⟩
  show (cs.drop 0).take n = _
  rw [List.drop_zero, ← a6, List.take_take, Nat.min_eq_left hn]

theorem Expand_any {K : Nat} (hK : 18446744073709551616 ≤ K) (h : Int) {C S prk info : List Int} {w : World} (T : Tabs w C S) {sp si : Sl} (hp : PartOk w (sp, prk)) (hi : PartOk w (si, info)) (n : Int) :
    ∃ s' w', digest_Expand K h sp si n w = some ((s', expErr h prk.length info.length n, ()), w') ∧ Vw 5 w' s' (ints .u8 (expOf C S h prk info n)) ∧ Fresh w.heap.size s' ∧ Upd none_ w w' := by
  have h4 := T.lt
  have hpl : sp.len = prk.length := by rw [hp.1.len, ints_length]
  have hil : si.len = info.length := by rw [hi.1.len, ints_length]
  obtain ⟨w1, h1, u1⟩ := Size_ok h w
  have hs1 := u1.size
  have hs0 := Expand_s0_ok (K := K) (h := h) (prk := sp) (info := si) (n := n) w1
  rw [hpl, hil] at hs0
  unfold expOf
  by_cases he : expErr h prk.length info.length n = 0
  · rw [if_pos he] at hs0 ⊢
    obtain ⟨hk, hl1, hl2, m, rfl, hm0, hm1⟩ := expErr_zero he
    rw [Int.toNat_natCast]
    obtain ⟨hsz, hs28, hs64⟩ := szH_ok hk
    obtain ⟨hc1, hc2, hc3⟩ := cnt_ok hk hm0
    obtain ⟨cs, w2, h2, kd, u2⟩ := key_ok hK hk (T.upd0 u1) (hp.1.upd0 u1) hp.2.1 (show prk.length ≤ 1099511627776 by omega) (fun q hq => by have := hp.2.2.2 q hq; show q.block < _; omega)
    have hs2 := u2.size
    obtain ⟨w3, n3, b3, u3, z3⟩ := newB_ok z89 89 w2
    obtain ⟨w4, s4, b4, u4, _⟩ := lay b3 (vs := cs) (by rw [kd.len]; kernel_rfl) kd.one
    have hs3 := u3.size
    have hs4 := u4.size
    have q4 : Upd none_ w w4 := ((u1.and0 u2).and0 u3).trans' u4 fun k hk e => by omega
    obtain ⟨out, w5, h5, o5, f5, bl5⟩ := Expand_l2 hK hk (C := C) (S := S) (prk := prk) (info := info) (si := si) hi.2.1 (by omega) hm0 hm1 (m := w2.heap.size) (B := w4.heap.size) b4.lt kd (cnt h m) 0 K w4 ⟨none, 0, 0⟩ ⟨none, 0, 0⟩ (by omega)
      (by have : cnt h m ≤ 255 := by
            rcases Nat.lt_or_ge 255 (cnt h m) with e | e
            · have := hc3 255 e; omega
            · exact e
          omega) (T.upd0 q4) b4 ⟨hi.1.upd0 q4, hi.2.1, hi.2.2.1, fun q hq => by have := hi.2.2.2 q hq; show q.block < _; omega⟩ (fun q hq => by have := hi.2.2.2 q hq; omega)
      ⟨⟨rfl, Nat.le_refl _, .inl ⟨rfl, rfl, rfl⟩, ints_one⟩, (fun x hx => by simp [expT] at hx), Nat.zero_le _, fun q hq => by cases hq⟩ (Own.nil 5 w4) (fun k hk => by cases hk) (fun q hq => by cases hq) (by omega) (Nat.le_refl _)
    have h5 : digest_Expand_l2 K K si (m : Int) ⟨w2.heap.size, 0, none⟩ ⟨none, 0, 0⟩ ⟨none, 0, 0⟩ 1 w4 = _ := h5
    have hol : out.len = cnt h m * szH h := by rw [o5.len, ints_length, expO_len hk]
    have hcap := o5.cap
    have hne : ints .u8 (expO C S h prk info (cnt h m)) ≠ [] := fun e => by
      have := congrArg List.length e
      rw [ints_length, expO_len hk] at this
      simp at this; omega
    have hv := o5.front hne (n := m) (c := m) (by omega) (Nat.le_refl _) (by omega)
    rw [ints_take] at hv
    obtain ⟨g5, cs5, a1, _⟩ := o5.bk hne
    have esl : sla out.a 0 m 1 = out.a := sla_zero ..
    refine ⟨⟨out.a, m, m⟩, w5, ?_, hv, fun k hk => by have := f5 k hk; have := q4.size; omega, q4.and0 (Upd.of_below bl5)⟩
    unfold digest_Expand
    rw [h1, bnd_ok, hs0, bnd_ok]
    dsimp only
    rw [h2, bnd_ok, n3, bnd_ok]
    dsimp only
    rw [if_pos (by rw [List.size_toArray, kd.len]), s4, Option.bind_some, h5, bnd_ok]
    dsimp only
    rw [if_pos (by omega), Int.toNat_natCast, if_pos (by omega), esl, he, Nat.sub_zero]
  · rw [if_neg he] at hs0 ⊢
    refine ⟨⟨none, 0, 0⟩, w1, ?_, Vw.nil 5 w1, (fun k hk => by cases hk), u1⟩
    unfold digest_Expand
    rw [h1, bnd_ok, hs0, bnd_ok]

end Go.Sh

/- Expand of the document's answer. -/
set_option linter.unusedVariables false
namespace Go.Sh
open Go.Fw Go.Sha Go.RowKit Go.Proofs.Tryd

theorem refExpand_l0 {K : Nat} (hK : 18446744073709551616 ≤ K) {h : Int} (hk : known h = true) {C S prk info : List Int} {sp si : Sl} (hpi : ∀ x ∈ prk, InK .u8 x) (hpl : prk.length ≤ 1099511627776) (hin : ∀ x ∈ info, InK .u8 x) (hil : info.length ≤ 33554432) {n : Nat} (hn : 0 < n) (hn2 : n ≤ 255 * szH h) {B : Nat} :
    ∀ (d j k : Nat) (w : World) (out t : Sl), j + d = cnt h n → d < k → TabsR w C S → Src w sp (ints .u8 prk) → (∀ q, sp.a = some q → ints .u8 prk ≠ [] → q.block < B) → Src w si (ints .u8 info) → (∀ q, si.a = some q → ints .u8 info ≠ [] → q.block < B) → Own 5 w t (ints .u8 (expT C S h prk info j)) → Own 5 w out (ints .u8 (expO C S h prk info j)) → Fresh B out → (∀ k, t.blk = some k → out.blk ≠ some k) → 4 ≤ B → B ≤ w.heap.size →
      ∃ out' w', ref01_Expand_l0 K k h sp si (n : Int) out t ((j + 1 : Nat) : Int) w = some ((out', ()), w') ∧ Own 5 w' out' (ints .u8 (expO C S h prk info (cnt h n))) ∧ Fresh B out' ∧ Below B w w' := by
  obtain ⟨hsz, hs28, hs64⟩ := szH_ok hk
  obtain ⟨hc1, hc2, hc3⟩ := cnt_ok hk hn
  have hc255 : cnt h n ≤ 255 := by
    rcases Nat.lt_or_ge 255 (cnt h n) with e | e
    · have := hc3 255 e; omega
    · exact e
  intro d
  induction d with
  | zero =>
    intro j k w out t hj hkk hT hp hpb hi hib ht ho hf hne h4 hB
    obtain ⟨k, rfl⟩ : ∃ q, k = q + 1 := ⟨k - 1, by omega⟩
    have hol : out.len = j * szH h := by rw [ho.len, ints_length, expO_len hk]
    have hjj : j = cnt h n := by omega
    have hd : decide (((out.len : Nat) : Int) < (n : Int)) = false := by rw [hol, hjj]; simp only [decide_eq_false_iff_not]; omega
    refine ⟨out, w, ?_, hjj ▸ ho, hf, Below.refl B w⟩
    have eu : ref01_Expand_l0 K (k + 1) = ref01_Expand_l0_b K (ref01_Expand_l0 K k) := rfl
    rw [eu]
    unfold ref01_Expand_l0_b
    rw [hd, if_neg (by decide)]
  | succ d ih =>
    intro j k w out t hj hkk hT hp hpb hi hib ht ho hf hne h4 hB
    obtain ⟨k, rfl⟩ : ∃ q, k = q + 1 := ⟨k - 1, by omega⟩
    have hol : out.len = j * szH h := by rw [ho.len, ints_length, expO_len hk]
    have hjl := hc3 j (by omega)
    have hd : decide (((out.len : Nat) : Int) < (n : Int)) = true := by rw [hol]; simp only [decide_eq_true_eq]; omega
    have ei : IntKind.u8.wrap ((j + 1 : Nat) : Int) = ((j + 1 : Nat) : Int) := w8 (by omega) (by omega)
    have ei2 : IntKind.i64.wrap (((j + 1 : Nat) : Int) + 1) = ((j + 1 + 1 : Nat) : Int) := by rw [w64 (by omega) (by omega)]; rfl
    have htl := expT_len hk C S prk info j
    have hst : t.len = (expT C S h prk info j).length := by rw [ht.len, ints_length]
    have hsi : si.len = info.length := by rw [hi.len, ints_length]
    obtain ⟨x1, w1, a1, l1, o1, u1, f1⟩ := apd_ok sliceB (Own.nil 5 w) (ht.src ints_one) (by show (0 + t.len) * 1 ≤ _; omega)
    rw [List.nil_append] at o1
    have a1 : apd prog 25 25 (.slice none 0 0) (.slice t.a t.len t.cap) w = some (x1, w1) := a1
    have u1' : Upd none_ w w1 := u1.mono fun k _ e => by cases e
    have hs1 := u1'.size
    have fx1 : ∀ k, x1.blk = some k → w.heap.size ≤ k := fun k hk => by
      rcases f1 with e | e
      · rw [e] at hk; cases hk
      · rw [e] at hk; have := Option.some.inj hk; omega
    have hx1 : x1.len = (expT C S h prk info j).length := by rw [o1.len, ints_length]
    obtain ⟨x2, w2, a2, l2, o2, u2, f2⟩ := apd_ok sliceB o1 (hi.upd0 u1') (by rw [hx1, hsi]; omega)
    rw [← ints_append] at o2
    have q2 : Upd none_ w w2 := u1'.trans' u2 fun k hk e => by have := fx1 k e; omega
    have fx2 : ∀ k, x2.blk = some k → w.heap.size ≤ k := fun k hk => by
      rcases f2 with e | e
      · exact fx1 k (e ▸ hk)
      · rw [e] at hk; have := Option.some.inj hk; omega
    have hx2 : x2.len = (expT C S h prk info j).length + info.length := by rw [o2.len, ints_length, List.length_append]
    have hs2 := u2.size
    obtain ⟨w3, x4, w4, a3, a4, o4, u4, f4⟩ := pushO ((j + 1 : Nat) : Int) o2 (by omega)
    have q4 : Upd none_ w w4 := q2.trans' u4 fun k hk e => by have := fx2 k e; omega
    have hs4 := q4.size
    obtain ⟨r, w5, a5, o5, u5, f5⟩ := refCode_ok hK h (hT.upd0 q4) (hp.upd0 q4) hpi hpl (o4.src ints_one) (fun x hx => by
      rcases List.mem_append.1 hx with hx | hx
      · rcases List.mem_append.1 hx with hx | hx
        · exact expT_in C S prk info j x hx
        · exact hin x hx
      · obtain rfl := List.mem_singleton.1 hx; exact in_byte (by omega)) (by rw [List.length_append, List.length_append, List.length_singleton]; omega)
    unfold codeOf at o5
    rw [if_pos hk] at o5
    have o5 : Own 5 w5 r (ints .u8 (expT C S h prk info (j + 1))) := o5
    have q5 := q4.and0 u5
    have hs5 := u5.size
    have htl2 := expT_len hk C S prk info (j + 1)
    obtain ⟨s6, w6, a6, l6, o6, u6, f6⟩ := apd_ok sliceB (ho.upd0 q5) (o5.src ints_one) (by rw [hol, o5.len, ints_length]; have : j * szH h ≤ 255 * 64 := Nat.mul_le_mul (by omega) hs64; omega)
    rw [← ints_append] at o6
    have o6 : Own 5 w6 s6 (ints .u8 (expO C S h prk info (j + 1))) := o6
    have hob : ∀ k, out.blk = some k → k < w.heap.size := fun k hk => ho.lt hk
    have q6 : Upd (fun k => out.blk = some k) w w6 := (q5.mono (T := fun k => out.blk = some k) fun _ _ e => e.elim).trans' u6 fun _ _ e => e
    have bl : Below B w w6 := q6.below hB fun k hk e => by have := hf k e; omega
    have or6 := o5.upd u6 fun k hk e => by have := f5 k hk; have := hob k e; omega
    obtain ⟨out', w', g1, g2, g3, g4⟩ := ih (j + 1) k w6 s6 r (by omega) (by omega) (hT.upd q6 fun k hk e => by have := hf k e; omega)
      (src_upd hp q6 fun q hq hne2 e => by have := hf _ e; have := hpb q hq hne2; omega) hpb (src_upd hi q6 fun q hq hne2 e => by have := hf _ e; have := hib q hq hne2; omega) hib or6 o6
      (fun k hk => by
        rcases f6 with f6 | f6
        · exact hf k (f6 ▸ hk)
        · rw [f6] at hk; have := Option.some.inj hk; omega)
      (fun k hk e => by
        have := f5 k hk
        have := o5.lt hk
        rcases f6 with f6 | f6
        · rw [f6] at e; have := hob _ e; omega
        · rw [f6] at e; have := Option.some.inj e; omega) h4 (by have := q6.size; omega)
    refine ⟨out', w', ?_, g2, g3, bl.trans g4⟩
    have eu : ref01_Expand_l0 K (k + 1) = ref01_Expand_l0_b K (ref01_Expand_l0 K k) := rfl
    rw [eu]
    unfold ref01_Expand_l0_b
    rw [hd, if_pos rfl, a1, bnd_ok, a2, bnd_ok, ei, a3, bnd_ok]
    dsimp only
    rw [a4, bnd_ok, a5, bnd_ok]
    dsimp only
    rw [a6, bnd_ok, ei2, g1]

theorem refExpand_ok {K : Nat} (hK : 18446744073709551616 ≤ K) (h : Int) {C S prk info : List Int} {w : World} (T : TabsR w C S) {sp si : Sl} (hp : Src w sp (ints .u8 prk)) (hpi : ∀ x ∈ prk, InK .u8 x) (hi : Src w si (ints .u8 info)) (hin : ∀ x ∈ info, InK .u8 x) {n : Int} (he : expErr h prk.length info.length n = 0) :
    ∃ s' w', ref01_Expand K h sp si n w = some ((s', ()), w') ∧ Vw 5 w' s' (ints .u8 (expOf C S h prk info n)) ∧ Fresh w.heap.size s' ∧ Upd none_ w w' := by
  have h4 := T.lt
  unfold expOf
  rw [if_pos he]
  obtain ⟨hk, hl1, hl2, m, rfl, hm0, hm1⟩ := expErr_zero he
  rw [Int.toNat_natCast]
  obtain ⟨hsz, hs28, hs64⟩ := szH_ok hk
  obtain ⟨hc1, hc2, hc3⟩ := cnt_ok hk hm0
  have hlt : ∀ {s : Sl} {xs : List Int}, Src w s (ints .u8 xs) → ∀ q, s.a = some q → ints .u8 xs ≠ [] → q.block < w.heap.size := by
    intro s xs hs q hq hne
    rcases hs.rd with ⟨e, _⟩ | ⟨p, e, hr⟩
    · rw [e] at hq; cases hq
    · rw [e] at hq; cases hq; exact hr.lt hne
  obtain ⟨out, w5, h5, o5, f5, bl5⟩ := refExpand_l0 hK hk (C := C) (S := S) (prk := prk) (info := info) (sp := sp) (si := si) hpi (by omega) hin (by omega) hm0 hm1 (B := w.heap.size) (cnt h m) 0 K w ⟨none, 0, 0⟩ ⟨none, 0, 0⟩ (by omega)
    (by have : cnt h m ≤ 255 := by
          rcases Nat.lt_or_ge 255 (cnt h m) with e | e
          · have := hc3 255 e; omega
          · exact e
        omega) T hp (hlt hp) hi (hlt hi) (Own.nil 5 w) (Own.nil 5 w) (fun k hk => by cases hk) (fun k hk => by cases hk) h4 (Nat.le_refl _)
  have h5 : ref01_Expand_l0 K K h sp si (m : Int) ⟨none, 0, 0⟩ ⟨none, 0, 0⟩ 1 w = _ := h5
  have hol : out.len = cnt h m * szH h := by rw [o5.len, ints_length, expO_len hk]
  have hcap := o5.cap
  have hne : ints .u8 (expO C S h prk info (cnt h m)) ≠ [] := fun e => by
    have := congrArg List.length e
    rw [ints_length, expO_len hk] at this
    simp at this; omega
  have hv := o5.front hne (n := m) (c := out.cap) (by omega) (by omega) (Nat.le_refl _)
  rw [ints_take] at hv
  have esl : sla out.a 0 out.cap 1 = out.a := sla_zero ..
  refine ⟨⟨out.a, m, out.cap⟩, w5, ?_, hv, fun k hk => f5 k hk, Upd.of_below bl5⟩
  unfold ref01_Expand
  rw [h5, bnd_ok]
  dsimp only
  rw [if_pos (by omega), Int.toNat_natCast, esl, Nat.sub_zero, Nat.sub_zero]

end Go.Sh

/- DigestCodes: every Code. -/
set_option linter.unusedVariables false
namespace Go.Sh
open Go.Fw Go.Sha Go.RowKit Go.Proofs.Tryd

theorem jn_bound {L : Nat} : ∀ (xss : List (List Int)) (acc : List Int), (∀ xs ∈ xss, xs.length ≤ L) → (jn acc xss).length ≤ acc.length ∨ (jn acc xss).length ≤ 65536 + L
  | [], acc, _ => .inl (Nat.le_refl _)
  | xs :: r, acc, h => by
    unfold jn
    split
    · rename_i hc
      have := h xs (List.mem_cons_self ..)
      rcases jn_bound r (acc ++ xs) (fun x hx => h x (List.mem_cons_of_mem _ hx)) with e | e
      · rw [List.length_append] at e; right; omega
      · right; exact e
    · exact .inl (Nat.le_refl _)

abbrev kB : List Int := [107]
theorem kB_in : ∀ x ∈ kB, InK .u8 x := by
  intro x hx
  obtain rfl := List.mem_singleton.1 hx
  exact ⟨by decide, by decide⟩

theorem known512 : known 512 = true := rfl

theorem DigestCodes_ok {K : Nat} (hK : 18446744073709551616 ≤ K) (h : Int) {C S : List Int} {w : World} (T : TabsR w C S) {key : Sl} {ks : List Int} (hx : Src w key (ints .u8 ks)) (hin : ∀ x ∈ ks, InK .u8 x) (hkl : ks.length ≤ 140737488351232)
    {s : Sl} {xss : List (List Int)} {Q : Nat → Prop} (hp : PartsW w s xss Q) (hQ : ∀ k, Q k → k < w.heap.size) :
    ∃ w', law01_DigestCodes K h key s w = some ((true, ()), w') ∧ Upd none_ w w' := by
  obtain ⟨sJ, w1, j1, oJ, u1, fJ⟩ := joined_ok hK hp hQ
  have hjl : sJ.len = (jn [] xss).length := by rw [oJ.len, ints_length]
  have hkey : key.len = ks.length := by rw [hx.len, ints_length]
  have hjb : (jn [] xss).length ≤ 140737488416768 := by
    rcases jn_bound xss [] hp.lens with e | e
    · rw [List.length_nil] at e; omega
    · omega
  have ew : IntKind.i64.wrap (((sJ.len : Nat) : Int) + ((key.len : Nat) : Int)) = (((jn [] xss).length + ks.length : Nat) : Int) := by rw [hjl, hkey, w64 (by omega) (by omega)]; rfl
  unfold law01_DigestCodes
  rw [j1, bnd_ok]
  dsimp only
  rw [ew]
  by_cases hc : (jn [] xss).length + ks.length ≤ 65536
  case neg =>
    have hd : decide ((((jn [] xss).length + ks.length : Nat) : Int) > 65536) = true := by simp only [decide_eq_true_eq]; omega
    rw [hd, if_pos rfl]
    exact ⟨w1, rfl, u1⟩
  have hd : decide ((((jn [] xss).length + ks.length : Nat) : Int) > 65536) = false := by simp only [decide_eq_false_iff_not]; omega
  have hj := jn_le xss [] (by omega)
  rw [List.nil_append] at hj
  rw [hj] at oJ hjl hc
  have hxin : ∀ x ∈ xss.flatten, InK .u8 x := fun x hx => by
    obtain ⟨l, hl, hx⟩ := List.mem_flatten.1 hx
    exact hp.inn l hl x hx
  rw [hd, if_neg (by decide)]
  have hs1 := u1.size
  obtain ⟨l, w2, j2, L, u2⟩ := lent_ok hK (hp.upd0 u1) (fun k hk => by have := hQ k hk; omega)
  have hs2 := u2.size
  have hLN := L.nn
  obtain ⟨g, cap, w3, j3, og, hg, u3⟩ := Bytes_ok hK ((hx.upd0 u1).upd0 u2) hkl
  have hs3 := u3.size
  have hgl : g < w3.heap.size := og.lt (by simp [Sl.blk])
  have P3 := (L.parts hp).upd0 u3
  have T3 := ((T.upd0 u1).upd0 u2).upd0 u3
  have sk3 : Src w3 ⟨some ⟨g, 0, none⟩, ks.length, cap⟩ (ints .u8 ks) := (marked_front og).src ints_one
  obtain ⟨a, w4, j4, va, fa, u4⟩ := Code_any hK h T3.to sk3 hin (by omega) (fun q hq => by obtain rfl := Option.some.inj hq; exact hgl) P3 (fun k hk => by omega) (by omega)
  have hs4 := u4.size
  obtain ⟨w5, w6, j5, j6, s6, u6, z6⟩ := bytesC (P := prog) sliceB (by kernel_rfl) kB (by decide) (by decide) w4
  have j5 : bldS prog 25 1 #[(0, (.int .u8 107))] w4 = _ := j5
  have hs6 := u6.size
  have sk6 := (sk3.upd0 u4).upd0 u6
  obtain ⟨w7, j7, P7, u7⟩ := one_part sk6 hin hkl (fun q hq => by obtain rfl := Option.some.inj hq; show g < _; omega)
  have j7 : bldS prog 24 1 #[(0, (.slice (some ⟨g, 0, none⟩) ks.length cap))] w6 = _ := j7
  have hs7 := u7.size
  have q37 := (u4.and0 u6).and0 u7
  have ek : ([ks] : List (List Int)).flatten = ks := by simp
  obtain ⟨c, w8, j8, vc, fc, u8⟩ := Code_any hK 512 (T3.upd0 q37).to (s6.upd0 u7) kB_in (by decide) (fun q hq => by obtain rfl := Option.some.inj hq; show w4.heap.size < _; omega) P7 (fun k hk => hk) (by rw [ek]; omega)
  rw [known512, if_pos rfl] at j8
  rw [ek] at vc
  have hs8 := u8.size
  have q38 := q37.and0 u8
  obtain ⟨b, w9, j9, vb, fb, u9⟩ := Code_any hK h (T3.upd0 q38).to (sk3.upd0 q38) hin (by omega) (fun q hq => by obtain rfl := Option.some.inj hq; show g < _; omega) (P3.upd0 q38) (fun k hk => by omega) (by omega)
  have hs9 := u9.size
  have q39 := q38.and0 u9
  have hx3 := ((hx.upd0 u1).upd0 u2).upd0 u3
  obtain ⟨r, w10, j10, or10, u10, fr⟩ := refCode_ok hK h (T3.upd0 q39) (hx3.upd0 q39) hin (by omega) ((((oJ.upd0 u2).upd0 u3).upd0 q39).src ints_one) hxin (by omega)
  have hs10 := u10.size
  obtain ⟨w11, w12, j11, j12, s12, u12, z12⟩ := bytesC (P := prog) sliceB (by kernel_rfl) kB (by decide) (by decide) w10
  have j11 : bldS prog 25 1 #[(0, (.int .u8 107))] w10 = _ := j11
  have hs12 := u12.size
  have q312 := (q39.and0 u10).and0 u12
  obtain ⟨v, w13, j13, ov, u13, fv⟩ := refCode_ok hK 512 (T3.upd0 q312) s12 kB_in (by decide) (hx3.upd0 q312) hin (by omega)
  have hs13 := u13.size
  have q313 := q312.and0 u13
  have hal := codeOf_len C S h ks xss.flatten
  have hvl := codeOf_len C S 512 kB ks
  have va13 := va.upd0 (((((((u6.and0 u7).and0 u8).and0 u9).and0 u10).and0 u12).and0 u13))
  have vb13 := vb.upd0 ((u10.and0 u12).and0 u13)
  have vc13 := vc.upd0 (((u9.and0 u10).and0 u12).and0 u13)
  have or13 := or10.upd0 (u12.and0 u13)
  obtain ⟨w14, k14, u14⟩ := SameBytes_ok hK va13.rd or13.rd (by omega)
  obtain ⟨w15, k15, u15⟩ := SameBytes_ok hK (vb13.upd0 u14).rd (or13.upd0 u14).rd (by omega)
  have q315 := (q313.and0 u14).and0 u15
  obtain ⟨w16, k16, u16⟩ := whole_ok hK ((((hp.upd0 u1).upd0 u2).upd0 u3).upd0 q315) ((L.upd0 u3).upd0 q315)
  have q316 := q315.and0 u16
  obtain ⟨w17, k17, u17⟩ := WholeBytes_ok hK (og.upd0 q316) (hx3.upd0 q316).rds hkl
  rw [decide_eq_true rfl] at k14 k15 k17
  have hs14 := u14.size
  have hs15 := u15.size
  have hs16 := u16.size
  have hs17 := u17.size
  have hs1' : ∀ want : Int, want = (if known h = true then 0 else 10) → law01_DigestCodes_s1 K key s l ⟨some ⟨g, 0, none⟩, ks.length, cap⟩ a (if known h = true then 0 else 10) 0 b (if known h = true then 0 else 10) r want w13 = some ((false, ()), w17) := by
    intro want hw
    unfold law01_DigestCodes_s1 law01_num
    rw [hw, Option.bind_some]
    dsimp only
    rw [bne_self_eq_false, if_neg (by decide), Option.bind_some, bne_self_eq_false, if_neg (by decide), Option.bind_some, if_neg (by decide), k14, bnd_ok]
    dsimp only
    rw [if_neg (by decide), k15, bnd_ok]
    dsimp only
    rw [if_neg (by decide), k16, bnd_ok]
    dsimp only
    rw [if_neg (by decide), k17, bnd_ok]
    rfl
  have q1317 := ((u14.and0 u15).and0 u16).and0 u17
  obtain ⟨w18, k18, u18⟩ := SpoilBytes_ok hK (va13.upd0 q1317) (by omega)
  have hab : ∀ k, a.blk = some k → w3.heap.size ≤ k ∧ k < w4.heap.size := fun k hk => ⟨fa k hk, va.lt hk⟩
  have vb18 := (vb13.upd0 q1317).upd u18 fun k hk e => by have := hab k e; have := fb k hk; omega
  have vc18 := (vc13.upd0 q1317).upd u18 fun k hk e => by have := hab k e; have := fc k hk; omega
  have or18 := (or13.upd0 q1317).upd u18 fun k hk e => by have := hab k e; have := fr k hk; omega
  have ov18 := (ov.upd0 q1317).upd u18 fun k hk e => by have := hab k e; have := fv k hk; omega
  obtain ⟨w19, k19, u19⟩ := SameBytes_ok hK vb18.rd or18.rd (by omega)
  obtain ⟨w20, k20, u20⟩ := SameBytes_ok hK (vc18.upd0 u19).rd (ov18.upd0 u19).rd (by omega)
  rw [decide_eq_true rfl] at k19 k20
  have q17 : Upd none_ w w17 := (((u1.and0 u2).and0 u3).and0 q313).and0 q1317
  refine ⟨w20, ?_, ((q17.trans' u18 fun k hk e => by have := hab k e; omega).and0 u19).and0 u20⟩
  rw [j2, bnd_ok, j3, bnd_ok]
  try dsimp only
  rw [j4, bnd_ok, j5, bnd_ok]
  try dsimp only
  rw [j6, bnd_ok]
  dsimp only [asS]
  rw [Option.bind_some]
  try dsimp only
  rw [j7, bnd_ok, j8, bnd_ok, j9, bnd_ok, j10, bnd_ok, j11, bnd_ok]
  try dsimp only
  rw [j12, bnd_ok]
  dsimp only [asS]
  rw [Option.bind_some, j13, bnd_ok, refSize_ok, Option.bind_some]
  try dsimp only
  have hs0 : law01_DigestCodes_s0 K 0 (sizeOfH h == 0) w13 = some (((if known h = true then 0 else 10), ()), w13) := by
    unfold law01_DigestCodes_s0
    rw [size_zero]
    cases known h <;> rfl
  rw [hs0, bnd_ok]
  try dsimp only
  rw [hs1' _ rfl, bnd_ok]
  try dsimp only
  rw [if_neg (by decide), k18, bnd_ok, k19, bnd_ok]
  try dsimp only
  rw [if_pos rfl, k20, bnd_ok]

end Go.Sh

/- DigestExpands: every Extract and Expand. -/
set_option linter.unusedVariables false
namespace Go.Sh
open Go.Fw Go.Sha Go.RowKit Go.Proofs.Tryd Go.Deep Go.ChangeShapes Go.WideShapes

theorem expOf_len (C S : List Int) (h : Int) (prk info : List Int) (n : Int) : (expOf C S h prk info n).length ≤ 16320 := by
  unfold expOf
  split
  · rename_i he
    obtain ⟨hk, _, _, m, rfl, _, hm⟩ := expErr_zero he
    obtain ⟨_, _, h64⟩ := szH_ok hk
    rw [List.length_take, Int.toNat_natCast]
    have : 255 * szH h ≤ 255 * 64 := Nat.mul_le_mul_left _ h64
    omega
  · exact Nat.zero_le _

theorem expands_ok {K : Nat} (hK : 18446744073709551616 ≤ K) (h : Int) {C S ks info : List Int} {w : World} (T : TabsR w C S) {key z i3 : Sl} (hkey : PartOk w (key, ks)) (hz : PartOk w (z, info)) (hi : Src w i3 (ints .u8 info)) (n : Int) :
    ∃ w', law01_expands K h key z i3 n w = some ((true, ()), w') ∧ Upd none_ w w' := by
  have hkl : key.len = ks.length := by rw [hkey.1.len, ints_length]
  have hil : i3.len = info.length := by rw [hi.len, ints_length]
  have hzl : z.len = info.length := by rw [hz.1.len, ints_length]
  obtain ⟨a, w1, j1, va, fa, u1⟩ := Expand_any hK h T.to hkey hz n
  have hs1 := u1.size
  have up : ∀ {w' : World} {p : Sl × List Int}, PartOk w p → Upd none_ w w' → PartOk w' p := fun hp u => ⟨hp.1.upd0 u, hp.2.1, hp.2.2.1, fun q hq => by have := hp.2.2.2 q hq; have := u.size; omega⟩
  obtain ⟨b, w2, j2, vb, fb, u2⟩ := Expand_any hK h (T.upd0 u1).to (up hkey u1) (up hz u1) n
  have hs2 := u2.size
  have q2 := u1.and0 u2
  have hr : ∃ r w3, law01_expands_s0 K h key i3 n ⟨none, 0, 0⟩ (expErr h ks.length info.length n == 0) w2 = some ((r, ()), w3) ∧ Vw 5 w3 r (ints .u8 (expOf C S h ks info n)) ∧ Fresh w2.heap.size r ∧ Upd none_ w2 w3 := by
    by_cases he : expErr h ks.length info.length n = 0
    · obtain ⟨r, w3, h3, v3, f3, u3⟩ := refExpand_ok hK h (T.upd0 q2) (hkey.1.upd0 q2) hkey.2.1 (hi.upd0 q2) hz.2.1 he
      refine ⟨r, w3, ?_, v3, f3, u3⟩
      unfold law01_expands_s0
      rw [he, if_pos (by decide), h3, bnd_ok]
    · refine ⟨⟨none, 0, 0⟩, w2, ?_, ?_, (fun k hk => by cases hk), Upd.refl _ _⟩
      · unfold law01_expands_s0
        rw [if_neg (by simpa using he)]
      · unfold expOf
        rw [if_neg he]; exact Vw.nil 5 w2
  obtain ⟨r, w3, j3, vr, fr, u3⟩ := hr
  have hs3 := u3.size
  have hl := expOf_len C S h ks info n
  obtain ⟨w4, k4, u4⟩ := SameBytes_ok hK (va.upd0 (u2.and0 u3)).rd vr.rd (by omega)
  obtain ⟨w5, k5, u5⟩ := SameBytes_ok hK ((vb.upd0 u3).upd0 u4).rd (vr.upd0 u4).rd (by omega)
  rw [decide_eq_true rfl] at k4 k5
  have hs4 := u4.size
  have hs5 := u5.size
  have hs1' : law01_expands_s1 K a (expErr h ks.length info.length n) b (expErr h ks.length info.length n) (expErr h ks.length info.length n) r w3 = some ((false, ()), w5) := by
    unfold law01_expands_s1 law01_num
    rw [Option.bind_some]
    dsimp only
    rw [bne_self_eq_false, if_neg (by decide), Option.bind_some, bne_self_eq_false, if_neg (by decide), k4, bnd_ok]
    dsimp only
    rw [if_neg (by decide), k5, bnd_ok]
    rfl
  obtain ⟨w6, k6, u6⟩ := SpoilBytes_ok hK (va.upd0 (((u2.and0 u3).and0 u4).and0 u5)) (by omega)
  have hab : ∀ k, a.blk = some k → w.heap.size ≤ k ∧ k < w1.heap.size := fun k hk => ⟨fa k hk, va.lt hk⟩
  have vb6 := (vb.upd0 ((u3.and0 u4).and0 u5)).upd u6 fun k hk e => by have := hab k e; have := fb k hk; omega
  have vr6 := (vr.upd0 (u4.and0 u5)).upd u6 fun k hk e => by have := hab k e; have := fr k hk; omega
  obtain ⟨w7, k7, u7⟩ := SameBytes_ok hK vb6.rd vr6.rd (by omega)
  rw [decide_eq_true rfl] at k7
  refine ⟨w7, ?_, ((((q2.and0 u3).and0 u4).and0 u5).trans' u6 fun k hk e => by have := hab k e; omega).and0 u7⟩
  unfold law01_expands
  rw [j1, bnd_ok, j2, bnd_ok, hkl, hil, refExpandError_ok, Option.bind_some]
  dsimp only
  rw [j3, bnd_ok]
  dsimp only
  rw [hs1', bnd_ok]
  dsimp only
  rw [if_neg (by decide), k6, bnd_ok, k7, bnd_ok]

/-- what a Derive holds -/
def deriveC (hash : Int) (pass salt info : Sl) (turns n : Int) : Array Value := #[.int .i64 hash, slV pass, slV salt, slV info, .int .i64 turns, .int .i64 n]

theorem size_pos (h : Int) : decide (sizeOfH h > 0) = known h := by
  unfold sizeOfH
  cases hk : known h with
  | false => rw [if_neg (by decide)]; rfl
  | true =>
    rw [if_pos rfl]
    rcases known_cases hk with e | e | e | e <;> subst e <;> rfl

theorem DigestExpands_ok {K : Nat} (hK : 18446744073709551616 ≤ K) {C S : List Int} {w : World} (T : TabsR w C S) {h turns n : Int} {pass salt info : Sl} {ps ss is : List Int} (hp : BytesIn w pass ps) (hs : BytesIn w salt ss) (hi : BytesIn w info is) :
    ∃ w', law01_DigestExpands K (deriveC h pass salt info turns n) w = some ((true, ()), w') ∧ Upd none_ w w' := by
  obtain ⟨w1, n1, b1, u1, z1⟩ := newB_ok (deriveC h pass salt info turns n) 42 w
  have l0 : ldI .i64 ⟨w.heap.size, 0, none⟩ w1 = some h := b1.ldI rfl
  have l2 : ldS ⟨w.heap.size, 2, none⟩ w1 = some salt := b1.ldS rfl
  have l1 : ldS ⟨w.heap.size, 1, none⟩ w1 = some pass := b1.ldS rfl
  have l3 : ldS ⟨w.heap.size, 3, none⟩ w1 = some info := b1.ldS rfl
  have l5 : ldI .i64 ⟨w.heap.size, 5, none⟩ w1 = some n := b1.ldI rfl
  have hs1 := u1.size
  have hpl : pass.len = ps.length := by rw [hp.src.len, ints_length]
  have hsl : salt.len = ss.length := by rw [hs.src.len, ints_length]
  have hil : info.len = is.length := by rw [hi.src.len, ints_length]
  have hp3 := hp.len
  have hs3 := hs.len
  have hi3 := hi.len
  unfold law01_DigestExpands
  rw [n1, bnd_ok]
  simp only [add_lit, Nat.zero_add]
  rw [l0, Option.bind_some, l2, Option.bind_some, l1, Option.bind_some, l3, Option.bind_some, l5, Option.bind_some]
  have ew : IntKind.i64.wrap (((salt.len : Nat) : Int) + ((pass.len : Nat) : Int)) = ((ss.length + ps.length : Nat) : Int) := by rw [hpl, hsl, w64 (by omega) (by omega)]; rfl
  unfold law01_DigestExpands_s0
  rw [ew]
  by_cases hc : ss.length + ps.length ≤ 65536
  case neg =>
    have hd : decide (((ss.length + ps.length : Nat) : Int) > 65536) = true := by simp only [decide_eq_true_eq]; omega
    rw [hd, if_pos rfl, bnd_ok]
    exact ⟨w1, rfl, u1⟩
  have hd : decide (((ss.length + ps.length : Nat) : Int) > 65536) = false := by simp only [decide_eq_false_iff_not]; omega
  rw [hd, if_neg (by decide), bnd_ok]
  dsimp only
  by_cases hc2 : is.length ≤ 1024
  case neg =>
    have hd : decide (((info.len : Nat) : Int) > 1024) = true := by rw [hil]; simp only [decide_eq_true_eq]; omega
    rw [hd, if_pos rfl]
    exact ⟨w1, rfl, u1⟩
  have hd : decide (((info.len : Nat) : Int) > 1024) = false := by rw [hil]; simp only [decide_eq_false_iff_not]; omega
  rw [hd, if_neg (by decide)]
  have T1 := T.upd0 u1
  have sx1 := hs.src.upd0 u1
  have px1 := hp.src.upd0 u1
  have ix1 := hi.src.upd0 u1
  obtain ⟨gx, cx, w2, j2, ox, hgx, u2⟩ := Bytes_ok hK sx1 hs3
  have hs2 := u2.size
  obtain ⟨gy, cy, w3, j3, oy, hgy, u3⟩ := Bytes_ok hK (px1.upd0 u2) hp3
  have hs3' := u3.size
  obtain ⟨gz, cz, w4, j4, oz, hgz, u4⟩ := Bytes_ok hK ((ix1.upd0 u2).upd0 u3) hi3
  have hs4 := u4.size
  have hgx2 : gx < w2.heap.size := ox.lt (by simp [Sl.blk])
  have hgy2 : gy < w3.heap.size := oy.lt (by simp [Sl.blk])
  have hgz2 : gz < w4.heap.size := oz.lt (by simp [Sl.blk])
  have ox4 := ox.upd0 (u3.and0 u4)
  have oy4 := oy.upd0 u4
  have px : PartOk w4 (⟨some ⟨gx, 0, none⟩, ss.length, cx⟩, ss) := ⟨(marked_front ox4).src ints_one, hs.inn, hs3, fun q hq => by obtain rfl := Option.some.inj hq; show gx < _; omega⟩
  have py : PartOk w4 (⟨some ⟨gy, 0, none⟩, ps.length, cy⟩, ps) := ⟨(marked_front oy4).src ints_one, hp.inn, hp3, fun q hq => by obtain rfl := Option.some.inj hq; show gy < _; omega⟩
  have pz : PartOk w4 (⟨some ⟨gz, 0, none⟩, is.length, cz⟩, is) := ⟨(marked_front oz).src ints_one, hi.inn, hi3, fun q hq => by obtain rfl := Option.some.inj hq; show gz < _; omega⟩
  have up : ∀ {w w' : World} {p : Sl × List Int}, PartOk w p → Upd none_ w w' → PartOk w' p := fun hp u => ⟨hp.1.upd0 u, hp.2.1, hp.2.2.1, fun q hq => by have := hp.2.2.2 q hq; have := u.size; omega⟩
  have T4 := ((T1.upd0 u2).upd0 u3).upd0 u4
  obtain ⟨w5, j5, P5, u5⟩ := one_part py.1 hp.inn hp3 py.2.2.2
  have hs5 := u5.size
  have ek : ([ps] : List (List Int)).flatten = ps := by simp
  obtain ⟨e, w6, j6, ve, fe, u6⟩ := Code_any hK h (T4.upd0 u5).to (up px u5).1 hs.inn (show ss.length ≤ 33554432 by omega) (up px u5).2.2.2 P5 (fun k hk => hk) (by rw [ek]; omega)
  rw [ek] at ve
  have hs6 := u6.size
  have q46 := u5.and0 u6
  have q14 := (u2.and0 u3).and0 u4
  obtain ⟨k, w7, j7, ok, u7, fk⟩ := refCode_ok hK h (T4.upd0 q46) ((sx1.upd0 q14).upd0 q46) hs.inn (by omega) ((px1.upd0 q14).upd0 q46) hp.inn (by omega)
  have hs7 := u7.size
  have hcl := codeOf_len C S h ss ps
  obtain ⟨w8, k8, u8⟩ := SameBytes_ok hK (ve.upd0 u7).rd ok.rd (by show (codeOf C S h ss ps).length < _; omega)
  rw [decide_eq_true rfl] at k8
  have q48 := (q46.and0 u7).and0 u8
  have hs1' : law01_DigestExpands_s1 K h e (if known h = true then 0 else 10) k w7 = some ((false, ()), w8) := by
    unfold law01_DigestExpands_s1 law01_num
    rw [Option.bind_some, refSize_ok, Option.bind_some]
    dsimp only
    rw [size_pos]
    cases hk : known h with
    | true =>
      rw [if_pos rfl, if_neg (by decide), Option.bind_some]
      dsimp only
      rw [if_neg (by decide), k8, bnd_ok]
      rfl
    | false =>
      rw [if_neg (by decide), if_neg (by decide), Option.bind_some]
      dsimp only
      rw [if_pos (by decide), Option.bind_some]
      dsimp only
      rw [if_neg (by decide), k8, bnd_ok]
      rfl
  have pk : PartOk w8 (k, codeOf C S h ss ps) := ⟨(ok.upd0 u8).src ints_one, codeOf_in C S h ss ps, by show (codeOf C S h ss ps).length ≤ _; omega, lt_of_blk fun q hq => by have := ok.lt hq; have := u8.size; omega⟩
  obtain ⟨w9, j9, u9⟩ := expands_ok hK h (T4.upd0 q48) pk (up pz q48) ((ix1.upd0 q14).upd0 q48) n
  have q49 := q48.and0 u9
  obtain ⟨w10, j10, u10⟩ := expands_ok hK h (T4.upd0 q49) (up py q49) (up pz q49) ((ix1.upd0 q14).upd0 q49) n
  have q410 := q49.and0 u10
  obtain ⟨w11, j11, u11⟩ := WholeBytes_ok hK (ox4.upd0 q410) ((sx1.upd0 q14).upd0 q410).rds hs3
  have q411 := q410.and0 u11
  obtain ⟨w12, j12, u12⟩ := WholeBytes_ok hK (oy4.upd0 q411) ((px1.upd0 q14).upd0 q411).rds hp3
  have q412 := q411.and0 u12
  obtain ⟨w13, j13, u13⟩ := WholeBytes_ok hK (oz.upd0 q412) ((ix1.upd0 q14).upd0 q412).rds hi3
  rw [decide_eq_true rfl] at j11 j12 j13
  refine ⟨w13, ?_, (u1.and0 q14).and0 (q412.and0 u13)⟩
  rw [j2, bnd_ok, j3, bnd_ok, j4, bnd_ok]
  dsimp only
  unfold digest_Extract ref01_Extract
  rw [j5, bnd_ok, j6, bnd_ok, bnd_ok, j7, bnd_ok, bnd_ok]
  dsimp only
  rw [hs1', bnd_ok]
  dsimp only
  rw [if_neg (by decide), j9, bnd_ok]
  dsimp only
  rw [if_pos rfl, j10, bnd_ok]
  dsimp only
  rw [if_pos rfl, j11, bnd_ok]
  dsimp only
  rw [if_pos rfl, j12, bnd_ok]
  dsimp only
  rw [if_pos rfl, j13, bnd_ok]

theorem cells_of_TB : prog.cellsOf 25 = 1 := by kernel_rfl

set_option maxRecDepth 100000 in
/-- a Derive that came in -/
theorem open_derive {H : Type} {enc : TypeId × Value → H} {W : World} {d : DataW H} {p : List MemPlace} {v : Value} {base : Nat} (hv : Value.okWide prog W .any base 42 v) (h : DataW.Trod enc prog W 0 (fun _ => true) true 42 v d p) (hw : ∀ n ∈ d.weights prog 42, n ≤ reachBytes) :
    ∃ hash pass salt info turns n ps ss is, v = .agg (deriveC hash pass salt info turns n) ∧ BytesIn W pass ps ∧ BytesIn W salt ss ∧ BytesIn W info is ∧ (Lit.int .i64 hash).wf = true ∧ (Lit.int .i64 turns).wf = true ∧ (Lit.int .i64 n).wf = true := by
  have hu := underlying42
  have hs0 := okWide_struct (P := prog) (t := 42) hu hv
  obtain ⟨cs, hcv, hcs⟩ := hs0
  subst hcv
  obtain ⟨fuel, hf⟩ := h
  obtain ⟨xs, m, _, hx, hcl, hxl, hfs⟩ := DataW.trod_struct hu hf
  have hsz : prog.cellsOf 42 = 6 := by kernel_rfl
  rw [hsz] at hcs
  have c3 : prog.cellsOf 3 = 1 := by kernel_rfl
  have u3 : prog.underlying 3 = some (.int .i64) := by kernel_rfl
  have hcc : (Value.agg cs).cells.toList = cs.toList := rfl
  simp only [hcc] at hfs
  have hl6 : cs.toList.length = 6 := by simpa using hcs
  obtain ⟨c0, c1, c2, c3', c4, c5, hc⟩ : ∃ a b c d e f, cs.toList = [a, b, c, d, e, f] := by
    match hm : cs.toList, hl6 with
    | [a, b, c, d, e, f], _ => exact ⟨a, b, c, d, e, f, rfl⟩
  have hx6 : xs.length = 6 := hxl
  obtain ⟨y0, y1, y2, y3, y4, y5, hy⟩ : ∃ a b c d e f, xs = [a, b, c, d, e, f] := by
    match hm : xs, hx6 with
    | [a, b, c, d, e, f], _ => exact ⟨a, b, c, d, e, f, rfl⟩
  subst hy
  rw [hc] at hfs
  have f0 := hfs 0 _ rfl
  have f1 := hfs 1 _ rfl
  have f2 := hfs 2 _ rfl
  have f3 := hfs 3 _ rfl
  have f4 := hfs 4 _ rfl
  have f5 := hfs 5 _ rfl
  simp only [c3, cells_of_TB, List.drop_zero, List.drop_succ_cons, List.take_succ_cons, List.take_zero, List.getElem?_cons_zero, List.getElem?_cons_succ] at f0 f1 f2 f3 f4 f5
  have hd : d = .agg [y0.1, y1.1, y2.1, y3.1, y4.1, y5.1] := (Prod.mk.inj hx).1
  have hwt : ∀ n ∈ y0.1.weights prog 3 ++ (y1.1.weights prog 25 ++ (y2.1.weights prog 25 ++ (y3.1.weights prog 25 ++ (y4.1.weights prog 3 ++ (y5.1.weights prog 3 ++ []))))), n ≤ reachBytes := by
    intro n hn
    refine hw n ?_
    rw [hd]
    simp only [DataW.weights, hu, List.map_cons, List.map_nil, DataW.weightsEach]
    exact hn
  obtain ⟨n0, e0, _, w0⟩ := DataW.trod_int u3 f0
  obtain ⟨n4, e4, _, w4⟩ := DataW.trod_int u3 f4
  obtain ⟨n5, e5, _, w5⟩ := DataW.trod_int u3 f5
  obtain ⟨s1, p1, e1, g1⟩ := open_bytes_t f1 (fun n hn => hwt n (by simp [hn]))
  obtain ⟨s2, p2, e2, g2⟩ := open_bytes_t f2 (fun n hn => hwt n (by simp [hn]))
  obtain ⟨s3, p3, e3, g3⟩ := open_bytes_t f3 (fun n hn => hwt n (by simp [hn]))
  refine ⟨n0, s1, s2, s3, n4, n5, p1, p2, p3, ?_, g1, g2, g3, w0, w4, w5⟩
  congr 1
  apply Array.ext'
  rw [hc, (List.cons.inj e0).1, (List.cons.inj e1).1, (List.cons.inj e2).1, (List.cons.inj e3).1, (List.cons.inj e4).1, (List.cons.inj e5).1]
  rfl

end Go.Sh

/- What a reading of a Derive or a Feeding gives, its slices' blocks too. -/
set_option linter.unusedVariables false
namespace Go.Sh
open Go.Fw Go.Sha Go.RowKit Go.Proofs.Tryd Go.Deep Go.ChangeShapes Go.WideShapes

theorem shape_lt {W : World} {g : Nat} {x : TypeId × Nat} (h : W.shape? g = some x) : g < W.heap.size := by
  unfold World.shape? at h
  cases hh : W.heap[g]? with
  | none => rw [hh] at h; cases h
  | some o => exact (Array.getElem?_eq_some_iff.1 hh).1

set_option maxRecDepth 100000 in
theorem cell_lt {W : World} {base : Nat} {s : Sl} (h : Cell.okWide prog W .any base 25 (slV s)) : ∀ q, s.a = some q → q.block < W.heap.size := by
  intro q hq
  have h : Cell.ok prog W .any base 25 (slV s) := by
    unfold Cell.okWide at h
    rw [sliceB.ht] at h
    exact h
  unfold Cell.ok slV at h
  rw [sliceB.ht, hq] at h
  obtain ⟨_, _, _, _, row, cells, hs, _⟩ := h
  exact shape_lt hs

theorem BytesIn.part {W : World} {s : Sl} {xs : List Int} (h : BytesIn W s xs) (hb : ∀ q, s.a = some q → q.block < W.heap.size) : PartOk W (s, xs) := ⟨h.src, h.inn, h.len, hb⟩
theorem PartOk.up {w w' : World} {p : Sl × List Int} (hp : PartOk w p) (u : Upd none_ w w') : PartOk w' p := ⟨hp.1.upd0 u, hp.2.1, hp.2.2.1, fun q hq => by have := hp.2.2.2 q hq; have := u.size; omega⟩
theorem PartOk.upd {w w' : World} {p : Sl × List Int} {X : Nat → Prop} (hp : PartOk w p) (u : Upd X w w') (hn : ∀ q, p.1.a = some q → ¬ X q.block) : PartOk w' p := ⟨hp.1.upd u hn, hp.2.1, hp.2.2.1, fun q hq => by have := hp.2.2.2 q hq; have := u.size; omega⟩

set_option maxRecDepth 100000 in
theorem derive_blocks {W : World} {base : Nat} {hash turns n : Int} {pass salt info : Sl} (hv : Value.okWide prog W .any base 42 (.agg (deriveC hash pass salt info turns n))) :
    (∀ q, pass.a = some q → q.block < W.heap.size) ∧ (∀ q, salt.a = some q → q.block < W.heap.size) ∧ ∀ q, info.a = some q → q.block < W.heap.size := by
  have hv2 : ∃ cs, Value.agg (deriveC hash pass salt info turns n) = .agg cs ∧ cs.size = prog.cellsOf 42 ∧ Row.okWide prog W .any base 42 cs := by
    simpa only [Value.okWide, underlying42] using hv
  obtain ⟨cs, he, _, ts, hts, _, hall⟩ := hv2
  obtain rfl := Value.agg.inj he
  have ht : ts = [3, 25, 25, 25, 3, 3] := Option.some.inj (hts.symm.trans (by kernel_rfl))
  subst ht
  refine ⟨?_, ?_, ?_⟩
  · obtain ⟨u, hu, hc⟩ := hall 1 (slV pass) rfl
    obtain rfl := Option.some.inj hu
    exact cell_lt hc
  · obtain ⟨u, hu, hc⟩ := hall 2 (slV salt) rfl
    obtain rfl := Option.some.inj hu
    exact cell_lt hc
  · obtain ⟨u, hu, hc⟩ := hall 3 (slV info) rfl
    obtain rfl := Option.some.inj hu
    exact cell_lt hc

/-- what a Feeding holds -/
def feedC (hash : Int) (key bytes cuts : Sl) (zeros : Int) : Array Value := #[.int .i64 hash, slV key, slV bytes, slV cuts, .int .i64 zeros]

theorem int_cells : prog.cellsOf 3 = 1 := by kernel_rfl

theorem open_i64s_t {H : Type} {enc : TypeId × Value → H} {W : World} {x : DataW H × List MemPlace} {fuel : Nat} {cs : List Value} (hf : DataW.trod enc prog W 0 (fun _ => true) true fuel 62 cs = some x) :
    ∃ s xs, cs = [slV s] ∧ RdS .i64 W s xs ∧ (∀ z ∈ xs, -9223372036854775808 ≤ z ∧ z < 9223372036854775808) ∧ xs.length ≤ 9223372036854775807 := by
  rcases open_ints (k := .i64) underlying62 underlying3 int_cells hf with ⟨hcs, hy⟩ | ⟨a', len', cap', zs, hcs, hb', hl', hm', hz, hy, hcell, hwz⟩
  · exact ⟨nilS, [], hcs, ⟨rfl, Nat.le_refl _, .inl rfl⟩, by simp, by simp⟩
  · have hz : zs.length = cap' := by simpa using hz
    refine ⟨⟨some a', len', cap'⟩, zs.take len', hcs, ⟨by simp; omega, hl', .inr ⟨a', rfl, fun j v hv => ?_⟩⟩, fun z hz => ?_, by simp only [maxLen] at hm'; simp; omega⟩
    · have hj : j < len' ∧ j < zs.length := by
        have := (List.getElem?_eq_some_iff.1 hv).1
        simp at this; omega
      rw [hcell j hj.2]
      simp only [ints, List.getElem?_map, List.getElem?_take, if_pos hj.1] at hv
      rw [List.getElem?_eq_getElem hj.2] at hv
      rw [List.getD_eq_getElem?_getD, List.getElem?_eq_getElem hj.2]
      exact hv
    · have := hwz z (List.mem_of_mem_take hz)
      have h2 : -9223372036854775808 ≤ z ∧ z ≤ 9223372036854775807 := by simpa [Lit.wf, IntKind.bits, IntKind.min, IntKind.max, IntKind.signed] using this
      omega

set_option maxRecDepth 100000 in
/-- a Feeding that came in -/
theorem open_feed {H : Type} {enc : TypeId × Value → H} {W : World} {d : DataW H} {p : List MemPlace} {v : Value} {base : Nat} (hv : Value.okWide prog W .any base 64 v) (h : DataW.Trod enc prog W 0 (fun _ => true) true 64 v d p) (hw : ∀ n ∈ d.weights prog 64, n ≤ reachBytes) :
    ∃ hash key bytes cuts zeros ks bs cz, v = .agg (feedC hash key bytes cuts zeros) ∧ BytesIn W key ks ∧ BytesIn W bytes bs ∧ RdS .i64 W cuts cz ∧ (∀ z ∈ cz, -9223372036854775808 ≤ z ∧ z < 9223372036854775808) ∧ cz.length ≤ 9223372036854775807 ∧
      (∀ q, key.a = some q → q.block < W.heap.size) ∧ ∀ q, bytes.a = some q → q.block < W.heap.size := by
  have hu := underlying64
  have hs0 := okWide_struct (P := prog) (t := 64) hu hv
  obtain ⟨cs, hcv, hcs⟩ := hs0
  subst hcv
  obtain ⟨fuel, hf⟩ := h
  obtain ⟨xs, m, _, hx, hcl, hxl, hfs⟩ := DataW.trod_struct hu hf
  have hsz : prog.cellsOf 64 = 5 := by kernel_rfl
  rw [hsz] at hcs
  have c62 : prog.cellsOf 62 = 1 := by kernel_rfl
  have hcc : (Value.agg cs).cells.toList = cs.toList := rfl
  simp only [hcc] at hfs
  have hl5 : cs.toList.length = 5 := by simpa using hcs
  obtain ⟨c0, c1, c2, c3, c4, hc⟩ : ∃ a b c d e, cs.toList = [a, b, c, d, e] := by
    match hm : cs.toList, hl5 with
    | [a, b, c, d, e], _ => exact ⟨a, b, c, d, e, rfl⟩
  have hx5 : xs.length = 5 := hxl
  obtain ⟨y0, y1, y2, y3, y4, hy⟩ : ∃ a b c d e, xs = [a, b, c, d, e] := by
    match hm : xs, hx5 with
    | [a, b, c, d, e], _ => exact ⟨a, b, c, d, e, rfl⟩
  subst hy
  rw [hc] at hfs
  have f0 := hfs 0 _ rfl
  have f1 := hfs 1 _ rfl
  have f2 := hfs 2 _ rfl
  have f3 := hfs 3 _ rfl
  have f4 := hfs 4 _ rfl
  simp only [int_cells, c62, cells_of_TB, List.drop_zero, List.drop_succ_cons, List.take_succ_cons, List.take_zero, List.getElem?_cons_zero, List.getElem?_cons_succ] at f0 f1 f2 f3 f4
  have hd : d = .agg [y0.1, y1.1, y2.1, y3.1, y4.1] := (Prod.mk.inj hx).1
  have hwt : ∀ n ∈ y0.1.weights prog 3 ++ (y1.1.weights prog 25 ++ (y2.1.weights prog 25 ++ (y3.1.weights prog 62 ++ (y4.1.weights prog 3 ++ [])))), n ≤ reachBytes := by
    intro n hn
    refine hw n ?_
    rw [hd]
    simp only [DataW.weights, hu, List.map_cons, List.map_nil, DataW.weightsEach]
    exact hn
  obtain ⟨n0, e0, _, w0⟩ := DataW.trod_int underlying3 f0
  obtain ⟨n4, e4, _, w4⟩ := DataW.trod_int underlying3 f4
  obtain ⟨s1, p1, e1, g1⟩ := open_bytes_t f1 (fun n hn => hwt n (by simp [hn]))
  obtain ⟨s2, p2, e2, g2⟩ := open_bytes_t f2 (fun n hn => hwt n (by simp [hn]))
  obtain ⟨s3, p3, e3, g3, g4, g5⟩ := open_i64s_t f3
  have hcs2 : cs = feedC n0 s1 s2 s3 n4 := by
    apply Array.ext'
    rw [hc, (List.cons.inj e0).1, (List.cons.inj e1).1, (List.cons.inj e2).1, (List.cons.inj e3).1, (List.cons.inj e4).1]
    rfl
  subst hcs2
  have hv2 : ∃ cs, Value.agg (feedC n0 s1 s2 s3 n4) = .agg cs ∧ cs.size = prog.cellsOf 64 ∧ Row.okWide prog W .any base 64 cs := by
    simpa only [Value.okWide, underlying64] using hv
  obtain ⟨cs, he, _, ts, hts, _, hall⟩ := hv2
  obtain rfl := Value.agg.inj he
  have ht : ts = [3, 25, 25, 62, 3] := Option.some.inj (hts.symm.trans (by kernel_rfl))
  subst ht
  refine ⟨n0, s1, s2, s3, n4, p1, p2, p3, rfl, g1, g2, g3, g4, g5, ?_, ?_⟩
  · obtain ⟨u, hu, hc⟩ := hall 1 (slV s1) rfl
    obtain rfl := Option.some.inj hu
    exact cell_lt hc
  · obtain ⟨u, hu, hc⟩ := hall 2 (slV s2) rfl
    obtain rfl := Option.some.inj hu
    exact cell_lt hc

end Go.Sh

/- Streams and Macs as objects: written, told, counted, copied, begun anew. -/
set_option linter.unusedVariables false
namespace Go.Sh
open Go.Fw Go.Sha Go.RowKit Go.Proofs.Tryd

/-- A stream in a block: what it was fed. -/
structure StrmAt (w : World) (g : Nat) (C S : List Int) (h : Int) (xs : List Int) : Prop where
  ex : ∃ cs, Bk 99 w g cs ∧ StC C S h xs cs

theorem StrmAt.upd {w w' : World} {g : Nat} {C S : List Int} {h : Int} {xs : List Int} {X : Nat → Prop} (m : StrmAt w g C S h xs) (u : Upd X w w') (hn : ¬ X g) : StrmAt w' g C S h xs := by
  obtain ⟨cs, h1, h2⟩ := m.ex
  exact ⟨cs, h1.upd u hn, h2⟩
theorem StrmAt.upd0 {w w' : World} {g : Nat} {C S : List Int} {h : Int} {xs : List Int} (m : StrmAt w g C S h xs) (u : Upd none_ w w') : StrmAt w' g C S h xs := m.upd u id
theorem StrmAt.lt {w : World} {g : Nat} {C S : List Int} {h : Int} {xs : List Int} (m : StrmAt w g C S h xs) : g < w.heap.size := by
  obtain ⟨cs, h1, _⟩ := m.ex
  exact h1.lt

theorem StrmAt.st {w : World} {g : Nat} {C S : List Int} {h : Int} {xs : List Int} (m : StrmAt w g C S h xs) : ∃ H half, StAt w 99 g 0 (stCells h xs.length H half) h xs.length H half ∧ Fed h C (firstH S h) xs H half := by
  obtain ⟨cs, h1, h2⟩ := m.ex
  obtain ⟨H, half, rfl, f, hi⟩ := h2.ex
  have := st_mk (pre := []) (post := []) (o := 0) f.H8 f.len hi rfl (by rw [List.nil_append, List.append_nil]; exact h1)
  rw [List.nil_append, List.append_nil] at this
  exact ⟨H, half, this, f⟩
theorem StrmAt.mk' {w : World} {g : Nat} {C S : List Int} {h : Int} {xs H half cs0 : List Int} {c0 : List Value} (st : StAt w 99 g 0 c0 h xs.length H half) (f : Fed h C (firstH S h) xs H half) (hl : c0.length = 142) : StrmAt w g C S h xs := by
  have hsl := stCells_len h xs.length st.words st.len
  have e : seg c0 0 (stCells h xs.length H half) = stCells h xs.length H half := seg_all (by omega)
  have hb := st.bk
  rw [e] at hb
  exact ⟨_, hb, H, half, rfl, f, st.inn⟩

theorem New_strm {K : Nat} (hK : 18446744073709551616 ≤ K) {h : Int} (hk : known h = true) {C S : List Int} {w : World} (T : Tabs w C S) :
    ∃ w' g, digest_New K h w = some ((some ⟨g, 0, none⟩, 0, ()), w') ∧ StrmAt w' g C S h [] ∧ w.heap.size ≤ g ∧ Upd none_ w w' := by
  obtain ⟨w1, g, h1, u1, hg, st, f⟩ := New_st hK hk T
  exact ⟨w1, g, h1, StrmAt.mk' (cs0 := []) st f (stCells_len h 0 (firstH_len S h) (List.length_replicate ..)), hg, u1⟩

theorem New_nil {K : Nat} (hK : 18446744073709551616 ≤ K) {h : Int} (hk : known h = false) {C S : List Int} {w : World} (T : Tabs w C S) : ∃ w', digest_New K h w = some ((none, 10, ()), w') ∧ Upd none_ w w' := by
  obtain ⟨w1, g, h1, h2, h3, h4⟩ := New_ok hK h T.sl T.sin T.gs
  rw [hk, if_neg (by decide), if_neg (by decide)] at h1
  exact ⟨w1, h1, h2⟩

theorem strm_write {K : Nat} (hK : 18446744073709551616 ≤ K) {w : World} {g : Nat} {h : Int} (hk : known h = true) {C S xs : List Int} (T : Tabs w C S) (hg : 4 ≤ g) (m : StrmAt w g C S h xs) {s : Sl} {xss : List (List Int)} {Q : Nat → Prop} (hQ : ¬ Q g) (hp : Parts w s xss Q) (hl : xs.length + xss.flatten.length ≤ 33554432) :
    ∃ w', digest_Stream_Write K (some ⟨g, 0, none⟩) s w = some ((0, ()), w') ∧ StrmAt w' g C S h (xs ++ xss.flatten) ∧ Upd (· = g) w w' := by
  obtain ⟨H, half, st, f⟩ := m.st
  obtain ⟨w', H', half', h1, h2, h3, h4⟩ := Write_ok hK hk T.cl (show g ≠ 2 by omega) st f T.gc hQ hp hl
  exact ⟨w', h1, StrmAt.mk' (cs0 := []) h2 h3 (stCells_len h _ st.words st.len), h4⟩

theorem strm_long {K : Nat} (hK : 18446744073709551616 ≤ K) {w : World} {g : Nat} {h : Int} (hk : known h = true) {C S xs : List Int} (m : StrmAt w g C S h xs) (hn : xs.length ≤ 33554432) {s : Sl} {xss : List (List Int)} {Q : Nat → Prop} (hp : Parts w s xss Q) (hl : ¬ xs.length + xss.flatten.length ≤ 33554432) :
    digest_Stream_Write K (some ⟨g, 0, none⟩) s w = some ((4, ()), w.drew) := by
  obtain ⟨H, half, st, f⟩ := m.st
  exact Write_long hK hk st hn hp hl

theorem strm_sum {K : Nat} (hK : 18446744073709551616 ≤ K) {w : World} {g : Nat} {h : Int} (hk : known h = true) {C S xs : List Int} (T : Tabs w C S) (m : StrmAt w g C S h xs) (hl : xs.length ≤ 1099511627776) :
    ∃ s' w', digest_Stream_Sum K (some ⟨g, 0, none⟩) w = some ((s', ()), w') ∧ Ans w.heap.size w' s' (digestOf h C (firstH S h) xs) ∧ Upd none_ w w' := by
  obtain ⟨H, half, st, f⟩ := m.st
  exact StreamSum_ok hK hk T.cl st f T.gc hl

theorem strm_ask {w : World} {g : Nat} {h : Int} (hk : known h = true) {C S xs : List Int} (m : StrmAt w g C S h xs) :
    digest_Stream_Hash (some ⟨g, 0, none⟩) w = some (h, ()) ∧ digest_Stream_Size (some ⟨g, 0, none⟩) w = some (sizeOfH h, ()) ∧ digest_Stream_Block (some ⟨g, 0, none⟩) w = some (((blk h : Nat) : Int), ()) ∧ digest_Stream_Count (some ⟨g, 0, none⟩) w = some (((xs.length : Nat) : Int), ()) := by
  obtain ⟨cs, hb, sc⟩ := m.ex
  obtain ⟨H, half, rfl, f, hi⟩ := sc.ex
  have l0 : ldI .i64 ⟨g, 0, none⟩ w = some (sizeOfH h) := hb.ldI (by rcases known_cases hk with e | e | e | e <;> subst e <;> rfl)
  have l1 : ldI .i64 ⟨g, 1, none⟩ w = some (((blk h : Nat) : Int)) := hb.ldI (by rcases known_cases hk with e | e | e | e <;> subst e <;> rfl)
  have l4 : ldI .i64 ⟨g, 4, none⟩ w = some h := hb.ldI (by rcases known_cases hk with e | e | e | e <;> subst e <;> rfl)
  have l5 : ldI .u64 ⟨g, 5, none⟩ w = some (((xs.length : Nat) : Int)) := hb.ldI (by rcases known_cases hk with e | e | e | e <;> subst e <;> rfl)
  refine ⟨?_, ?_, ?_, ?_⟩
  · unfold digest_Stream_Hash; rw [if_neg (by simp), Option.bind_some]; simp only [add_lit, Nat.zero_add]; rw [l4, Option.bind_some]
  · unfold digest_Stream_Size; rw [if_neg (by simp), Option.bind_some]; simp only [add_lit, Nat.zero_add]; rw [l0, Option.bind_some]
  · unfold digest_Stream_Block; rw [if_neg (by simp), Option.bind_some]; simp only [add_lit, Nat.zero_add]; rw [l1, Option.bind_some]
  · unfold digest_Stream_Count; rw [if_neg (by simp), Option.bind_some]; simp only [add_lit, Nat.zero_add]; rw [l5, Option.bind_some]

theorem strm_copy {w : World} {g : Nat} {h : Int} {C S xs : List Int} (m : StrmAt w g C S h xs) :
    ∃ w' g', digest_Stream_Copy (some ⟨g, 0, none⟩) w = some ((some ⟨g', 0, none⟩, ()), w') ∧ StrmAt w' g' C S h xs ∧ g' = w.heap.size ∧ Upd none_ w w' := by
  obtain ⟨cs, hb, sc⟩ := m.ex
  have hl := sc.len
  have lA := hb.ldA (i := 0) (n := 142) (by rw [hl]; decide)
  rw [List.drop_zero, List.take_of_length_le (by rw [hl]; decide)] at lA
  obtain ⟨w1, n1, b1, u1, z1⟩ := newB_ok z99 99 w
  obtain ⟨w2, s2, b2, u2, _⟩ := lay b1 (vs := cs) (by rw [hl]; rfl) sc.one
  refine ⟨w2, w.heap.size, ?_, ⟨cs, b2, sc⟩, rfl, u1.trans' u2 fun k hk e => by omega⟩
  unfold digest_Stream_Copy
  rw [if_neg (by simp), Option.bind_some, lA, Option.bind_some, n1, bnd_ok, if_pos (by rw [List.size_toArray, hl]), s2, Option.bind_some]

theorem strm_reset {K : Nat} (hK : 18446744073709551616 ≤ K) {w : World} {g : Nat} {h : Int} (hk : known h = true) {C S xs : List Int} (T : Tabs w C S) (m : StrmAt w g C S h xs) :
    ∃ w', digest_Stream_Reset K (some ⟨g, 0, none⟩) w = some ((0, ()), w') ∧ StrmAt w' g C S h [] ∧ Upd (· = g) w w' := by
  obtain ⟨cs, hb, sc⟩ := m.ex
  have hl := sc.len
  have l4 : ldI .i64 ⟨g, 4, none⟩ w = some h := by
    obtain ⟨H, half, rfl, f, hi⟩ := sc.ex
    exact hb.ldI (by rcases known_cases hk with e | e | e | e <;> subst e <;> rfl)
  obtain ⟨w1, h1, u1⟩ := begin_ok hK h T.sl T.sin T.gs
  have hcl := stCells_len h 0 (firstH_len S h) (List.length_replicate (n := 128) (a := (0 : Int)))
  obtain ⟨w2, s2, b2, u2, _⟩ := lay (hb.upd0 u1) (vs := stCells h 0 (firstH S h) half0) (by rw [hcl, hl]) (stCells_one _ _ _ _)
  refine ⟨w2, ?_, ⟨_, b2, StC.start C S h⟩, (u1.mono (T := (· = g)) fun _ _ e => e.elim).trans' u2 fun _ _ e => e⟩
  unfold digest_Stream_Reset
  rw [if_neg (by simp), Option.bind_some]
  simp only [add_lit, Nat.zero_add]
  rw [l4, Option.bind_some, h1, bnd_ok, Option.bind_some, if_pos (by rw [List.size_toArray, hcl])]
  simp only [add_lit, Nat.zero_add]
  rw [s2, Option.bind_some]

theorem mac_copy {w : World} {g : Nat} {h : Int} {C S ks xs : List Int} (m : MacAt w g C S h ks xs) :
    ∃ w' g', digest_Mac_Copy (some ⟨g, 0, none⟩) w = some ((some ⟨g', 0, none⟩, ()), w') ∧ MacAt w' g' C S h ks xs ∧ g' = w.heap.size ∧ Upd none_ w w' := by
  obtain ⟨cs, cs0, hb, k1, k2⟩ := m.ex
  have hl : (cs ++ cs0).length = 568 := by rw [List.length_append, k1.len, k2.len]
  have lA := hb.ldA (i := 0) (n := 568) (by rw [hl]; decide)
  rw [List.drop_zero, List.take_of_length_le (by rw [hl]; decide)] at lA
  obtain ⟨w1, n1, b1, u1, z1⟩ := newB_ok z101 101 w
  obtain ⟨w2, s2, b2, u2, _⟩ := lay b1 (vs := cs ++ cs0) (by rw [hl]; kernel_rfl) (fun v hv => (List.mem_append.1 hv).elim (k1.one v) (k2.one v))
  refine ⟨w2, w.heap.size, ?_, ⟨cs, cs0, b2, k1, k2⟩, rfl, u1.trans' u2 fun k hk e => by omega⟩
  unfold digest_Mac_Copy
  rw [if_neg (by simp), Option.bind_some, lA, Option.bind_some, n1, bnd_ok, if_pos (by rw [List.size_toArray, hl]), s2, Option.bind_some]

theorem mac_reset {w : World} {g : Nat} {h : Int} {C S ks xs : List Int} (m : MacAt w g C S h ks xs) :
    ∃ w', digest_Mac_Reset (some ⟨g, 0, none⟩) w = some ((0, ()), w') ∧ MacAt w' g C S h ks [] ∧ Upd (· = g) w w' := by
  obtain ⟨cs, cs0, hb, k1, k2⟩ := m.ex
  have hl : (cs ++ cs0).length = 568 := by rw [List.length_append, k1.len, k2.len]
  have lA := hb.ldA (i := 284) (n := 284) (by rw [hl]; decide)
  rw [← k1.len, List.drop_left, k1.len, List.take_of_length_le (by rw [k2.len]; decide)] at lA
  obtain ⟨w2, s2, b2, u2⟩ := hb.stA (o := 0) (vs := cs0.toArray) (by rw [List.size_toArray, k2.len, hl]; decide) (by simpa using k2.one)
  have e : seg (cs ++ cs0) 0 cs0.toArray.toList = cs0 ++ cs0 := by
    show seg (cs ++ cs0) 0 cs0 = _
    unfold seg
    rw [List.take_zero, List.nil_append, Nat.zero_add, k2.len, ← k1.len, List.drop_left]
  rw [e] at b2
  refine ⟨w2, ?_, ⟨cs0, cs0, b2, k2, k2⟩, u2⟩
  unfold digest_Mac_Reset
  rw [if_neg (by simp), Option.bind_some]
  simp only [add_lit, Nat.zero_add]
  rw [lA, Option.bind_some, Option.bind_some, if_pos (by rw [List.size_toArray, k2.len])]
  simp only [add_lit, Nat.zero_add]
  rw [s2, Option.bind_some]

theorem mac_size {w : World} {g : Nat} {h : Int} (hk : known h = true) {C S ks xs : List Int} (m : MacAt w g C S h ks xs) : digest_Mac_Size (some ⟨g, 0, none⟩) w = some (sizeOfH h, ()) := by
  obtain ⟨cs, cs0, hb, k1, k2⟩ := m.ex
  obtain ⟨a, b, rfl, sa, _⟩ := k1.ex
  obtain ⟨H, half, rfl, f, hi⟩ := sa.ex
  have l0 : ldI .i64 ⟨g, 0, none⟩ w = some (sizeOfH h) := hb.ldI (by rcases known_cases hk with e | e | e | e <;> subst e <;> rfl)
  unfold digest_Mac_Size
  rw [if_neg (by simp), Option.bind_some]
  simp only [add_lit, Nat.zero_add]
  rw [l0, Option.bind_some]

end Go.Sh

/- Three streams, or Macs, in turns: what is in their struct, and what is known of it. -/
set_option linter.unusedVariables false
namespace Go.Sh
open Go.Fw Go.Sha Go.RowKit Go.Proofs.Tryd Go.Deep

theorem src_lt3 {w : World} {s : Sl} {xs : List Int} (hs : Src w s (ints .u8 xs)) : ∀ q, s.a = some q → ints .u8 xs ≠ [] → q.block < w.heap.size := by
  intro q hq hne
  rcases hs.rd with ⟨e, _⟩ | ⟨p, e, hr⟩
  · rw [e] at hq; cases hq
  · rw [e] at hq; cases hq; exact hr.lt hne

/-- what the document knows of one -/
structure Fd where
  hash : Int
  keyed : Bool
  key : Sl
  bytes : Sl
def Fd.cells (f : Fd) : List Value := [.int .i64 f.hash, .bool f.keyed, slV f.key, slV f.bytes]
def Fd.none_ : Fd := ⟨0, false, nilS, nilS⟩
/-- the struct -/
structure Th where
  s : Nat → Option Addr
  m : Nat → Option Addr
  f : Nat → Fd
  kept : Sl
  was : Sl
  left : Int
def Th.cells (t : Th) : List Value := [.pointer (t.s 0), .pointer (t.s 1), .pointer (t.s 2), .pointer (t.m 0), .pointer (t.m 1), .pointer (t.m 2)] ++ ((t.f 0).cells ++ ((t.f 1).cells ++ ((t.f 2).cells ++ [slV t.kept, slV t.was, .int .i64 t.left])))
def upd3 {α : Type} (f : Nat → α) (i : Nat) (v : α) : Nat → α := fun k => if k = i then v else f k
theorem upd3_same {α : Type} (f : Nat → α) (i : Nat) (v : α) : upd3 f i v i = v := if_pos rfl
theorem upd3_ne {α : Type} (f : Nat → α) {i k : Nat} (h : k ≠ i) (v : α) : upd3 f i v k = f k := if_neg h

theorem lt3 {i : Nat} (h : i < 3) : i = 0 ∨ i = 1 ∨ i = 2 := by omega

theorem Th.len (t : Th) : t.cells.length = 21 := rfl
theorem Th.get_s (t : Th) {i : Nat} (h : i < 3) : t.cells[i]? = some (.pointer (t.s i)) := by rcases lt3 h with rfl | rfl | rfl <;> rfl
theorem Th.get_m (t : Th) {i : Nat} (h : i < 3) : t.cells[3 + i]? = some (.pointer (t.m i)) := by rcases lt3 h with rfl | rfl | rfl <;> rfl
theorem Th.get_hash (t : Th) {i : Nat} (h : i < 3) : t.cells[6 + i * 4]? = some (.int .i64 (t.f i).hash) := by rcases lt3 h with rfl | rfl | rfl <;> rfl
theorem Th.get_bytes (t : Th) {i : Nat} (h : i < 3) : t.cells[6 + i * 4 + 3]? = some (slV (t.f i).bytes) := by rcases lt3 h with rfl | rfl | rfl <;> rfl
theorem Th.get_f (t : Th) {i : Nat} (h : i < 3) : (t.cells.drop (6 + i * 4)).take 4 = (t.f i).cells := by rcases lt3 h with rfl | rfl | rfl <;> rfl
theorem Th.set_s (t : Th) {i : Nat} (h : i < 3) (v : Option Addr) : t.cells.set i (.pointer v) = { t with s := upd3 t.s i v }.cells := by rcases lt3 h with rfl | rfl | rfl <;> rfl
theorem Th.set_m (t : Th) {i : Nat} (h : i < 3) (v : Option Addr) : t.cells.set (3 + i) (.pointer v) = { t with m := upd3 t.m i v }.cells := by rcases lt3 h with rfl | rfl | rfl <;> rfl
theorem Th.set_hash (t : Th) {i : Nat} (h : i < 3) (v : Int) : t.cells.set (6 + i * 4) (.int .i64 v) = { t with f := upd3 t.f i { t.f i with hash := v } }.cells := by rcases lt3 h with rfl | rfl | rfl <;> rfl
theorem Th.set_bytes (t : Th) {i : Nat} (h : i < 3) (v : Sl) : t.cells.set (6 + i * 4 + 3) (slV v) = { t with f := upd3 t.f i { t.f i with bytes := v } }.cells := by rcases lt3 h with rfl | rfl | rfl <;> rfl
theorem Th.set_f (t : Th) {i : Nat} (h : i < 3) (v : Fd) : seg t.cells (6 + i * 4) v.cells = { t with f := upd3 t.f i v }.cells := by rcases lt3 h with rfl | rfl | rfl <;> rfl
theorem Th.set_kept (t : Th) (v : Sl) : t.cells.set 18 (slV v) = { t with kept := v }.cells := rfl
theorem Th.set_was (t : Th) (v : Sl) : t.cells.set 19 (slV v) = { t with was := v }.cells := rfl
theorem Th.set_left (t : Th) (v : Int) : t.cells.set 20 (.int .i64 v) = { t with left := v }.cells := rfl
theorem Fd.one (f : Fd) : ∀ v ∈ f.cells, v.oneCell' = true := by
  intro v hv
  simp only [Fd.cells, List.mem_cons, List.not_mem_nil, or_false] at hv
  rcases hv with rfl | rfl | rfl | rfl <;> rfl

/-- a stream, or a Mac -/
def ObjAt (macs : Bool) (w : World) (g : Nat) (C S : List Int) (h : Int) (ks xs : List Int) : Prop := if macs = true then MacAt w g C S h ks xs else StrmAt w g C S h xs
theorem ObjAt.upd {macs : Bool} {w w' : World} {g : Nat} {C S : List Int} {h : Int} {ks xs : List Int} {X : Nat → Prop} (m : ObjAt macs w g C S h ks xs) (u : Upd X w w') (hn : ¬ X g) : ObjAt macs w' g C S h ks xs := by
  cases macs with
  | true => exact MacAt.upd m u hn
  | false => exact StrmAt.upd m u hn
theorem ObjAt.lt {macs : Bool} {w : World} {g : Nat} {C S : List Int} {h : Int} {ks xs : List Int} (m : ObjAt macs w g C S h ks xs) : g < w.heap.size := by
  cases macs with
  | true => exact MacAt.lt m
  | false => exact StrmAt.lt m
/-- what it tells -/
def tellOf (macs : Bool) (C S : List Int) (h : Int) (ks xs : List Int) : List Int := if macs = true then macOf C S h ks xs else digestOf h C (firstH S h) xs

/-- bytes that stay as they are: their block has the role 0 -/
structure Data (w : World) (ro : Nat → Nat) (s : Sl) (xs : List Int) : Prop where
  src : Src w s (ints .u8 xs)
  inn : ∀ x ∈ xs, InK .u8 x
  ro : ∀ q, s.a = some q → xs ≠ [] → ro q.block = 0

theorem ints_ne' {κ : IntKind} {xs : List Int} (h : xs ≠ []) : ints κ xs ≠ [] := fun e => h (by cases xs with | nil => rfl | cons y r => cases e)
theorem Data.lt {w : World} {ro : Nat → Nat} {s : Sl} {xs : List Int} (d : Data w ro s xs) : ∀ q, s.a = some q → xs ≠ [] → q.block < w.heap.size := fun q hq hne => src_lt3 d.src q hq (ints_ne' hne)
theorem Data.upd {w w' : World} {ro ro' : Nat → Nat} {s : Sl} {xs : List Int} {X : Nat → Prop} (d : Data w ro s xs) (u : Upd X w w') (hn : ∀ k, k < w.heap.size → ro k = 0 → ¬ X k) (hr : ∀ k, k < w.heap.size → ro' k = ro k) : Data w' ro' s xs :=
  ⟨src_upd d.src u fun q hq hne => hn _ (d.lt q hq (ints_ne hne)) (d.ro q hq (ints_ne hne)), d.inn, fun q hq hne => by rw [hr _ (d.lt q hq hne)]; exact d.ro q hq hne⟩

/-- one of the three -/
def Slot (w : World) (ro : Nat → Nat) (C S : List Int) (macs : Bool) (i : Nat) (p : Option Addr) (f : Fd) (left : Int) : Prop :=
  (p = none ∧ f = Fd.none_) ∨ ∃ g ks xs, p = some ⟨g, 0, none⟩ ∧ ro g = 4 + i ∧ known f.hash = true ∧ ObjAt macs w g C S f.hash ks xs ∧ f.keyed = macs ∧ (macs = true → Data w ro f.key ks ∧ ks.length ≤ 65536) ∧ Data w ro f.bytes xs ∧ (xs.length : Int) + left ≤ 65536

theorem Slot.upd {w w' : World} {ro ro' : Nat → Nat} {C S : List Int} {macs : Bool} {i : Nat} {p : Option Addr} {f : Fd} {left : Int} {X : Nat → Prop} (s : Slot w ro C S macs i p f left) (u : Upd X w w') (hn : ∀ k, k < w.heap.size → ro k = 0 ∨ ro k = 4 + i → ¬ X k) (hr : ∀ k, k < w.heap.size → ro' k = ro k) {left' : Int} (hl : left' ≤ left) : Slot w' ro' C S macs i p f left' := by
  rcases s with s | ⟨g, ks, xs, h1, h2, h3, h4, h5, h6, h7, h8⟩
  · exact .inl s
  · exact .inr ⟨g, ks, xs, h1, by rw [hr _ h4.lt]; exact h2, h3, h4.upd u (hn _ h4.lt (.inr h2)), h5, fun e => ⟨(h6 e).1.upd u (fun k a b => hn k a (.inl b)) hr, (h6 e).2⟩, h7.upd u (fun k a b => hn k a (.inl b)) hr, by omega⟩

/-- what is known of all; roles of blocks: 0: stays as it is; 1: the struct; 2, 3: the lists kept, was; 4 + i: object i; 7 + j: answer j that is kept -/
structure Inv (w : World) (B : Nat) (ro : Nat → Nat) (C S : List Int) (macs : Bool) (gt : Nat) (t : Th) (ke : List (Sl × List Int)) (we : List Sl) : Prop where
  T : TabsR w C S
  b4 : 4 ≤ B
  bw : B ≤ w.heap.size
  low : ∀ k, k < B → ro k = 0
  bk : Bk 117 w gt t.cells
  rt : ro gt = 1
  slots : ∀ i, i < 3 → Slot w ro C S macs i (if macs = true then t.m i else t.s i) (t.f i) t.left
  left : 0 ≤ t.left ∧ t.left ≤ 65536
  kept : Own 25 w t.kept (ke.map fun p => slV p.1)
  rk : ∀ k, t.kept.blk = some k → ro k = 2
  was : Own 25 w t.was (we.map slV)
  rw_ : ∀ k, t.was.blk = some k → ro k = 3
  lens : we.length = ke.length
  few : ke.length ≤ 1000
  ks : ∀ j p s, ke[j]? = some p → we[j]? = some s → Vw 5 w p.1 (ints .u8 p.2) ∧ (∀ k, p.1.blk = some k → ro k = 7 + j) ∧ p.2.length ≤ 64 ∧ Data w ro s p.2

theorem Inv.gtlt {w : World} {B : Nat} {ro : Nat → Nat} {C S : List Int} {macs : Bool} {gt : Nat} {t : Th} {ke : List (Sl × List Int)} {we : List Sl} (v : Inv w B ro C S macs gt t ke we) : B ≤ gt ∧ gt < w.heap.size := by
  refine ⟨?_, v.bk.lt⟩
  rcases Nat.lt_or_ge gt B with e | e
  · have := v.low gt e; have := v.rt; omega
  · exact e

/-- steps that write blocks of no role but those that are named -/
theorem Inv.upd {w w' : World} {B : Nat} {ro ro' : Nat → Nat} {C S : List Int} {macs : Bool} {gt : Nat} {t : Th} {ke : List (Sl × List Int)} {we : List Sl} {X : Nat → Prop} (v : Inv w B ro C S macs gt t ke we) (u : Upd X w w') (hn : ∀ k, k < w.heap.size → ¬ X k) (hr : ∀ k, k < w.heap.size → ro' k = ro k) : Inv w' B ro' C S macs gt t ke we := by
  have hb4 := v.b4
  have hbw := v.bw
  refine ⟨v.T.upd u fun k hk => hn k (by omega), v.b4, Nat.le_trans v.bw u.size, fun k hk => by rw [hr k (by omega)]; exact v.low k hk, v.bk.upd u (hn _ v.gtlt.2), by rw [hr _ v.gtlt.2]; exact v.rt, fun i hi => (v.slots i hi).upd u (fun k hk _ => hn k hk) hr (Int.le_refl _), v.left, v.kept.upd u fun k hk => hn k (v.kept.lt hk), fun k hk => by rw [hr _ (v.kept.lt hk)]; exact v.rk k hk, v.was.upd u fun k hk => hn k (v.was.lt hk), fun k hk => by rw [hr _ (v.was.lt hk)]; exact v.rw_ k hk, v.lens, v.few, fun j p s hp hs => ?_⟩
  obtain ⟨a1, a2, a3, a4⟩ := v.ks j p s hp hs
  exact ⟨a1.upd u fun k hk => hn k (a1.lt hk), fun k hk => by rw [hr _ (a1.lt hk)]; exact a2 k hk, a3, a4.upd u (fun k hk _ => hn k hk) hr⟩
theorem Inv.upd0 {w w' : World} {B : Nat} {ro : Nat → Nat} {C S : List Int} {macs : Bool} {gt : Nat} {t : Th} {ke : List (Sl × List Int)} {we : List Sl} (v : Inv w B ro C S macs gt t ke we) (u : Upd none_ w w') : Inv w' B ro C S macs gt t ke we := v.upd u (fun _ _ => id) fun _ _ => rfl

/-- one of the objects is another one, or written; all else is as it was -/
theorem Inv.obj {w w' : World} {B : Nat} {ro ro' : Nat → Nat} {C S : List Int} {macs : Bool} {gt : Nat} {t t' : Th} {ke : List (Sl × List Int)} {we : List Sl} {X : Nat → Prop} (v : Inv w B ro C S macs gt t ke we) {i : Nat} (hi : i < 3) (u : Upd X w w') (hn : ∀ k, k < w.heap.size → X k → ro k = 1 ∨ ro k = 4 + i) (hr : ∀ k, k < w.heap.size → ro' k = ro k)
    (hb : Bk 117 w' gt t'.cells) (hs : Slot w' ro' C S macs i (if macs = true then t'.m i else t'.s i) (t'.f i) t'.left) (ho : ∀ j, j < 3 → j ≠ i → (if macs = true then t'.m j else t'.s j) = (if macs = true then t.m j else t.s j) ∧ t'.f j = t.f j) (hl : 0 ≤ t'.left ∧ t'.left ≤ t.left) (hk : t'.kept = t.kept) (hw : t'.was = t.was) : Inv w' B ro' C S macs gt t' ke we := by
  have hb4 := v.b4
  have hbw := v.bw
  have hlft := v.left
  refine ⟨v.T.upd u fun k hk e => by have := hn k (by omega) e; have := v.low k (by omega); omega, v.b4, Nat.le_trans v.bw u.size, fun k hk => by rw [hr k (by omega)]; exact v.low k hk, hb, by rw [hr _ v.gtlt.2]; exact v.rt, fun j hj => ?_, by omega,
    by rw [hk]; exact v.kept.upd u fun k hk e => by have := hn k (v.kept.lt hk) e; have := v.rk k hk; omega, by rw [hk]; exact fun k hk => by rw [hr _ (v.kept.lt hk)]; exact v.rk k hk,
    by rw [hw]; exact v.was.upd u fun k hk e => by have := hn k (v.was.lt hk) e; have := v.rw_ k hk; omega, by rw [hw]; exact fun k hk => by rw [hr _ (v.was.lt hk)]; exact v.rw_ k hk, v.lens, v.few, fun j p s hp hs => ?_⟩
  · by_cases e : j = i
    · subst e; exact hs
    · obtain ⟨e1, e2⟩ := ho j hj e
      rw [e1, e2]
      exact (v.slots j hj).upd u (fun k hk hro e => by have := hn k hk e; omega) hr hl.2
  · obtain ⟨a1, a2, a3, a4⟩ := v.ks j p s hp hs
    exact ⟨a1.upd u fun k hk e => by have := hn k (a1.lt hk) e; have := a2 k hk; omega, fun k hk => by rw [hr _ (a1.lt hk)]; exact a2 k hk, a3, a4.upd u (fun k hk h0 e => by have := hn k hk e; omega) hr⟩

/-- all that was there below B is as it was -/
theorem Inv.below {w w' : World} {B : Nat} {ro : Nat → Nat} {C S : List Int} {macs : Bool} {gt : Nat} {t : Th} {ke : List (Sl × List Int)} {we : List Sl} {X : Nat → Prop} (v : Inv w B ro C S macs gt t ke we) (u : Upd X w w') (hn : ∀ k, k < w.heap.size → X k → ro k ≠ 0) : Below B w w' :=
  u.below v.bw fun k hk e => by have := v.low k hk; have := hn k (by have := v.bw; omega) e; omega

theorem place_ok (n : Int) : ∃ i : Nat, i < 3 ∧ law01_place n = some ((i : Int), ()) := by
  unfold law01_place
  have h1 : Int.tmod n 3 < 3 := Int.tmod_lt_of_pos n (by decide)
  have h2 : -3 < Int.tmod n 3 := by have := Int.lt_tmod_of_pos n (show (0 : Int) < 3 by decide); omega
  by_cases c : Int.tmod n 3 < 0
  · refine ⟨(Int.tmod n 3 + 3).toNat, by omega, ?_⟩
    rw [decide_eq_true c, if_pos rfl, w64 (by omega) (by omega), show (((Int.tmod n 3 + 3).toNat : Nat) : Int) = Int.tmod n 3 + 3 by omega]
  · refine ⟨(Int.tmod n 3).toNat, by omega, ?_⟩
    rw [decide_eq_false c, if_neg (by decide), show (((Int.tmod n 3).toNat : Nat) : Int) = Int.tmod n 3 by omega]

end Go.Sh

/- Three streams, or Macs: the parts of the steps. -/
set_option linter.unusedVariables false
namespace Go.Sh
open Go.Fw Go.Sha Go.RowKit Go.Proofs.Tryd Go.Deep

/-! ### copies that are lent lie in blocks of their own -/

def LentD (w : World) (B N : Nat) (l : Sl) (ps : List (Sl × List Int)) : Prop := Own 25 w l (ps.map fun p => slV p.1) ∧ (∀ p ∈ ps, LentOne w B N l p) ∧ ps.Pairwise fun p q => p.1.blk ≠ q.1.blk

theorem LentD.lent {w : World} {B N : Nat} {l : Sl} {ps : List (Sl × List Int)} (h : LentD w B N l ps) (hf : ∀ k, l.blk = some k → B ≤ k ∧ k < N) (hn : N ≤ w.heap.size) : Lent w B N l (ps.map Prod.snd) := ⟨⟨ps, rfl, h.1, h.2.1⟩, hf, hn⟩

theorem LentD.upd {w w' : World} {B N : Nat} {l : Sl} {ps : List (Sl × List Int)} {X : Nat → Prop} (h : LentD w B N l ps) (hf : ∀ k, l.blk = some k → B ≤ k ∧ k < N) (u : Upd X w w') (hn : ∀ k, B ≤ k → k < N → ¬ X k) : LentD w' B N l ps := by
  obtain ⟨h1, h2, h3⟩ := h
  refine ⟨h1.upd u fun k hk => hn k (hf k hk).1 (hf k hk).2, fun p hp => ?_, h3⟩
  obtain ⟨g, cap, a1, a2, a3, a4, a5⟩ := h2 p hp
  exact ⟨g, cap, a1, a2, a3, a4, a5.upd u fun k hk => by simp [Sl.blk] at hk; subst hk; exact hn _ a2 a3⟩

theorem lentD_loop {K : Nat} (hK : 18446744073709551616 ≤ K) {B : Nat} {s : Sl} {xss : List (List Int)} {Q : Nat → Prop} (hQ : ∀ k, Q k → k < B) :
    ∀ (d i n : Nat) (w : World) (l : Sl) (ps : List (Sl × List Int)), i + d = xss.length → d < n → PartsW w s xss Q → ps.map Prod.snd = xss.take i → LentD w B w.heap.size l ps → (∀ k, l.blk = some k → B ≤ k) → B ≤ w.heap.size →
      ∃ l' w' ps', law01_lent_l0 K n s l (i : Int) w = some ((l', ()), w') ∧ ps'.map Prod.snd = xss ∧ LentD w' B w'.heap.size l' ps' ∧ (∀ k, l'.blk = some k → B ≤ k) ∧ Below B w w' := by
  intro d
  induction d with
  | zero =>
    intro i n w l ps hi hn hp hps hl hlb hB
    obtain ⟨n, rfl⟩ : ∃ m, n = m + 1 := ⟨n - 1, by omega⟩
    have hd : decide ((i : Int) < ((s.len : Nat) : Int)) = false := by rw [hp.len]; simp; omega
    refine ⟨l, w, ps, ?_, by rw [hps, List.take_of_length_le (by omega)], hl, hlb, Below.refl B w⟩
    show law01_lent_l0_b K (law01_lent_l0 K n) s l (i : Int) w = _
    unfold law01_lent_l0_b
    rw [hd, if_neg (by decide)]
  | succ d ih =>
    intro i n w l ps hi hn hp a1 hl a4 hB
    obtain ⟨n, rfl⟩ : ∃ m, n = m + 1 := ⟨n - 1, by omega⟩
    have hm := hp.many
    have hd : decide ((i : Int) < ((s.len : Nat) : Int)) = true := by rw [hp.len]; simp; omega
    obtain ⟨p, t, h1, h2, h3, h5, h6, h7⟩ := hp.at (i := i) (by omega)
    have c : (0 : Int) ≤ (i : Int) ∧ (i : Int) < ((s.len : Nat) : Int) := by rw [hp.len]; omega
    have e1 : IntKind.i64.wrap ((i : Int) + 1) = ((i + 1 : Nat) : Int) := by rw [w64 (by omega) (by omega)]; rfl
    obtain ⟨a2, a3, a6⟩ := hl
    have hpl : ps.length = i := by have := congrArg List.length a1; simp at this; omega
    have hll : l.len = i := by rw [a2.len]; simp [hpl]
    obtain ⟨g, cap, w1, b1, b2, b3, b4⟩ := Bytes_ok hK h3 h6
    obtain ⟨w2, c1, c2, c3, c4⟩ := bldS1_ok sliceSS (.slice (some ⟨g, 0, none⟩) (xss.getD i []).length cap) rfl w1
    have hs1 := b4.size
    have hgl : g < w1.heap.size := b2.lt (by simp [Sl.blk])
    obtain ⟨l3, w3, d1, d2, d3, d4, d5⟩ := apd_ok sliceSS ((a2.upd0 b4).upd0 c3) (c2.src (by simp [Value.oneCell'])) (by show (l.len + 1) * 24 ≤ _; omega)
    have hlb : ∀ k, l.blk = some k → k < w.heap.size := fun k hk => a2.lt hk
    have u3 : Below B w w3 := (((b4.and0 c3).mono (T := fun k => l.blk = some k) fun _ _ e => e.elim).trans' d4 fun _ _ e => e).below hB fun k hk e => by have := a4 k e; omega
    have hl3 : ∀ k, k < w2.heap.size → l.blk ≠ some k → l3.blk ≠ some k := fun k hk hne e => by
      rcases d5 with d5 | d5
      · exact hne (d5 ▸ e)
      · rw [d5] at e; have := Option.some.inj e; omega
    have hs2 := c3.size
    have hs3 := d4.size
    have hone : LentD w3 B w3.heap.size l3 (ps ++ [(⟨some ⟨g, 0, none⟩, (xss.getD i []).length, cap⟩, xss.getD i [])]) := by
      refine ⟨by rw [List.map_append]; exact d3, ?_, ?_⟩
      · intro q hq
        rcases List.mem_append.1 hq with hq | hq
        · obtain ⟨g2, cap2, f1, f2, f3, f4, f5⟩ := a3 q hq
          have hg2 : g2 < w.heap.size := by omega
          exact ⟨g2, cap2, f1, f2, by omega, hl3 g2 (by omega) f4, ((f5.upd0 b4).upd0 c3).upd d4 fun k hk e => by simp [Sl.blk] at hk; subst hk; exact f4 e⟩
        · obtain rfl := List.mem_singleton.1 hq
          exact ⟨g, cap, rfl, by omega, by omega, hl3 g (by omega) (fun e => by have := hlb g e; omega), (b2.upd0 c3).upd d4 fun k hk e => by simp [Sl.blk] at hk; subst hk; have := hlb _ e; omega⟩
      · rw [List.pairwise_append]
        refine ⟨a6, List.pairwise_singleton .., fun q hq r hr => ?_⟩
        obtain rfl := List.mem_singleton.1 hr
        obtain ⟨g2, cap2, f1, f2, f3, f4, f5⟩ := a3 q hq
        rw [f1]
        intro e
        have : g2 = g := by simpa [Sl.blk] using e
        omega
    have hfr : ∀ k, l3.blk = some k → B ≤ k := by
      intro k hk
      rcases d5 with d5 | d5
      · exact a4 k (d5 ▸ hk)
      · rw [d5] at hk; have := Option.some.inj hk; omega
    obtain ⟨l4, w4, ps4, f1, f2, f3, f4, f5⟩ := ih (i + 1) n w3 l3 _ (by omega) (by omega) (hp.upd (upd_of_below u3) fun k hk e => by have := hQ k hk; omega) (by rw [List.map_append, a1, take_succ_getD (by omega) []]; rfl) hone hfr (by have := u3.size; omega)
    refine ⟨l4, w4, ps4, ?_, f2, f3, f4, u3.trans f5⟩
    show law01_lent_l0_b K (law01_lent_l0 K n) s l (i : Int) w = _
    unfold law01_lent_l0_b
    rw [hd, if_pos rfl, h1, Option.bind_some, if_pos c, Int.toNat_natCast, Nat.mul_one, h2, Option.bind_some, b1, bnd_ok]
    dsimp only
    rw [c1, bnd_ok]
    dsimp only
    rw [d1, bnd_ok, e1, f1]

theorem lentD_ok {K : Nat} (hK : 18446744073709551616 ≤ K) {s : Sl} {xss : List (List Int)} {Q : Nat → Prop} {w : World} (hp : PartsW w s xss Q) (hQ : ∀ k, Q k → k < w.heap.size) :
    ∃ l w' ps, law01_lent K s w = some ((l, ()), w') ∧ ps.map Prod.snd = xss ∧ LentD w' w.heap.size w'.heap.size l ps ∧ (∀ k, l.blk = some k → w.heap.size ≤ k ∧ k < w'.heap.size) ∧ Upd none_ w w' := by
  have hm := hp.many
  obtain ⟨l, w', ps, h1, h2, h3, h4, h5⟩ := lentD_loop hK hQ xss.length 0 K w nilS [] (by omega) (by omega) hp rfl ⟨Own.nil .., (fun _ h => by simp at h), List.Pairwise.nil⟩ (fun k hk => by cases hk) (Nat.le_refl _)
  have h1 : law01_lent_l0 K K s nilS 0 w = _ := h1
  refine ⟨l, w', ps, ?_, h2, h3, fun k hk => ⟨h4 k hk, h3.1.lt hk⟩, Upd.of_below h5⟩
  unfold law01_lent
  rw [h1, bnd_ok]

/-- each of the copies is spoiled -/
theorem spoil_lent {K : Nat} (hK : 18446744073709551616 ≤ K) {t0 : Option Addr} {i1 e11 : Int} {all9 l : Sl} {B N : Nat} {ps : List (Sl × List Int)} (hpw : ps.Pairwise fun p q => p.1.blk ≠ q.1.blk) (hlen : ∀ p ∈ ps, p.2.length ≤ 140737488351232) (hm : ps.length ≤ 140737488351232) :
    ∀ (d i n : Nat) (w : World), i + d = ps.length → d < n → Own 25 w l (ps.map fun p => slV p.1) → (∀ j p, i ≤ j → ps[j]? = some p → LentOne w B N l p) →
      ∃ w', law01_three_writes_l1 K n t0 i1 all9 l e11 (i : Int) w = some ((), w') ∧ Upd (fun k => B ≤ k ∧ k < N) w w' := by
  intro d
  induction d with
  | zero =>
    intro i n w hi hn ho hl
    obtain ⟨n, rfl⟩ : ∃ m, n = m + 1 := ⟨n - 1, by omega⟩
    have hll : l.len = ps.length := by rw [ho.len]; simp
    have hd : decide ((i : Int) < ((l.len : Nat) : Int)) = false := by rw [hll]; simp; omega
    refine ⟨w, ?_, Upd.refl _ _⟩
    have eu : law01_three_writes_l1 K (n + 1) = law01_three_writes_l1_b K (law01_three_writes_l1 K n) := rfl
    rw [eu]
    unfold law01_three_writes_l1_b
    rw [hd, if_neg (by decide)]
  | succ d ih =>
    intro i n w hi hn ho hl
    obtain ⟨n, rfl⟩ : ∃ m, n = m + 1 := ⟨n - 1, by omega⟩
    have hll : l.len = ps.length := by rw [ho.len]; simp
    have hi2 : i < ps.length := by omega
    have hd : decide ((i : Int) < ((l.len : Nat) : Int)) = true := by rw [hll]; simp; omega
    have c : (0 : Int) ≤ (i : Int) ∧ (i : Int) < ((l.len : Nat) : Int) := by rw [hll]; omega
    have e1 : IntKind.i64.wrap ((i : Int) + 1) = ((i + 1 : Nat) : Int) := by rw [w64 (by omega) (by omega)]; rfl
    have hget : ps[i]? = some ps[i] := List.getElem?_eq_getElem hi2
    obtain ⟨g, cap, f1, f2, f3, f4, f5⟩ := hl i ps[i] (Nat.le_refl _) hget
    have hsrc := ho.src (fun v hv => by obtain ⟨x, _, rfl⟩ := List.mem_map.1 hv; rfl)
    rcases hsrc.rd with ⟨b1, b2, b3⟩ | ⟨p, b1, b2⟩
    · have : ps = [] := by simpa using b3
      rw [this] at hi2; simp at hi2
    have hrd : Rd w p ((ps.map Prod.fst).map slV) := by rw [List.map_map]; exact b2
    have hld := ldS_rd hrd (i := i) (by simpa using hi2)
    have e2 : (ps.map Prod.fst).getD i nilS = ps[i].1 := by simp [List.getD_eq_getElem?_getD, hi2]
    rw [e2] at hld
    obtain ⟨w1, s1, u1⟩ := SpoilBytes_ok hK (marked_front f5).vw (hlen _ (List.getElem_mem hi2))
    rw [← f1] at s1 u1
    have hb1 : ps[i].1.blk = some g := by rw [f1]; rfl
    have u1' : Upd (fun k => B ≤ k ∧ k < N) w w1 := u1.mono fun k _ e => by rw [hb1] at e; have := Option.some.inj e; omega
    obtain ⟨w2, g1, g2⟩ := ih (i + 1) n w1 (by omega) (by omega) (ho.upd u1 fun k hk e => by rw [hb1] at e; exact f4 (e ▸ hk)) fun j q hj hq => by
      obtain ⟨g', cap', k1, k2, k3, k4, k5⟩ := hl j q (by omega) hq
      have hj2 := (List.getElem?_eq_some_iff.1 hq).1
      have hqe := (List.getElem?_eq_some_iff.1 hq).2
      have hne := (List.pairwise_iff_getElem.1 hpw) i j hi2 hj2 (by omega)
      rw [hqe, hb1, k1] at hne
      exact ⟨g', cap', k1, k2, k3, k4, k5.upd u1 fun k hk e => by rw [hb1] at e; simp only [Sl.blk, Option.map_some] at hk hne; exact hne (e.trans hk.symm)⟩
    refine ⟨w2, ?_, u1'.trans' g2 fun _ _ e => e⟩
    have eu : law01_three_writes_l1 K (n + 1) = law01_three_writes_l1_b K (law01_three_writes_l1 K n) := rfl
    rw [eu]
    unfold law01_three_writes_l1_b
    rw [hd, if_pos rfl, b1, Option.bind_some, if_pos c, Int.toNat_natCast, Nat.mul_one, hld, Option.bind_some, s1, bnd_ok, e1, g1]

/-! ### two rows, one behind the other -/
theorem app2_ok {w : World} {x y : Sl} {xs ys : List Int} (hx : Src w x (ints .u8 xs)) (hy : Src w y (ints .u8 ys)) (hl : xs.length + ys.length ≤ 1099511627776) :
    ∃ s1 w1 s2 w2, apd prog 25 25 (.slice none 0 0) (.slice x.a x.len x.cap) w = some (s1, w1) ∧ apd prog 25 25 (.slice s1.a s1.len s1.cap) (.slice y.a y.len y.cap) w1.drew = some (s2, w2) ∧ Own 5 w2 s2 (ints .u8 (xs ++ ys)) ∧ Upd none_ w w2 ∧ Fresh w.heap.size s2 := by
  have hxl : x.len = xs.length := by rw [hx.len, ints_length]
  have hyl : y.len = ys.length := by rw [hy.len, ints_length]
  obtain ⟨s1, w1, h1, l1, o1, u1, b1⟩ := apd_ok sliceB (Own.nil 5 w) hx (by show (0 + x.len) * 1 ≤ _; omega)
  have u1 : Upd none_ w w1 := u1.mono fun k _ e => by cases e
  have ud : Upd none_ w w1.drew := u1.drew
  have l1 : s1.len = x.len := by rw [l1]; show 0 + x.len = _; omega
  obtain ⟨s2, w2, h2, l2, o2, u2, b2⟩ := apd_ok sliceB (o1.drew) (hy.upd0 ud) (by rw [l1]; omega)
  have hf1 : Fresh w.heap.size s1 := by
    intro k hk
    rcases b1 with e | e
    · rw [e] at hk; cases hk
    · rw [e] at hk; have := Option.some.inj hk; omega
  refine ⟨s1, w1, s2, w2, h1, h2, by rw [ints_append]; exact o2, (ud.trans' (T := fun k => s1.blk = some k) u2 (S := none_) fun k hk e => by have := hf1 k e; omega), ?_⟩
  intro k hk
  rcases b2 with e | e
  · exact hf1 k (e ▸ hk)
  · rw [e] at hk; have := Option.some.inj hk; have := ud.size; omega

/-! ### built values -/
theorem built114 : prog.built 114 [] = some Fd.none_.cells.toArray := by kernel_rfl
theorem built114k (h : Int) (k : Sl) : prog.built 114 [(0, (.int .i64 h)), (1, (.bool true)), (2, (.slice k.a k.len k.cap))] = some (Fd.cells ⟨h, true, k, nilS⟩).toArray := by kernel_rfl
theorem built117 : prog.built 117 [(5, (.int .i64 65536))] = some (Th.cells ⟨fun _ => none, fun _ => none, fun _ => Fd.none_, nilS, nilS, 65536⟩).toArray := by kernel_rfl
def opC (kind at_ fr h : Int) (key parts : Sl) : Array Value := #[.int .i64 kind, .int .i64 at_, .int .i64 fr, .int .i64 h, slV key, slV parts]
theorem built120 (k i : Int) : prog.built 120 [(0, (.int .i64 k)), (1, (.int .i64 i))] = some (opC k i 0 0 nilS nilS) := by kernel_rfl

end Go.Sh

/- Three streams, or Macs: begun, keyed. -/
set_option linter.unusedVariables false
namespace Go.Sh
open Go.Fw Go.Sha Go.RowKit Go.Proofs.Tryd Go.Deep

/-- what a step leaves -/
def Good (B : Nat) (C S : List Int) (macs : Bool) (gt n : Nat) (w : World) (r : Option ((Bool × Unit) × World)) : Prop :=
  ∃ w' ro t ke we, r = some ((true, ()), w') ∧ Inv w' B ro C S macs gt t ke we ∧ Below B w w' ∧ ke.length ≤ n

theorem Good.mono {B : Nat} {C S : List Int} {macs : Bool} {gt n m : Nat} {w : World} {r : Option ((Bool × Unit) × World)} (h : Good B C S macs gt n w r) (hm : n ≤ m) : Good B C S macs gt m w r := by
  obtain ⟨w', ro, t, ke, we, h1, h2, h3, h4⟩ := h
  exact ⟨w', ro, t, ke, we, h1, h2, h3, by omega⟩
theorem Good.pre {B : Nat} {C S : List Int} {macs : Bool} {gt n : Nat} {w0 w : World} {r : Option ((Bool × Unit) × World)} (h : Good B C S macs gt n w r) (hb : Below B w0 w) : Good B C S macs gt n w0 r := by
  obtain ⟨w', ro, t, ke, we, h1, h2, h3, h4⟩ := h
  exact ⟨w', ro, t, ke, we, h1, h2, hb.trans h3, h4⟩

/-- the pointer in place i -/
def sel (macs : Bool) (t : Th) (i : Nat) : Option Addr := if macs = true then t.m i else t.s i
/-- another pointer, another record -/
def Th.put (macs : Bool) (t : Th) (i : Nat) (p : Option Addr) (f : Fd) (l : Int) : Th := { t with s := if macs = true then t.s else upd3 t.s i p, m := if macs = true then upd3 t.m i p else t.m, f := upd3 t.f i f, left := l }
theorem upd3_upd3 {α : Type} (f : Nat → α) (i : Nat) (a b : α) : upd3 (upd3 f i a) i b = upd3 f i b := by
  funext k; unfold upd3; by_cases e : k = i <;> simp [e]
theorem upd3_self {α : Type} (f : Nat → α) (i : Nat) : upd3 f i (f i) = f := by
  funext k; unfold upd3; by_cases e : k = i <;> simp [e]
theorem sel_put (macs : Bool) (t : Th) (i : Nat) (p : Option Addr) (f : Fd) (l : Int) : sel macs (t.put macs i p f l) i = p := by
  cases macs <;> exact upd3_same ..
theorem sel_put_ne (macs : Bool) (t : Th) {i j : Nat} (h : j ≠ i) (p : Option Addr) (f : Fd) (l : Int) : sel macs (t.put macs i p f l) j = sel macs t j := by
  cases macs <;> exact upd3_ne _ h _
theorem put_self (macs : Bool) (t : Th) (i : Nat) (f : Fd) (l : Int) : t.put macs i (sel macs t i) f l = { t with f := upd3 t.f i f, left := l } := by
  cases macs
  · show Th.mk (upd3 t.s i (t.s i)) t.m _ _ _ _ = _
    rw [upd3_self]
  · show Th.mk t.s (upd3 t.m i (t.m i)) _ _ _ _ = _
    rw [upd3_self]

theorem Inv.put {w w' : World} {B : Nat} {ro ro' : Nat → Nat} {C S : List Int} {macs : Bool} {gt : Nat} {t : Th} {ke : List (Sl × List Int)} {we : List Sl} {X : Nat → Prop} (v : Inv w B ro C S macs gt t ke we) {i : Nat} (hi : i < 3) (u : Upd X w w') (hn : ∀ k, k < w.heap.size → X k → ro k = 1 ∨ ro k = 4 + i) (hr : ∀ k, k < w.heap.size → ro' k = ro k)
    {p : Option Addr} {f : Fd} {l : Int} (hb : Bk 117 w' gt (t.put macs i p f l).cells) (hs : Slot w' ro' C S macs i p f l) (hl : 0 ≤ l ∧ l ≤ t.left) : Inv w' B ro' C S macs gt (t.put macs i p f l) ke we := by
  refine v.obj hi u hn hr hb ?_ (fun j hj e => ⟨sel_put_ne macs t e p f l, upd3_ne _ e _⟩) hl rfl rfl
  have e1 : (if macs = true then (t.put macs i p f l).m i else (t.put macs i p f l).s i) = p := sel_put macs t i p f l
  have e2 : (t.put macs i p f l).f i = f := upd3_same ..
  rw [e1, e2]
  exact hs

theorem Inv.good {w w' : World} {B : Nat} {ro ro' : Nat → Nat} {C S : List Int} {macs : Bool} {gt : Nat} {t t' : Th} {ke ke' : List (Sl × List Int)} {we we' : List Sl} {X : Nat → Prop} (v : Inv w B ro C S macs gt t ke we) (u : Upd X w w') (hn : ∀ k, k < w.heap.size → X k → ro k ≠ 0) {n : Nat} {r : Option ((Bool × Unit) × World)} (hr : r = some ((true, ()), w')) (v' : Inv w' B ro' C S macs gt t' ke' we') (hl : ke'.length ≤ n) : Good B C S macs gt n w r :=
  ⟨w', ro', t', ke', we', hr, v', v.below u hn, hl⟩

/-- roles: old blocks keep theirs -/
def ext (N : Nat) (ro p : Nat → Nat) : Nat → Nat := fun k => if k < N then ro k else p k
theorem ext_lt {N : Nat} {ro p : Nat → Nat} {k : Nat} (h : k < N) : ext N ro p k = ro k := if_pos h
theorem ext_ge {N : Nat} {ro p : Nat → Nat} {k : Nat} (h : N ≤ k) : ext N ro p k = p k := if_neg (by omega)

theorem Data.nil (w : World) (ro : Nat → Nat) : Data w ro nilS [] := ⟨(Own.nil 5 w).src (by simp), by simp, by simp⟩

theorem begun_ok {K : Nat} (hK : 18446744073709551616 ≤ K) {w : World} {B : Nat} {ro : Nat → Nat} {C S : List Int} {gt : Nat} {t : Th} {ke : List (Sl × List Int)} {we : List Sl} (v : Inv w B ro C S false gt t ke we) {i : Nat} (hi : i < 3) {kind at_ fr h : Int} {key parts : Sl} :
    Good B C S false gt ke.length w (law01_three_begun K (some ⟨gt, 0, none⟩) (i : Int) (opC kind at_ fr h key parts) w) := by
  obtain ⟨w1, n1, b1, u1, z1⟩ := newB_ok (opC kind at_ fr h key parts) 120 w
  have l3 : ldI .i64 ⟨w.heap.size, 3, none⟩ w1 = some h := b1.ldI rfl
  have v1 := v.upd0 u1
  have bi : (0 : Int) ≤ (i : Int) ∧ (i : Int) < ((3 : Nat) : Int) := by omega
  have hgt := v1.gtlt
  unfold law01_three_begun
  rw [n1, bnd_ok]
  simp only [add_lit, Nat.zero_add, Option.bind_some, if_pos bi, Int.toNat_natCast, Nat.mul_one, Nat.add_zero]
  rw [l3, Option.bind_some]
  cases hk : known h with
  | false =>
    obtain ⟨w2, j2, u2⟩ := New_nil hK hk v1.T.to
    have b2 := b1.upd0 u2
    have l3' : ldI .i64 ⟨w.heap.size, 3, none⟩ w2.drew = some h := b2.drew.ldI rfl
    have hs0 : law01_three_begun_s0 K ⟨w.heap.size, 0, none⟩ none 10 w2 = some ((false, ()), w2.drew) := by
      unfold law01_three_begun_s0 law01_num
      simp only [add_lit, Nat.zero_add, Option.bind_some]
      rw [l3', Option.bind_some, refSize_ok, Option.bind_some]
      dsimp only
      rw [size_pos, hk]
      rfl
    have v2 := v1.upd0 (u2.drew)
    obtain ⟨w3, j3, b3, u3⟩ := v2.bk.stC (i := i) (by rw [Th.len]; omega) (.pointer none)
    rw [t.set_s hi] at b3
    obtain ⟨w4, j4, b4, u4⟩ := b3.stA (o := 6 + i * 4) (vs := Fd.none_.cells.toArray) (by rw [Th.len]; show 6 + i * 4 + 4 ≤ 21; omega) Fd.none_.one
    rw [show Fd.none_.cells.toArray.toList = Fd.none_.cells from rfl, Th.set_f _ hi] at b4
    have uA : Upd (· = gt) w w4 := (((u1.and0 u2).drew.mono (T := (· = gt)) fun _ _ e => e.elim).trans' u3 fun _ _ e => e).trans' u4 fun _ _ e => e
    have hX : ∀ k, k < w.heap.size → k = gt → ro k = 1 := fun k _ e => by rw [e]; exact v.rt
    refine v.good (ro' := ro) (t' := t.put false i none Fd.none_ t.left) uA (fun k hk e => by rw [hX k hk e]; decide) ?_ (v.put hi uA (fun k hk e => .inl (hX k hk e)) (fun _ _ => rfl) b4 (.inl ⟨rfl, rfl⟩) ⟨v.left.1, Int.le_refl _⟩) (Nat.le_refl _)
    rw [j2, bnd_ok]
    dsimp only
    rw [hs0, bnd_ok]
    dsimp only
    rw [if_neg (by decide), j3, Option.bind_some, built114, Option.bind_some, if_pos (by rfl), j4, Option.bind_some, if_neg (by decide)]
  | true =>
    obtain ⟨w2, g, j2, m2, hg, u2⟩ := New_strm hK hk v1.T.to
    have b2 := b1.upd0 u2
    have l3' : ldI .i64 ⟨w.heap.size, 3, none⟩ w2.drew = some h := b2.drew.ldI rfl
    have hs0 : law01_three_begun_s0 K ⟨w.heap.size, 0, none⟩ (some ⟨g, 0, none⟩) 0 w2 = some ((false, ()), w2.drew) := by
      unfold law01_three_begun_s0 law01_num
      simp only [add_lit, Nat.zero_add, Option.bind_some]
      rw [l3', Option.bind_some, refSize_ok, Option.bind_some]
      dsimp only
      rw [size_pos, hk]
      rfl
    have v2 := v1.upd0 (u2.drew)
    have hs2 := u2.size
    obtain ⟨w3, j3, b3, u3⟩ := v2.bk.stC (i := i) (by rw [Th.len]; omega) (.pointer (some ⟨g, 0, none⟩))
    rw [t.set_s hi] at b3
    obtain ⟨w4, j4, b4, u4⟩ := b3.stA (o := 6 + i * 4) (vs := Fd.none_.cells.toArray) (by rw [Th.len]; show 6 + i * 4 + 4 ≤ 21; omega) Fd.none_.one
    rw [show Fd.none_.cells.toArray.toList = Fd.none_.cells from rfl, Th.set_f _ hi] at b4
    have hne : w.heap.size ≠ gt := by have := v.gtlt; omega
    have b34 := ((b2.drew.upd u3 hne).upd u4 hne).drew
    have l3'' : ldI .i64 ⟨w.heap.size, 3, none⟩ w4.drew = some h := b34.ldI rfl
    obtain ⟨w5, j5, b5, u5⟩ := b4.drew.stC (i := 6 + i * 4) (by rw [Th.len]; omega) (.int .i64 h)
    rw [Th.set_hash _ hi] at b5
    have b5 : Bk 117 w5 gt (t.put false i (some ⟨g, 0, none⟩) ⟨h, false, nilS, nilS⟩ t.left).cells := by
      have e : upd3 (upd3 t.f i Fd.none_) i { upd3 t.f i Fd.none_ i with hash := h } = upd3 t.f i ⟨h, false, nilS, nilS⟩ := by rw [upd3_upd3, upd3_same]; rfl
      have b5 : Bk 117 w5 gt { t with s := upd3 t.s i (some ⟨g, 0, none⟩), f := upd3 (upd3 t.f i Fd.none_) i { upd3 t.f i Fd.none_ i with hash := h } }.cells := b5
      rw [e] at b5; exact b5
    have ub : Upd (· = gt) w2.drew w5 := (u3.trans' u4 fun _ _ e => e).drew.trans' u5 fun _ _ e => e
    have uA : Upd (· = gt) w w5 := ((u1.and0 u2).drew.mono (T := (· = gt)) fun _ _ e => e.elim).trans' ub fun _ _ e => e
    have hX : ∀ k, k < w.heap.size → k = gt → ro k = 1 := fun k _ e => by rw [e]; exact v.rt
    have hsl : Slot w5 (ext w.heap.size ro fun _ => 4 + i) C S false i (some ⟨g, 0, none⟩) ⟨h, false, nilS, nilS⟩ t.left :=
      .inr ⟨g, [], [], rfl, ext_ge (by omega), hk, (StrmAt.upd (m2.upd0 (Upd.refl _ _).drew) ub (by omega)), rfl, (fun e => by cases e), Data.nil .., by have := v.left; simp only [List.length_nil]; omega⟩
    refine v.good (ro' := ext w.heap.size ro fun _ => 4 + i) (t' := t.put false i (some ⟨g, 0, none⟩) ⟨h, false, nilS, nilS⟩ t.left) uA (fun k hk e => by rw [hX k hk e]; decide) ?_ (v.put hi uA (fun k hk e => .inl (hX k hk e)) (fun k hk => ext_lt hk) b5 hsl ⟨v.left.1, Int.le_refl _⟩) (Nat.le_refl _)
    rw [j2, bnd_ok]
    dsimp only
    rw [hs0, bnd_ok]
    dsimp only
    rw [if_neg (by decide), j3, Option.bind_some, built114, Option.bind_some, if_pos (by rfl), j4, Option.bind_some, if_pos (by rfl), l3'', Option.bind_some, j5, Option.bind_some]

theorem keyed_ok {K : Nat} (hK : 18446744073709551616 ≤ K) {w : World} {B : Nat} {ro : Nat → Nat} {C S : List Int} {gt : Nat} {t : Th} {ke : List (Sl × List Int)} {we : List Sl} (v : Inv w B ro C S true gt t ke we) {i : Nat} (hi : i < 3) {kind at_ fr h : Int} {key parts : Sl} {ks : List Int} (dk : Data w ro key ks) :
    Good B C S true gt ke.length w (law01_three_keyed K (some ⟨gt, 0, none⟩) (i : Int) (opC kind at_ fr h key parts) w) := by
  obtain ⟨w1, n1, b1, u1, z1⟩ := newB_ok (opC kind at_ fr h key parts) 120 w
  have l3 : ∀ w', Bk 120 w' w.heap.size (opC kind at_ fr h key parts).toList → ldI .i64 ⟨w.heap.size, 3, none⟩ w' = some h := fun w' b => b.ldI rfl
  have l4 : ∀ w', Bk 120 w' w.heap.size (opC kind at_ fr h key parts).toList → ldS ⟨w.heap.size, 4, none⟩ w' = some key := fun w' b => b.ldS rfl
  have v1 := v.upd0 u1
  have d1 := dk.upd u1 (fun _ _ _ => id) (ro' := ro) fun _ _ => rfl
  have bi : (0 : Int) ≤ (i : Int) ∧ (i : Int) < ((3 : Nat) : Int) := by omega
  have hgt := v.gtlt
  have hkl : key.len = ks.length := by rw [dk.src.len, ints_length]
  unfold law01_three_keyed
  rw [n1, bnd_ok]
  simp only [add_lit, Nat.zero_add, Option.bind_some, if_pos bi, Int.toNat_natCast, Nat.mul_one, Nat.add_zero]
  rw [l4 _ b1, Option.bind_some]
  by_cases hc : ks.length > 65536
  · have hd : decide (((key.len : Nat) : Int) > 65536) = true := by rw [hkl]; simp only [decide_eq_true_eq]; omega
    rw [hd, if_pos rfl]
    exact v.good u1 (fun _ _ => False.elim) rfl v1 (Nat.le_refl _)
  have hd : decide (((key.len : Nat) : Int) > 65536) = false := by rw [hkl]; simp only [decide_eq_false_iff_not]; omega
  rw [hd, if_neg (by decide), Option.bind_some]
  obtain ⟨gk, cap, w2, j2, o2, hgk, u2⟩ := Bytes_ok hK d1.src (by omega)
  have hgk2 : gk < w2.heap.size := o2.lt rfl
  have v2 := v1.upd0 u2
  have b2 := b1.upd0 u2
  rw [j2, bnd_ok, l3 _ b2, Option.bind_some]
  have hne : w.heap.size ≠ gt := by omega
  have hkne : gk ≠ gt := by omega
  have hX : ∀ k, k < w.heap.size → k = gt → ro k = 1 := fun k _ e => by rw [e]; exact v.rt
  cases hk : known h with
  | false =>
    obtain ⟨w3, j3, u3⟩ := NewMac_none (K := K) hk ⟨some ⟨gk, 0, none⟩, ks.length, cap⟩ w2
    have b3 := (b2.upd0 u3).drew
    have o3 := (o2.upd0 u3).drew
    have d3 := (d1.upd (u2.and0 u3).drew (fun _ _ _ => id) (ro' := ro) fun _ _ => rfl)
    obtain ⟨w4, j4, u4⟩ := WholeBytes_ok hK o3 d3.src.rds (by omega)
    rw [decide_eq_true rfl] at j4
    have hs0 : law01_three_keyed_s0 K ⟨w.heap.size, 0, none⟩ ⟨some ⟨gk, 0, none⟩, ks.length, cap⟩ none 10 w3 = some ((false, ()), w4) := by
      unfold law01_three_keyed_s0 law01_num
      simp only [add_lit, Nat.zero_add, Option.bind_some]
      rw [l3 _ b3, Option.bind_some, refSize_ok, Option.bind_some]
      dsimp only
      rw [size_pos, hk, if_neg (by decide), if_pos (by decide), if_neg (by decide), if_neg (by decide), l4 _ b3, Option.bind_some, j4, bnd_ok]
      rfl
    have q4 : Upd none_ w2 w4 := u3.drew.and0 u4
    obtain ⟨w5, j5, u5⟩ := SpoilBytes_ok hK (marked_front (o3.upd0 u4)).vw (by omega)
    have u5 : Upd (· = gk) w4 w5 := u5.mono fun k _ e => (Option.some.inj e).symm
    have bk5 := (v2.bk.upd0 q4).upd u5 (show ¬ gt = gk by omega)
    obtain ⟨w6, j6, b6, u6⟩ := bk5.stC (i := 3 + i) (by rw [Th.len]; omega) (.pointer none)
    rw [t.set_m hi] at b6
    obtain ⟨w7, j7, b7, u7⟩ := b6.stA (o := 6 + i * 4) (vs := Fd.none_.cells.toArray) (by rw [Th.len]; show 6 + i * 4 + 4 ≤ 21; omega) Fd.none_.one
    rw [show Fd.none_.cells.toArray.toList = Fd.none_.cells from rfl, Th.set_f _ hi] at b7
    have uA : Upd (· = gt) w w7 := ((((u1.and0 u2).and0 q4).trans' u5 (S := none_) fun k hk e => by omega).mono (T := (· = gt)) fun _ _ e => e.elim).trans' (u6.trans' u7 fun _ _ e => e) fun _ _ e => e
    refine v.good (ro' := ro) (t' := t.put true i none Fd.none_ t.left) uA (fun k hk e => by rw [hX k hk e]; decide) ?_ (v.put hi uA (fun k hk e => .inl (hX k hk e)) (fun _ _ => rfl) b7 (.inl ⟨rfl, rfl⟩) ⟨v.left.1, Int.le_refl _⟩) (Nat.le_refl _)
    dsimp only
    rw [j3, bnd_ok]
    dsimp only
    rw [hs0, bnd_ok]
    dsimp only
    rw [if_neg (by decide), j5, bnd_ok, j6, Option.bind_some, built114, Option.bind_some, if_pos (by rfl), j7, Option.bind_some, if_neg (by decide)]
  | true =>
    obtain ⟨w3, g, j3, m3, hg, u3⟩ := NewMac_ok hK hk v2.T.to ((marked_front o2).src ints_one) d1.inn (by omega) (k := ⟨some ⟨gk, 0, none⟩, ks.length, cap⟩) (fun p hp => by obtain rfl := Option.some.inj hp; exact hgk2)
    have b3 := (b2.upd0 u3).drew
    have o3 := (o2.upd0 u3).drew
    have d3 := (d1.upd (u2.and0 u3).drew (fun _ _ _ => id) (ro' := ro) fun _ _ => rfl)
    obtain ⟨w4, j4, u4⟩ := WholeBytes_ok hK o3 d3.src.rds (by omega)
    rw [decide_eq_true rfl] at j4
    have hs0 : law01_three_keyed_s0 K ⟨w.heap.size, 0, none⟩ ⟨some ⟨gk, 0, none⟩, ks.length, cap⟩ (some ⟨g, 0, none⟩) 0 w3 = some ((false, ()), w4) := by
      unfold law01_three_keyed_s0 law01_num
      simp only [add_lit, Nat.zero_add, Option.bind_some]
      rw [l3 _ b3, Option.bind_some, refSize_ok, Option.bind_some]
      dsimp only
      rw [size_pos, hk, if_neg (by decide), if_neg (by decide), if_neg (by simp), l4 _ b3, Option.bind_some, j4, bnd_ok]
      rfl
    have q4 : Upd none_ w2 w4 := u3.drew.and0 u4
    obtain ⟨w5, j5, u5⟩ := SpoilBytes_ok hK (marked_front (o3.upd0 u4)).vw (by omega)
    have u5 : Upd (· = gk) w4 w5 := u5.mono fun k _ e => (Option.some.inj e).symm
    have bk5 := (v2.bk.upd0 q4).upd u5 (show ¬ gt = gk by omega)
    obtain ⟨w6, j6, b6, u6⟩ := bk5.stC (i := 3 + i) (by rw [Th.len]; omega) (.pointer (some ⟨g, 0, none⟩))
    rw [t.set_m hi] at b6
    obtain ⟨w7, j7, b7, u7⟩ := b6.stA (o := 6 + i * 4) (vs := Fd.none_.cells.toArray) (by rw [Th.len]; show 6 + i * 4 + 4 ≤ 21; omega) Fd.none_.one
    rw [show Fd.none_.cells.toArray.toList = Fd.none_.cells from rfl, Th.set_f _ hi] at b7
    have hwk : w.heap.size ≠ gk := by omega
    have b8 := (((((b3.upd0 u4).upd u5 hwk).upd u6 hne).upd u7 hne)).drew
    obtain ⟨w8, j8, b9, u8⟩ := b7.drew.stA (o := 6 + i * 4) (vs := (Fd.cells ⟨h, true, key, nilS⟩).toArray) (by rw [Th.len]; show 6 + i * 4 + 4 ≤ 21; omega) (Fd.one _)
    rw [show (Fd.cells ⟨h, true, key, nilS⟩).toArray.toList = Fd.cells ⟨h, true, key, nilS⟩ from rfl, Th.set_f _ hi] at b9
    have b9 : Bk 117 w8 gt (t.put true i (some ⟨g, 0, none⟩) ⟨h, true, key, nilS⟩ t.left).cells := by
      have e : upd3 (upd3 t.f i Fd.none_) i ⟨h, true, key, nilS⟩ = upd3 t.f i ⟨h, true, key, nilS⟩ := upd3_upd3 ..
      have b9 : Bk 117 w8 gt { t with m := upd3 t.m i (some ⟨g, 0, none⟩), f := upd3 (upd3 t.f i Fd.none_) i ⟨h, true, key, nilS⟩ }.cells := b9
      rw [e] at b9; exact b9
    have u78 : Upd (· = gt) w5 w8 := (u6.trans' u7 fun _ _ e => e).drew.trans' u8 fun _ _ e => e
    have uA : Upd (· = gt) w w8 := ((((u1.and0 u2).and0 q4).trans' u5 (S := none_) fun k hk e => by omega).mono (T := (· = gt)) fun _ _ e => e.elim).trans' u78 fun _ _ e => e
    have hs2 := u2.size
    have hm8 : MacAt w8 g C S h ks [] := ((m3.upd0 ((Upd.refl none_ w3).drew.and0 u4)).upd u5 (show ¬ g = gk by omega)).upd u78 (show ¬ g = gt by omega)
    have hsl : Slot w8 (ext w.heap.size ro fun _ => 4 + i) C S true i (some ⟨g, 0, none⟩) ⟨h, true, key, nilS⟩ t.left :=
      .inr ⟨g, ks, [], rfl, ext_ge (by omega), hk, hm8, rfl, (fun _ => ⟨dk.upd uA (fun k hk h0 e => by have := hX k hk e; omega) (fun k hk => ext_lt hk), by omega⟩), Data.nil .., by have := v.left; simp only [List.length_nil]; omega⟩
    refine v.good (ro' := ext w.heap.size ro fun _ => 4 + i) (t' := t.put true i (some ⟨g, 0, none⟩) ⟨h, true, key, nilS⟩ t.left) uA (fun k hk e => by rw [hX k hk e]; decide) ?_ (v.put hi uA (fun k hk e => .inl (hX k hk e)) (fun k hk => ext_lt hk) b9 hsl ⟨v.left.1, Int.le_refl _⟩) (Nat.le_refl _)
    dsimp only
    rw [j3, bnd_ok]
    dsimp only
    rw [hs0, bnd_ok]
    dsimp only
    rw [if_neg (by decide), j5, bnd_ok, j6, Option.bind_some, built114, Option.bind_some, if_pos (by rfl), j7, Option.bind_some, if_pos (by rfl), l3 _ b8, Option.bind_some, l4 _ b8, Option.bind_some, built114k, Option.bind_some, if_pos (by rfl), j8, Option.bind_some]

end Go.Sh

/- Three streams, or Macs: writes, reset, what is told. -/
set_option linter.unusedVariables false
namespace Go.Sh
open Go.Fw Go.Sha Go.RowKit Go.Proofs.Tryd Go.Deep

theorem known_ne0 {h : Int} (hk : known h = true) : (h == 0) = false := by
  rcases known_cases hk with e | e | e | e <;> subst e <;> rfl

theorem sel_m {t : Th} {i : Nat} : sel true t i = t.m i := rfl
theorem sel_s {t : Th} {i : Nat} : sel false t i = t.s i := rfl

theorem ldP_m {w : World} {gt : Nat} {t : Th} (b : Bk 117 w gt t.cells) {i : Nat} (hi : i < 3) : ldP ⟨gt, 3 + i, none⟩ w = some (sel true t i) := b.ldP (t.get_m hi)
theorem ldP_s {w : World} {gt : Nat} {t : Th} (b : Bk 117 w gt t.cells) {i : Nat} (hi : i < 3) : ldP ⟨gt, i, none⟩ w = some (sel false t i) := b.ldP (t.get_s hi)

theorem writes_s0_nil {K : Nat} {macs : Bool} {w : World} {gt : Nat} {t : Th} (b : Bk 117 w gt t.cells) {i : Nat} (hi : i < 3) (hp : sel macs t i = none) (l : Sl) (e : Int) :
    law01_three_writes_s0 K (some ⟨gt, 0, none⟩) (i : Int) l e macs w = some ((1, ()), w) := by
  have bi : (0 : Int) ≤ (i : Int) ∧ (i : Int) < ((3 : Nat) : Int) := by omega
  unfold law01_three_writes_s0 law01_num
  simp only [add_lit, Nat.zero_add, Option.bind_some, if_pos bi, Int.toNat_natCast, Nat.mul_one, Nat.add_zero]
  cases macs with
  | true =>
    rw [if_pos rfl, ldP_m b hi, hp, Option.bind_some]
    unfold digest_Mac_Write
    rw [if_pos (show (none : Option Addr).isNone = true from rfl), bnd_ok]
  | false =>
    rw [if_neg (by decide), ldP_s b hi, hp, Option.bind_some]
    unfold digest_Stream_Write
    rw [if_pos (show (none : Option Addr).isNone = true from rfl), bnd_ok]

theorem writes_s0_obj {K : Nat} (hK : 18446744073709551616 ≤ K) {macs : Bool} {w : World} {gt : Nat} {t : Th} (b : Bk 117 w gt t.cells) {i : Nat} (hi : i < 3) {g : Nat} (hp : sel macs t i = some ⟨g, 0, none⟩) {C S ks xs : List Int} {h : Int} (m : ObjAt macs w g C S h ks xs) (hk : known h = true) (T : Tabs w C S) (hg : 4 ≤ g) {l : Sl} {xss : List (List Int)} {Q : Nat → Prop} (P : Parts w l xss Q) (hQ : ¬ Q g) (hl : xs.length + xss.flatten.length ≤ 33554432) (e : Int) :
    ∃ w', law01_three_writes_s0 K (some ⟨gt, 0, none⟩) (i : Int) l e macs w = some ((0, ()), w') ∧ ObjAt macs w' g C S h ks (xs ++ xss.flatten) ∧ Upd (· = g) w w' := by
  have bi : (0 : Int) ≤ (i : Int) ∧ (i : Int) < ((3 : Nat) : Int) := by omega
  unfold law01_three_writes_s0 law01_num
  simp only [add_lit, Nat.zero_add, Option.bind_some, if_pos bi, Int.toNat_natCast, Nat.mul_one, Nat.add_zero]
  cases macs with
  | true =>
    obtain ⟨w', h1, h2, h3⟩ := MacWrite_ok hK hk T hg m hQ P hl
    refine ⟨w', ?_, h2, h3⟩
    rw [if_pos rfl, ldP_m b hi, hp, Option.bind_some, h1, bnd_ok]
  | false =>
    obtain ⟨w', h1, h2, h3⟩ := strm_write hK hk T hg m hQ P hl
    refine ⟨w', ?_, h2, h3⟩
    rw [if_neg (by decide), ldP_s b hi, hp, Option.bind_some, h1, bnd_ok]

theorem flat_in {xss : List (List Int)} (h : ∀ xs ∈ xss, ∀ x ∈ xs, InK .u8 x) : ∀ x ∈ xss.flatten, InK .u8 x := fun x hx => by
  obtain ⟨l, hl, hx⟩ := List.mem_flatten.1 hx
  exact h l hl x hx

theorem Slot.keep {w w' : World} {ro ro' : Nat → Nat} {C S : List Int} {macs : Bool} {i : Nat} {p : Option Addr} {f : Fd} {left : Int} {X : Nat → Prop} (s : Slot w ro C S macs i p f left) (u : Upd X w w') (hn : ∀ k, k < w.heap.size → ro k = 0 ∨ ro k = 4 + i → ¬ X k) (hr : ∀ k, k < w.heap.size → ro' k = ro k) {left' : Int} (hl : left' ≤ left) : Slot w' ro' C S macs i p f left' := s.upd u hn hr hl

theorem writes_ok {K : Nat} (hK : 18446744073709551616 ≤ K) {w : World} {B : Nat} {ro : Nat → Nat} {C S : List Int} {macs : Bool} {gt : Nat} {t : Th} {ke : List (Sl × List Int)} {we : List Sl} (v : Inv w B ro C S macs gt t ke we) {i : Nat} (hi : i < 3) {kind at_ fr h : Int} {key parts : Sl} {xss : List (List Int)} {Q : Nat → Prop} (hp : PartsW w parts xss Q) (hQ : ∀ k, Q k → k < B) :
    Good B C S macs gt ke.length w (law01_three_writes K (some ⟨gt, 0, none⟩) (i : Int) (opC kind at_ fr h key parts) macs w) := by
  obtain ⟨w1, n1, b1, u1, z1⟩ := newB_ok (opC kind at_ fr h key parts) 120 w
  have l5 : ∀ w', Bk 120 w' w.heap.size (opC kind at_ fr h key parts).toList → ldS ⟨w.heap.size, 5, none⟩ w' = some parts := fun w' b => b.ldS rfl
  have v1 := v.upd0 u1
  have bi : (0 : Int) ≤ (i : Int) ∧ (i : Int) < ((3 : Nat) : Int) := by omega
  have hgt := v.gtlt
  have hbw := v.bw
  have hb4 := v.b4
  have hlf := v.left
  obtain ⟨sJ, w2, j2, oJ, u2, fJ⟩ := joined_ok hK (hp.upd0 u1) (fun k hk => by have := hQ k hk; have := u1.size; omega)
  have hjl : sJ.len = (jn [] xss).length := by rw [oJ.len, ints_length]
  have v2 := v1.upd0 u2
  have b2 := b1.upd0 u2
  have q2 := u1.and0 u2
  have hs1 := u1.size
  have hs2 := u2.size
  have lL : ldI .i64 ⟨gt, 20, none⟩ w2 = some t.left := v2.bk.ldI rfl
  unfold law01_three_writes
  rw [n1, bnd_ok]
  simp only [add_lit, Nat.zero_add, Option.bind_some, if_pos bi, Int.toNat_natCast, Nat.mul_one, Nat.add_zero]
  rw [l5 _ b1, Option.bind_some, j2, bnd_ok, lL, Option.bind_some]
  dsimp only
  by_cases hc : ((jn [] xss).length : Int) > t.left
  · have hd : decide (((sJ.len : Nat) : Int) > t.left) = true := by rw [hjl]; simpa using hc
    rw [hd, if_pos rfl]
    exact v.good q2 (fun _ _ => False.elim) rfl (v.upd0 q2) (Nat.le_refl _)
  have hd : decide (((sJ.len : Nat) : Int) > t.left) = false := by rw [hjl]; simpa using hc
  rw [hd, if_neg (by decide), Option.bind_some]
  have hj := jn_le xss [] (by omega)
  rw [List.nil_append] at hj
  rw [hj] at oJ hjl hc
  have hxin := flat_in hp.inn
  have ew : IntKind.i64.wrap (t.left - ((sJ.len : Nat) : Int)) = t.left - (xss.flatten.length : Int) := by rw [hjl, w64 (by omega) (by omega)]
  rw [ew]
  generalize hL' : t.left - (xss.flatten.length : Int) = L'
  have hL0 : 0 ≤ L' ∧ L' ≤ t.left := by omega
  obtain ⟨w3, j3, b3, u3⟩ := v2.bk.stC (i := 20) (by rw [Th.len]; decide) (.int .i64 L')
  rw [t.set_left] at b3
  have hX : ∀ k, k < w.heap.size → k = gt → ro k = 1 := fun k _ e => by rw [e]; exact v.rt
  have q3 : Upd (· = gt) w w3 := (q2.mono (T := (· = gt)) fun _ _ e => e.elim).trans' u3 fun _ _ e => e
  have hs3 := u3.size
  have hne : w.heap.size ≠ gt := by omega
  have b3o := b2.upd u3 hne
  rw [j3, Option.bind_some, l5 _ b3o, Option.bind_some]
  have hp3 := hp.upd q3 fun k hk e => by have := hQ k hk; omega
  obtain ⟨l, w4, ps, j4, e4, D4, f4, u4⟩ := lentD_ok hK hp3 (fun k hk => by have := hQ k hk; omega)
  have hs4 := u4.size
  have P4 := (D4.lent f4 (Nat.le_refl _)).parts (by rw [e4]; exact hp)
  rw [e4] at P4
  have q4 : Upd (· = gt) w w4 := q3.and0 u4
  have b4 := b3.upd0 u4
  have T4 := v.T.upd q4 fun k hk e => by omega
  rw [j4, bnd_ok]
  dsimp only
  have hmany := hp.many
  have hpslen : ps.length = xss.length := by rw [← e4]; simp
  have hplens : ∀ p ∈ ps, p.2.length ≤ 140737488351232 := fun p hp' => hp.lens _ (by rw [← e4]; exact List.mem_map_of_mem hp')
  -- what all this does behind the write
  have tail : ∀ (X : Nat → Prop) (wA : World) (ec : Int), (∀ k, X k → k < w.heap.size ∧ ro k = 4 + i) → Upd X w4 wA →
      ∃ wB wC, law01_whole K l parts wA = some ((true, ()), wB) ∧ law01_three_writes_l1 K K (some ⟨gt, 0, none⟩) (i : Int) sJ l ec 0 wB = some ((), wC) ∧ Upd (fun k => k = gt ∨ X k) w wC ∧ Upd (fun k => w3.heap.size ≤ k ∧ k < w4.heap.size) wA wC := by
    intro X wA ec hX uA
    have hpA := (hp3.upd u4 (fun _ _ => id)).upd uA fun k hk e => by have := hQ k hk; have := v.low k (by omega); have := hX k e; omega
    have DA := D4.upd f4 uA fun k h1 h2 e => by have := hX k e; omega
    obtain ⟨wB, k1, uB⟩ := whole_ok hK hpA (by have := DA.lent f4 uA.size; rw [e4] at this; exact this)
    have DB := DA.upd f4 uB fun _ _ _ => id
    obtain ⟨wC, k2, uC⟩ := spoil_lent hK (t0 := some ⟨gt, 0, none⟩) (i1 := (i : Int)) (e11 := ec) (all9 := sJ) D4.2.2 hplens (by omega) ps.length 0 K wB (by omega) (by omega) DB.1 fun j p _ hj => DB.2.1 p (List.mem_of_getElem? hj)
    refine ⟨wB, wC, k1, k2, ?_, (uB.mono (T := fun k => w3.heap.size ≤ k ∧ k < w4.heap.size) fun _ _ e => e.elim).trans' uC fun _ _ e => e⟩
    exact ((((q4.mono (T := fun k => k = gt ∨ X k) fun _ _ e => .inl e).trans' uA fun _ _ e => .inr e).and0 uB).trans' uC) fun k hk e => by omega
  have hsl := v.slots i hi
  rcases hsl with ⟨hp0, hf0⟩ | ⟨g, ks, xs, e1, e2, e3, e5, e6, e7, e8, e9⟩
  · have hp0 : sel macs t i = none := hp0
    have jw := writes_s0_nil (K := K) b4 hi (show sel macs { t with left := L' } i = none from hp0) l 0
    obtain ⟨wB, wC, k1, k2, uC, uD⟩ := tail none_ w4 1 (fun _ => False.elim) (Upd.refl _ _)
    have uC : Upd (· = gt) w wC := uC.mono fun _ _ e => e.resolve_right id
    have bC := b4.upd uD fun e => by omega
    have lh : ldI .i64 ⟨gt, 6 + i * 4, none⟩ wC = some 0 := by
      have := bC.ldI (Th.get_hash _ hi)
      rw [this]; show some (t.f i).hash = _; rw [hf0]; rfl
    have bC : Bk 117 wC gt (t.put macs i (sel macs t i) (t.f i) L').cells := by rw [put_self, upd3_self]; exact bC
    rw [jw, bnd_ok]
    dsimp only
    rw [l5 _ (b3o.upd0 u4), Option.bind_some, k1, bnd_ok]
    dsimp only
    rw [if_neg (by decide)]
    rw [k2, bnd_ok, lh, Option.bind_some, if_pos (by decide)]
    exact v.good uC (fun k hk e => by rw [hX k hk e]; decide) rfl (v.put hi uC (fun k hk e => .inl (hX k hk e)) (fun _ _ => rfl) bC (.inl ⟨hp0, hf0⟩) hL0) (Nat.le_refl _)
  · have e1 : sel macs t i = some ⟨g, 0, none⟩ := e1
    have hg := e5.lt
    have hgB : B ≤ g := by
      rcases Nat.lt_or_ge g B with e | e
      · have := v.low g e; omega
      · exact e
    have hggt : g ≠ gt := fun e => by have := v.rt; rw [← e] at this; omega
    obtain ⟨wA, jw, mA, uA⟩ := writes_s0_obj hK b4 hi (show sel macs { t with left := L' } i = some ⟨g, 0, none⟩ from e1) (e5.upd q4 hggt) e3 T4.to (by omega) P4 (show ¬ (w3.heap.size ≤ g ∧ g < w4.heap.size) by omega) (by have := hlf; omega) 0
    obtain ⟨wB, wC, k1, k2, uC, uD⟩ := tail (· = g) wA 0 (fun k e => by subst e; exact ⟨hg, e2⟩) uA
    have bC := (b4.upd uA (show ¬ gt = g from fun e => hggt e.symm)).upd uD fun e => by omega
    have lh : ldI .i64 ⟨gt, 6 + i * 4, none⟩ wC = some (t.f i).hash := bC.ldI (Th.get_hash _ hi)
    have lb : ldS ⟨gt, 6 + i * 4 + 3, none⟩ wC = some (t.f i).bytes := bC.ldS (Th.get_bytes _ hi)
    have hXg : ∀ k, k < w.heap.size → (k = gt ∨ k = g) → ro k = 1 ∨ ro k = 4 + i := fun k _ e => by
      rcases e with e | e
      · rw [e]; exact .inl v.rt
      · rw [e]; exact .inr e2
    have dC := e8.upd uC (fun k hk h0 e => by have := hXg k hk e; omega) (ro' := ro) fun _ _ => rfl
    have oC := (((oJ.upd u3 fun k hk e => by have := fJ k hk; omega).upd0 u4).upd uA fun k hk e => by have := fJ k hk; omega).upd uD fun k hk e => by have := oJ.lt hk; omega
    obtain ⟨s1, wE, s2, wF, a1, a2, oF, uF, fF⟩ := app2_ok dC.src (oC.src ints_one) (by omega)
    obtain ⟨wG, j9, bG, uG⟩ := (bC.upd0 uF).stC (i := 6 + i * 4 + 3) (by rw [Th.len]; omega) (.slice s2.a s2.len s2.cap)
    have bG : Bk 117 wG gt (t.put macs i (sel macs t i) { t.f i with bytes := s2 } L').cells := by
      rw [put_self]
      have e := Th.set_bytes { t with left := L' } hi s2
      have bG : Bk 117 wG gt (Th.cells { t with left := L' } |>.set (6 + i * 4 + 3) (slV s2)) := bG
      rw [e] at bG; exact bG
    have hsC := uC.size
    have hsF := uF.size
    have uT : Upd (fun k => k = gt ∨ k = g) w wG := (uC.and0 uF).trans' uG fun _ _ e => .inl e
    have mG : ObjAt macs wG g C S (t.f i).hash ks (xs ++ xss.flatten) := ((mA.upd uD fun e => by omega).upd uF id).upd uG hggt
    have hsl' : Slot wG (ext w.heap.size ro fun _ => 0) C S macs i (sel macs t i) { t.f i with bytes := s2 } L' := by
      refine .inr ⟨g, ks, xs ++ xss.flatten, e1, by rw [ext_lt hg]; exact e2, e3, mG, e6, fun e => ⟨(e7 e).1.upd uT (fun k hk h0 e => by have := hXg k hk e; omega) (fun k hk => ext_lt hk), (e7 e).2⟩, ?_, by rw [List.length_append]; omega⟩
      refine ⟨(oF.upd uG fun k hk e => by have := fF k hk; omega).src ints_one, fun x hx => ?_, fun q hq _ => ?_⟩
      · rcases List.mem_append.1 hx with h | h
        · exact e8.inn x h
        · exact hxin x h
      · have hq : s2.a = some q := hq
        have := fF q.block (by simp [Sl.blk, hq])
        exact ext_ge (by omega)
    rw [jw, bnd_ok]
    dsimp only
    rw [l5 _ ((b3o.upd0 u4).upd uA (show ¬ w.heap.size = g by omega)), Option.bind_some, k1, bnd_ok]
    try dsimp only
    rw [if_neg (by decide), k2, bnd_ok, lh, Option.bind_some, known_ne0 e3, if_neg (by decide), lb, Option.bind_some, a1, bnd_ok]
    try dsimp only
    rw [a2, bnd_ok, j9, Option.bind_some]
    exact v.good uT (fun k hk e => by have := hXg k hk e; omega) rfl (v.put hi uT hXg (fun k hk => ext_lt hk) bG hsl' hL0) (Nat.le_refl _)

/-! ### reset -/
theorem reset_s0_nil {K : Nat} {macs : Bool} {w : World} {gt : Nat} {t : Th} (b : Bk 117 w gt t.cells) {i : Nat} (hi : i < 3) (hp : sel macs t i = none) (e : Int) :
    law01_three_reset_s0 K (some ⟨gt, 0, none⟩) (i : Int) e macs w = some ((1, ()), w) := by
  have bi : (0 : Int) ≤ (i : Int) ∧ (i : Int) < ((3 : Nat) : Int) := by omega
  unfold law01_three_reset_s0 law01_num
  simp only [add_lit, Nat.zero_add, Option.bind_some, if_pos bi, Int.toNat_natCast, Nat.mul_one, Nat.add_zero]
  cases macs with
  | true =>
    rw [if_pos rfl, ldP_m b hi, hp, Option.bind_some]
    unfold digest_Mac_Reset
    rw [if_pos (show (none : Option Addr).isNone = true from rfl), bnd_ok]
  | false =>
    rw [if_neg (by decide), ldP_s b hi, hp, Option.bind_some]
    unfold digest_Stream_Reset
    rw [if_pos (show (none : Option Addr).isNone = true from rfl), bnd_ok]

theorem reset_s0_obj {K : Nat} (hK : 18446744073709551616 ≤ K) {macs : Bool} {w : World} {gt : Nat} {t : Th} (b : Bk 117 w gt t.cells) {i : Nat} (hi : i < 3) {g : Nat} (hp : sel macs t i = some ⟨g, 0, none⟩) {C S ks xs : List Int} {h : Int} (m : ObjAt macs w g C S h ks xs) (hk : known h = true) (T : Tabs w C S) (e : Int) :
    ∃ w', law01_three_reset_s0 K (some ⟨gt, 0, none⟩) (i : Int) e macs w = some ((0, ()), w') ∧ ObjAt macs w' g C S h ks [] ∧ Upd (· = g) w w' := by
  have bi : (0 : Int) ≤ (i : Int) ∧ (i : Int) < ((3 : Nat) : Int) := by omega
  unfold law01_three_reset_s0 law01_num
  simp only [add_lit, Nat.zero_add, Option.bind_some, if_pos bi, Int.toNat_natCast, Nat.mul_one, Nat.add_zero]
  cases macs with
  | true =>
    obtain ⟨w', h1, h2, h3⟩ := mac_reset m
    refine ⟨w', ?_, h2, h3⟩
    rw [if_pos rfl, ldP_m b hi, hp, Option.bind_some, h1, bnd_ok]
  | false =>
    obtain ⟨w', h1, h2, h3⟩ := strm_reset hK hk T m
    refine ⟨w', ?_, h2, h3⟩
    rw [if_neg (by decide), ldP_s b hi, hp, Option.bind_some, h1, bnd_ok]

theorem reset_ok {K : Nat} (hK : 18446744073709551616 ≤ K) {w : World} {B : Nat} {ro : Nat → Nat} {C S : List Int} {macs : Bool} {gt : Nat} {t : Th} {ke : List (Sl × List Int)} {we : List Sl} (v : Inv w B ro C S macs gt t ke we) {i : Nat} (hi : i < 3) :
    Good B C S macs gt ke.length w (law01_three_reset K (some ⟨gt, 0, none⟩) (i : Int) macs w) := by
  have bi : (0 : Int) ≤ (i : Int) ∧ (i : Int) < ((3 : Nat) : Int) := by omega
  have hgt := v.gtlt
  unfold law01_three_reset
  simp only [add_lit, Nat.zero_add, Option.bind_some, if_pos bi, Int.toNat_natCast, Nat.mul_one, Nat.add_zero]
  rcases v.slots i hi with ⟨hp0, hf0⟩ | ⟨g, ks, xs, e1, e2, e3, e5, e6, e7, e8, e9⟩
  · have hp0 : sel macs t i = none := hp0
    have lh : ldI .i64 ⟨gt, 6 + i * 4, none⟩ w = some 0 := by
      rw [v.bk.ldI (Th.get_hash _ hi), hf0]; rfl
    rw [reset_s0_nil v.bk hi hp0, bnd_ok, lh, Option.bind_some, if_pos (by decide)]
    exact v.good (Upd.refl none_ w) (fun _ _ => False.elim) rfl v (Nat.le_refl _)
  · have e1 : sel macs t i = some ⟨g, 0, none⟩ := e1
    have hg := e5.lt
    have hggt : g ≠ gt := fun e => by have := v.rt; rw [← e] at this; omega
    obtain ⟨w1, j1, m1, u1⟩ := reset_s0_obj hK v.bk hi e1 e5 e3 v.T.to 0
    have b1 := v.bk.upd u1 (show ¬ gt = g from fun e => hggt e.symm)
    have lh : ldI .i64 ⟨gt, 6 + i * 4, none⟩ w1 = some (t.f i).hash := b1.ldI (Th.get_hash _ hi)
    obtain ⟨w2, j2, b2, u2⟩ := b1.stC (i := 6 + i * 4 + 3) (by rw [Th.len]; omega) (.slice none 0 0)
    have hXg : ∀ k, k < w.heap.size → (k = gt ∨ k = g) → ro k = 1 ∨ ro k = 4 + i := fun k _ e => by
      rcases e with e | e
      · rw [e]; exact .inl v.rt
      · rw [e]; exact .inr e2
    have uT : Upd (fun k => k = gt ∨ k = g) w w2 := (u1.mono (T := fun k => k = gt ∨ k = g) fun _ _ e => .inr e).trans' u2 fun _ _ e => .inl e
    have b2 : Bk 117 w2 gt (t.put macs i (sel macs t i) { t.f i with bytes := nilS } t.left).cells := by
      rw [put_self]
      have e := Th.set_bytes t hi nilS
      have b2 : Bk 117 w2 gt (t.cells.set (6 + i * 4 + 3) (slV nilS)) := b2
      rw [e] at b2; exact b2
    have hsl : Slot w2 ro C S macs i (sel macs t i) { t.f i with bytes := nilS } t.left :=
      .inr ⟨g, ks, [], e1, e2, e3, m1.upd u2 hggt, e6, fun e => ⟨(e7 e).1.upd uT (fun k hk h0 e => by have := hXg k hk e; omega) (fun _ _ => rfl), (e7 e).2⟩, Data.nil .., by have := v.left; simp only [List.length_nil]; omega⟩
    rw [j1, bnd_ok, lh, Option.bind_some, known_ne0 e3, if_neg (by decide), j2, Option.bind_some]
    exact v.good uT (fun k hk e => by have := hXg k hk e; omega) rfl (v.put hi uT hXg (fun _ _ => rfl) b2 hsl ⟨v.left.1, Int.le_refl _⟩) (Nat.le_refl _)

end Go.Sh

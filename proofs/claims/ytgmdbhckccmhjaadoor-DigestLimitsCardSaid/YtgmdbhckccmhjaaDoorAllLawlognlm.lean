/- Texts of this claim, put together: Mac, None, Code, Expand, RefExpand, Codes, Expands, OpenS, Strm, Full, Limits -/
import Derived.Test.YtgmdbhckccmhjaaDoorAllLawmoekla
import Derived.Laws.OwnMore
import Derived.Test.YtgmdbhckccmhjaaDoorAllShmcaeef
/- HMAC of package digest: a key is taken in; its code is told. -/
set_option linter.unusedVariables false
namespace Go.Fw
/-- a struct of two fields is built of them -/
theorem built_two {P : Program} {t : TypeId} {it : TypeInfo} {f0 f1 : Field} {z : Value} (h1 : P.info? t = some it) (h2 : P.underlying t = some (.struct #[f0, f1])) (h3 : it.zero = some z) {i0 i1 : TypeInfo} (h4 : P.info? f0.type = some i0) (h5 : P.info? f1.type = some i1) (h6 : f0.offset = 0) (h7 : f1.offset = i0.size)
    {vs us : List Value} (h8 : vs.length = i0.size) (h9 : us.length = i1.size) (h10 : z.cells.size = i0.size + i1.size) :
    P.built t [(0, .agg vs.toArray), (1, .agg us.toArray)] = some (vs ++ us).toArray := by
  unfold Program.built
  simp only [h1, h2, h3]
  simp only [List.mapM_cons, List.mapM_nil, h4, h5, Option.map_some, Option.bind_eq_bind, Option.bind_some, Option.pure_def, h6, h7]
  unfold Instr.fill
  have c : (Value.agg vs.toArray).cells = vs.toArray := rfl
  have c2 : (Value.agg us.toArray).cells = us.toArray := rfl
  simp only [c]
  have e0 : (#[((0 : Nat), i0.size), (i0.size, i1.size)] : Array (Nat × Nat))[0]? = some (0, i0.size) := rfl
  have e1 : (#[((0 : Nat), i0.size), (i0.size, i1.size)] : Array (Nat × Nat))[1]? = some (i0.size, i1.size) := rfl
  rw [e0]
  dsimp only
  have hz : z.cells.toList.length = z.cells.size := Array.length_toList
  have a1 := fold_seg vs 0 0 z.cells (by omega)
  have hs1 : (vs.zipIdx.foldl (fun cs p => cs.setIfInBounds (0 + p.2) p.1) z.cells).size = z.cells.size := by
    have := congrArg List.length a1
    rw [seg_length (by omega)] at this
    simpa using this
  rw [if_neg (by simp [h8, h10])]
  unfold Instr.fill
  simp only [c2]
  rw [e1]
  dsimp only
  have fe : ∀ (a : Array Value) (l : List Value) (o : Nat), l.toArray.zipIdx.foldl (fun cs (p : Value × Nat) => cs.setIfInBounds (o + p.2) p.1) a = l.zipIdx.foldl (fun cs p => cs.setIfInBounds (o + p.2) p.1) a := by
    intro a l o
    rw [← Array.foldl_toList, Array.toList_zipIdx]
  have hs2 : (vs.toArray.zipIdx.foldl (fun cs (p : Value × Nat) => cs.setIfInBounds (0 + p.2) p.1) z.cells).size = z.cells.size := by rw [fe]; exact hs1
  rw [if_neg (by simp only [List.size_toArray, h9, hs2, h10]; simp)]
  unfold Instr.fill
  congr 1
  rw [fe, fe]
  apply Array.ext'
  have a2 := fold_seg us 0 i0.size (vs.zipIdx.foldl (fun cs p => cs.setIfInBounds (0 + p.2) p.1) z.cells) (by omega)
  refine Eq.trans a2 ?_
  rw [a1]
  unfold seg
  simp only [List.take_zero, List.nil_append, Nat.zero_add, Nat.add_zero]
  have : (z.cells.toList.drop vs.length).length = us.length := by rw [List.length_drop]; omega
  rw [← h8, List.take_left, List.drop_append, List.drop_eq_nil_of_le (show vs.length ≤ vs.length + us.length by omega)]
  rw [List.drop_eq_nil_of_le (by rw [List.length_drop]; omega)]
  simp
end Go.Fw
namespace Go.Sh
open Go.Fw Go.Sha Go.RowKit Go.Proofs.Tryd

theorem built89 {a b : List Value} (ha : a.length = 142) (hb : b.length = 142) : prog.built 89 [(0, (.agg a.toArray)), (1, (.agg b.toArray))] = some (a ++ b).toArray :=
  built_two (P := prog) (t := 89) (it := t89) (f0 := { name := "inner", type := 87, offset := 0, embedded := false, tag := "", pkgPath := "coffer/digest", byteOffset := 0 }) (f1 := { name := "outer", type := 87, offset := 142, embedded := false, tag := "", pkgPath := "coffer/digest", byteOffset := 240 }) (z := .agg z89)
    (by kernel_rfl) (by kernel_rfl) (by kernel_rfl) (i0 := t87) (i1 := t87) (by kernel_rfl) (by kernel_rfl) rfl (by kernel_rfl) (by rw [ha]; kernel_rfl) (by rw [hb]; kernel_rfl) (by kernel_rfl)

/-- every byte with a number -/
def xorB (c : Int) (l : List Int) : List Int := l.map fun x => bits .xor .u8 x c
/-- a key with zeros behind it, a block's bytes in all -/
def padK (h : Int) (l : List Int) : List Int := l ++ List.replicate (blk h - l.length) 0
/-- a key, or its digest, if it is longer than a block -/
def keyH (C S : List Int) (h : Int) (ks : List Int) : List Int := if ks.length > blk h then digestOf h C (firstH S h) ks else ks
def ipad (C S : List Int) (h : Int) (ks : List Int) : List Int := xorB 54 (padK h (keyH C S h ks))
def opad (C S : List Int) (h : Int) (ks : List Int) : List Int := xorB 92 (padK h (keyH C S h ks))
/-- the code of bytes under a key -/
def macOf (C S : List Int) (h : Int) (ks xs : List Int) : List Int := digestOf h C (firstH S h) (opad C S h ks ++ digestOf h C (firstH S h) (ipad C S h ks ++ xs))
/-- .. nothing of no such digest -/
def codeOf (C S : List Int) (h : Int) (ks xs : List Int) : List Int := if known h = true then macOf C S h ks xs else []

theorem xorB_len (c : Int) (l : List Int) : (xorB c l).length = l.length := List.length_map ..
theorem xorB_in {c : Int} (hc : InK .u8 c) {l : List Int} (h : ∀ x ∈ l, InK .u8 x) : ∀ x ∈ xorB c l, InK .u8 x := by
  intro x hx
  obtain ⟨y, hy, rfl⟩ := List.mem_map.1 hx
  exact InK.xor rfl (h y hy) hc
theorem in54 : InK .u8 54 := ⟨by decide, by decide⟩
theorem in92 : InK .u8 92 := ⟨by decide, by decide⟩
theorem in0 : InK .u8 0 := ⟨by decide, by decide⟩
theorem padK_in {h : Int} {l : List Int} (hl : ∀ x ∈ l, InK .u8 x) : ∀ x ∈ padK h l, InK .u8 x := by
  intro x hx
  rcases List.mem_append.1 hx with hx | hx
  · exact hl x hx
  · rw [(List.mem_replicate.1 hx).2]; exact in0
theorem digestOf_lt {h : Int} (hk : known h = true) (C H0 xs : List Int) : (digestOf h C H0 xs).length ≤ blk h := by
  have := digestOf_len h C H0 xs
  have := known_blk hk
  omega
theorem keyH_len {h : Int} (hk : known h = true) (C S ks : List Int) : (keyH C S h ks).length ≤ blk h := by
  unfold keyH; split
  · exact digestOf_lt hk ..
  · omega
theorem keyH_in {h : Int} (C S : List Int) {ks : List Int} (hl : ∀ x ∈ ks, InK .u8 x) : ∀ x ∈ keyH C S h ks, InK .u8 x := by
  unfold keyH; split
  · exact digestOf_in h C _ ks
  · exact hl
theorem padK_len {h : Int} {l : List Int} (hl : l.length ≤ blk h) : (padK h l).length = blk h := by
  unfold padK; rw [List.length_append, List.length_replicate]; omega
theorem ipad_len {h : Int} (hk : known h = true) (C S ks : List Int) : (ipad C S h ks).length = blk h := by unfold ipad; rw [xorB_len, padK_len (keyH_len hk ..)]
theorem opad_len {h : Int} (hk : known h = true) (C S ks : List Int) : (opad C S h ks).length = blk h := by unfold opad; rw [xorB_len, padK_len (keyH_len hk ..)]
theorem ipad_in {h : Int} (C S : List Int) {ks : List Int} (hl : ∀ x ∈ ks, InK .u8 x) : ∀ x ∈ ipad C S h ks, InK .u8 x := xorB_in in54 (padK_in (keyH_in C S hl))
theorem opad_in {h : Int} (C S : List Int) {ks : List Int} (hl : ∀ x ∈ ks, InK .u8 x) : ∀ x ∈ opad C S h ks, InK .u8 x := xorB_in in92 (padK_in (keyH_in C S hl))

/-! ### A digest in the midst, in a row of cells -/

theorem st_mk {w : World} {e : TypeId} {g : Nat} {pre post : List Value} {h : Int} {cnt : Nat} {H half : List Int} (hH : H.length = 8) (hh : half.length = 128) (hi : ∀ x ∈ half, InK .u8 x) {o : Nat} (ho : pre.length = o)
    (hb : Bk e w g (pre ++ stCells h cnt H half ++ post)) : StAt w e g o (pre ++ stCells h cnt H half ++ post) h cnt H half := by
  have hl := stCells_len h cnt hH hh
  refine ⟨?_, by rw [List.length_append, List.length_append]; omega, hH, hh, hi⟩
  have : seg (pre ++ stCells h cnt H half ++ post) o (stCells h cnt H half) = pre ++ stCells h cnt H half ++ post := by
    unfold seg
    subst ho
    have e1 : (pre ++ stCells h cnt H half ++ post).take pre.length = pre := by rw [List.append_assoc, List.take_left]
    have e2 : (pre ++ stCells h cnt H half ++ post).drop (pre.length + (stCells h cnt H half).length) = post := by rw [← List.length_append, List.drop_left]
    rw [e1, e2]
  rw [this]; exact hb

theorem StAt.cells {w : World} {e : TypeId} {g o : Nat} {pre old post : List Value} {h : Int} {cnt : Nat} {H half : List Int} (s : StAt w e g o (pre ++ old ++ post) h cnt H half) (ho : pre.length = o) (hl : old.length = 142) : Bk e w g (pre ++ stCells h cnt H half ++ post) := by
  have hsl := stCells_len h cnt s.words s.len
  have : seg (pre ++ old ++ post) o (stCells h cnt H half) = pre ++ stCells h cnt H half ++ post := by
    unfold seg
    subst ho
    have e1 : (pre ++ old ++ post).take pre.length = pre := by rw [List.append_assoc, List.take_left]
    have e2 : (pre ++ old ++ post).drop (pre.length + (stCells h cnt H half).length) = post := by rw [hsl, ← hl, ← List.length_append, List.drop_left]
    rw [e1, e2]
  rw [← this]; exact s.bk

theorem _root_.Go.Sha.Fed.H8 {h : Int} {C S xs H half : List Int} (f : Fed h C (firstH S h) xs H half) : H.length = 8 := by rw [f.words]; exact compsH_len _ _ _ _ _ (firstH_len S h)

/-- the cells of a digest that was fed -/
structure StC (C S : List Int) (h : Int) (xs : List Int) (cs : List Value) : Prop where
  ex : ∃ H half, cs = stCells h xs.length H half ∧ Fed h C (firstH S h) xs H half ∧ ∀ x ∈ half, InK .u8 x

theorem StC.len {C S : List Int} {h : Int} {xs : List Int} {cs : List Value} (s : StC C S h xs cs) : cs.length = 142 := by
  obtain ⟨H, half, rfl, f, _⟩ := s.ex
  exact stCells_len _ _ f.H8 f.len
theorem StC.one {C S : List Int} {h : Int} {xs : List Int} {cs : List Value} (s : StC C S h xs cs) : ∀ v ∈ cs, v.oneCell' = true := by
  obtain ⟨H, half, rfl, f, _⟩ := s.ex
  exact stCells_one _ _ _ _
theorem StC.start (C S : List Int) (h : Int) : StC C S h [] (stCells h 0 (firstH S h) half0) := ⟨_, _, rfl, Fed.start .., half0_in⟩

/-- take, on cells -/
theorem take_cells {K : Nat} (hK : 18446744073709551616 ≤ K) {w : World} {e : TypeId} {g o : Nat} {pre old post : List Value} {h : Int} (hk : known h = true) {C S xs ys : List Int} (T : Tabs w C S) (s : StC C S h xs old) (hb : Bk e w g (pre ++ old ++ post)) (ho : pre.length = o) (hg : 4 ≤ g)
    {b : Sl} (hy : ∀ x ∈ ys, InK .u8 x) (hlim : xs.length + ys.length ≤ 140737488355328) (hx : Src w b (ints .u8 ys)) (hbg : ∀ p, b.a = some p → p.block ≠ g) (hbv : ∀ p, b.a = some p → p.block < w.heap.size) :
    ∃ w' cs', digest_state_take K (some ⟨g, o, none⟩) b w = some ((), w') ∧ Bk e w' g (pre ++ cs' ++ post) ∧ StC C S h (xs ++ ys) cs' ∧ Upd (· = g) w w' := by
  have hol := s.len
  obtain ⟨H, half, rfl, f, hi⟩ := s.ex
  have st := st_mk f.H8 f.len hi ho hb
  obtain ⟨w', H', half', h1, h2, h3, h4⟩ := take_ok hK hk st f T.cl (show g ≠ 2 by omega) T.gc hy hlim hx hbg hbv
  exact ⟨w', _, h1, h2.cells ho hol, ⟨H', half', rfl, h3, h2.inn⟩, h4⟩

/-- end, on cells -/
theorem end_cells {K : Nat} (hK : 18446744073709551616 ≤ K) {w : World} {h : Int} (hk : known h = true) {C S xs : List Int} {cs : List Value} (T : Tabs w C S) (s : StC C S h xs cs) (hlim : xs.length ≤ 1099511627776) :
    ∃ s' w', digest_state_end K cs.toArray w = some ((s', ()), w') ∧ Ans w.heap.size w' s' (digestOf h C (firstH S h) xs) ∧ Upd none_ w w' := by
  obtain ⟨H, half, rfl, f, hi⟩ := s.ex
  exact end_ok hK hk f f.H8 hi T.cl T.gc hlim

/-! ### The key -/

def mx (c : Int) (xs : List Int) (i : Nat) : List Int := xorB c (xs.take i) ++ xs.drop i

theorem mx_len (c : Int) (xs : List Int) (i : Nat) : (mx c xs i).length = xs.length := by
  unfold mx; rw [List.length_append, xorB_len, List.length_take, List.length_drop]; omega
theorem mx_zero (c : Int) (xs : List Int) : mx c xs 0 = xs := by unfold mx xorB; rw [List.take_zero, List.map_nil, List.nil_append, List.drop_zero]
theorem mx_at (c : Int) {xs : List Int} {i : Nat} (hi : i < xs.length) : (mx c xs i)[i]? = some (xs.getD i 0) := by
  unfold mx
  have hl : (xorB c (xs.take i)).length = i := by rw [xorB_len, List.length_take]; omega
  rw [List.getElem?_append_right (by omega), hl, Nat.sub_self, List.getElem?_drop, Nat.add_zero, List.getD_eq_getElem?_getD, List.getElem?_eq_getElem hi]; rfl
theorem mx_set (c : Int) {xs : List Int} {i : Nat} (hi : i < xs.length) : (mx c xs i).set i (bits .xor .u8 (xs.getD i 0) c) = mx c xs (i + 1) := by
  unfold mx
  have hl : (xorB c (xs.take i)).length = i := by rw [xorB_len, List.length_take]; omega
  rw [List.set_append_right _ _ (by omega), hl, Nat.sub_self, drop_getD hi 0, List.set_cons_zero, take_succ_getD hi 0]
  unfold xorB
  rw [List.map_append, List.append_assoc]; rfl

theorem key_l1 {K : Nat} {a4 s6 m9 : Addr} {e : TypeId} {gi go : Nat} (hne : gi ≠ go) {xs ys : List Int} (hx : xs.length = 128) (hy : ys.length = 128) :
    ∀ (d i n : Nat) (w : World), i + d = 128 → d < n → Bk e w gi (ints .u8 (mx 54 xs i)) → Bk e w go (ints .u8 (mx 92 ys i)) →
      ∃ w', digest_key_l1 K n a4 s6 m9 ⟨gi, 0, none⟩ ⟨go, 0, none⟩ (i : Int) w = some ((), w') ∧ Bk e w' gi (ints .u8 (xorB 54 xs)) ∧ Bk e w' go (ints .u8 (xorB 92 ys)) ∧ Upd (fun k => k = gi ∨ k = go) w w' := by
  intro d
  induction d with
  | zero =>
    intro i n w hi hn hb hc
    obtain ⟨n, rfl⟩ : ∃ m, n = m + 1 := ⟨n - 1, by omega⟩
    have e1 : mx 54 xs i = xorB 54 xs := by unfold mx; rw [List.take_of_length_le (by omega), List.drop_eq_nil_of_le (by omega), List.append_nil]
    have e2 : mx 92 ys i = xorB 92 ys := by unfold mx; rw [List.take_of_length_le (by omega), List.drop_eq_nil_of_le (by omega), List.append_nil]
    have hd : decide ((i : Int) < 128) = false := by simp; omega
    refine ⟨w, ?_, e1 ▸ hb, e2 ▸ hc, Upd.refl _ _⟩
    have eu : digest_key_l1 K (n + 1) = digest_key_l1_b K (digest_key_l1 K n) := rfl
    rw [eu]
    unfold digest_key_l1_b
    rw [hd, if_neg (by decide)]
  | succ d ih =>
    intro i n w hi hn hb hc
    obtain ⟨n, rfl⟩ : ∃ m, n = m + 1 := ⟨n - 1, by omega⟩
    have hd : decide ((i : Int) < 128) = true := by simp; omega
    have c : (0 : Int) ≤ (i : Int) ∧ (i : Int) < ((128 : Nat) : Int) := by omega
    have e1 : IntKind.i64.wrap ((i : Int) + 1) = ((i + 1 : Nat) : Int) := by rw [w64 (by omega) (by omega)]; rfl
    have l1 : ldI .u8 ⟨gi, i, none⟩ w = some (xs.getD i 0) := hb.ldI (by simp only [ints, List.getElem?_map, mx_at 54 (show i < xs.length by omega)]; rfl)
    obtain ⟨w1, s1, b1, u1⟩ := hb.stC (i := i) (by rw [ints_length, mx_len]; omega) (.int .u8 (bits .xor .u8 (xs.getD i 0) 54))
    rw [ints_set, mx_set 54 (by omega)] at b1
    have hc1 := hc.upd u1 (fun e => hne e.symm)
    have l2 : ldI .u8 ⟨go, i, none⟩ w1 = some (ys.getD i 0) := hc1.ldI (by simp only [ints, List.getElem?_map, mx_at 92 (show i < ys.length by omega)]; rfl)
    obtain ⟨w2, s2, b2, u2⟩ := hc1.stC (i := i) (by rw [ints_length, mx_len]; omega) (.int .u8 (bits .xor .u8 (ys.getD i 0) 92))
    rw [ints_set, mx_set 92 (by omega)] at b2
    obtain ⟨w3, h3, b3, c3, u3⟩ := ih (i + 1) n w2 (by omega) (by omega) (b1.upd u2 hne) b2
    refine ⟨w3, ?_, b3, c3, ((u1.trans u2).mono fun k _ e => e).trans' u3 fun _ _ e => e⟩
    have eu : digest_key_l1 K (n + 1) = digest_key_l1_b K (digest_key_l1 K n) := rfl
    rw [eu]
    unfold digest_key_l1_b
    rw [hd, if_pos rfl, if_pos c, Int.toNat_natCast, Nat.mul_one, add_lit, add_lit, Nat.zero_add, l1, Option.bind_some, if_pos c, s1, Option.bind_some, if_pos c, l2, Option.bind_some, if_pos c, s2, Option.bind_some, e1, h3]

/-- what a key is made to: two digests -/
structure KdC (C S : List Int) (h : Int) (ks xs : List Int) (cs : List Value) : Prop where
  ex : ∃ a b, cs = a ++ b ∧ StC C S h (ipad C S h ks ++ xs) a ∧ StC C S h (opad C S h ks) b

theorem KdC.len {C S : List Int} {h : Int} {ks xs : List Int} {cs : List Value} (s : KdC C S h ks xs cs) : cs.length = 284 := by
  obtain ⟨a, b, rfl, ha, hb⟩ := s.ex
  rw [List.length_append, ha.len, hb.len]
theorem KdC.one {C S : List Int} {h : Int} {ks xs : List Int} {cs : List Value} (s : KdC C S h ks xs cs) : ∀ v ∈ cs, v.oneCell' = true := by
  obtain ⟨a, b, rfl, ha, hb⟩ := s.ex
  intro v hv
  exact (List.mem_append.1 hv).elim (ha.one v) (hb.one v)

theorem z85_eq : z85.toList = ints .u8 (List.replicate 128 0) := by unfold z85 ints; rw [Array.toList_replicate, List.map_replicate]

theorem seg_zero_copy {ks : List Int} (hk : ks.length ≤ 128) : seg (ints .u8 (List.replicate 128 0)) 0 ((ints .u8 ks).take (min ks.length 128)) = ints .u8 (ks ++ List.replicate (128 - ks.length) 0) := by
  unfold seg
  have e : (ints .u8 ks).take (min ks.length 128) = ints .u8 ks := List.take_of_length_le (by rw [ints_length]; omega)
  have e2 : (ints .u8 (List.replicate 128 0)).drop ks.length = ints .u8 (List.replicate (128 - ks.length) 0) := by
    unfold ints; rw [← List.map_drop, List.drop_replicate]
  rw [e, List.take_zero, List.nil_append, Nat.zero_add, ints_length, ints_append, e2]

theorem pad_front {h : Int} {c : Int} {kk : List Int} (hl : kk.length ≤ blk h) : (xorB c (kk ++ List.replicate (128 - kk.length) 0)).take (blk h) = xorB c (padK h kk) := by
  have hb := blk_le h
  unfold xorB padK
  rw [← List.map_take, List.take_append, List.take_of_length_le hl, List.take_replicate, Nat.min_eq_left (by omega)]

theorem key_s0_ok {K : Nat} (hK : 18446744073709551616 ≤ K) {h : Int} (hk : known h = true) {C S ks : List Int} {w : World} (T : Tabs w C S) {k : Sl} (hx : Src w k (ints .u8 ks)) (hin : ∀ x ∈ ks, InK .u8 x) (hlim : ks.length ≤ 1099511627776) (hbv : ∀ p, k.a = some p → p.block < w.heap.size)
    {g : Nat} (hb : Bk 87 w g (stCells h 0 (firstH S h) half0)) :
    ∃ k' w', digest_key_s0 K k ⟨g, 0, none⟩ (decide (((k.len : Nat) : Int) > ((blk h : Nat) : Int))) w = some ((k', ()), w') ∧ Src w' k' (ints .u8 (keyH C S h ks)) ∧ (∀ p, k'.a = some p → p.block < w'.heap.size) ∧ Upd none_ w w' := by
  have hkl : k.len = ks.length := by rw [hx.len, ints_length]
  unfold keyH
  by_cases hl : ks.length > blk h
  · have hd : decide (((k.len : Nat) : Int) > ((blk h : Nat) : Int)) = true := by rw [hkl]; simp only [decide_eq_true_eq]; omega
    have hcl := stCells_len h 0 (firstH_len S h) (List.length_replicate (n := 128) (a := (0 : Int)))
    have lA := hb.ldA (i := 0) (n := 142) (by rw [hcl]; decide)
    rw [List.drop_zero, List.take_of_length_le (by rw [hcl]; decide)] at lA
    obtain ⟨w1, n1, b1, u1, z1⟩ := newB_ok z87 87 w
    obtain ⟨w2, s2, b2, u2, l2⟩ := lay b1 (vs := stCells h 0 (firstH S h) half0) (by rw [hcl]; rfl) (stCells_one _ _ _ _)
    have q2 : Upd none_ w w2 := u1.trans' u2 fun k hk e => by omega
    have h4 := T.lt
    have hs1 := u1.size
    obtain ⟨w3, cs3, h3, b3, st3, u3⟩ := take_cells hK hk (pre := []) (post := []) (o := 0) (ys := ks) (T.upd0 q2) (StC.start C S h) (by rw [List.nil_append, List.append_nil]; exact b2) rfl (by omega) hin (by simp; omega) (hx.upd0 q2) (fun p hp e => by have := hbv p hp; omega) (fun p hp => by have := hbv p hp; have := q2.size; omega)
    rw [List.nil_append, List.append_nil] at b3
    rw [List.nil_append] at st3
    have q3 : Upd none_ w w3 := q2.trans' u3 fun k hk e => by omega
    have lB := b3.ldA (i := 0) (n := 142) (by rw [st3.len]; decide)
    rw [List.drop_zero, List.take_of_length_le (by rw [st3.len]; decide)] at lB
    obtain ⟨s4, w4, h4', a4, u4⟩ := end_cells hK hk (T.upd0 q3) st3 hlim
    refine ⟨s4, w4, ?_, ?_, lt_of_blk fun k hk => a4.lt hk, q3.and0 u4⟩
    · unfold digest_key_s0
      rw [hd, if_pos rfl, lA, Option.bind_some, n1, bnd_ok, if_pos (by rw [List.size_toArray, hcl]), s2, Option.bind_some, h3, bnd_ok, lB, Option.bind_some, h4', bnd_ok]
    · rw [if_pos hl]; exact a4.src
  · have hd : decide (((k.len : Nat) : Int) > ((blk h : Nat) : Int)) = false := by rw [hkl]; simp only [decide_eq_false_iff_not]; omega
    refine ⟨k, w, ?_, by rw [if_neg hl]; exact hx, hbv, Upd.refl _ _⟩
    unfold digest_key_s0
    rw [hd, if_neg (by decide)]

theorem key_ok {K : Nat} (hK : 18446744073709551616 ≤ K) {h : Int} (hk : known h = true) {C S ks : List Int} {w : World} (T : Tabs w C S) {k : Sl} (hx : Src w k (ints .u8 ks)) (hin : ∀ x ∈ ks, InK .u8 x) (hlim : ks.length ≤ 1099511627776) (hbv : ∀ p, k.a = some p → p.block < w.heap.size) :
    ∃ cs w', digest_key K h k w = some ((cs.toArray, true, ()), w') ∧ KdC C S h ks [] cs ∧ Upd none_ w w' := by
  have h4 := T.lt
  have hbk := blk_le h
  obtain ⟨w1, n1, b1, u1, z1⟩ := newB_ok z89 89 w
  have b1 : Bk 89 w1 w.heap.size z89.toList := b1
  have T1 := T.upd0 u1
  obtain ⟨w2, h2, u2⟩ := begin_ok hK h T1.sl T1.sin T1.gs
  rw [hk] at h2
  have hcl := stCells_len h 0 (firstH_len S h) (List.length_replicate (n := 128) (a := (0 : Int)))
  obtain ⟨w3, n3, b3, u3, z3⟩ := newB_ok z87 87 w2
  obtain ⟨w4, s4, b4, u4, l4⟩ := lay b3 (vs := stCells h 0 (firstH S h) half0) (by rw [hcl]; rfl) (stCells_one _ _ _ _)
  rw [hcl] at l4
  have hs1 := u1.size
  have hs2 := u2.size
  have hs3 := u3.size
  have q4 : Upd none_ w w4 := ((u1.and0 u2).and0 u3).trans' u4 fun k hk e => by omega
  have hs4 := q4.size
  have hs34 := u4.size
  have T4 := T.upd0 q4
  have st4 : StAt w4 87 w2.heap.size 0 (stCells h 0 (firstH S h) half0) h 0 (firstH S h) half0 := by
    have := st_mk (pre := []) (post := []) (w := w4) (e := 87) (g := w2.heap.size) (h := h) (cnt := 0) (firstH_len S h) (List.length_replicate (n := 128) (a := (0 : Int))) half0_in (o := 0) rfl (by rw [List.nil_append, List.append_nil]; exact b4)
    rw [List.nil_append, List.append_nil] at this
    exact this
  obtain ⟨m1, _, _⟩ := st4.ld hk
  obtain ⟨kk, w5, h5, sk, vk, u5⟩ := key_s0_ok hK hk T4 (hx.upd0 q4) hin hlim (fun p hp => by have := hbv p hp; omega) b4
  have hs5 := u5.size
  have b5 := b4.upd0 u5
  have l5 : ldA 142 ⟨w2.heap.size, 0, none⟩ w5 = some (stCells h 0 (firstH S h) half0).toArray := by
    have := b5.ldA (i := 0) (n := 142) (by rw [hcl]; decide)
    rw [List.drop_zero, List.take_of_length_le (by rw [hcl]; decide)] at this
    exact this
  obtain ⟨w6, n6, b6, u6, z6⟩ := newB_ok z89 89 w5
  have hc2 : (stCells h 0 (firstH S h) half0 ++ stCells h 0 (firstH S h) half0).length = 284 := by rw [List.length_append, hcl]
  obtain ⟨w7, s7, b7, u7, _⟩ := lay b6 (vs := stCells h 0 (firstH S h) half0 ++ stCells h 0 (firstH S h) half0) (by rw [hc2]; kernel_rfl) (fun v hv => (List.mem_append.1 hv).elim (stCells_one _ _ _ _ v) (stCells_one _ _ _ _ v))
  have hs6 := u6.size
  have hs7 := u7.size
  obtain ⟨w8, n8, b8, u8, z8⟩ := newB_ok z85 85 w7
  obtain ⟨w9, n9, b9, u9, z9⟩ := newB_ok z85 85 w8
  have hs8 := u8.size
  have hs9 := u9.size
  have b8 : Bk 85 w8 w7.heap.size z85.toList := b8
  have b9 : Bk 85 w9 w8.heap.size z85.toList := b9
  rw [z85_eq] at b8 b9
  have hkl := keyH_len hk C S ks
  have hkkl : kk.len = (keyH C S h ks).length := by rw [sk.len, ints_length]
  have q57 : Upd none_ w5 w7 := u6.trans' u7 fun k hk e => by have e : k = w5.heap.size := e; omega
  have q59 := (q57.and0 u8).and0 u9
  have sk9 := sk.upd0 q59
  obtain ⟨w10, h10, b10, u10⟩ := cpy_ok sk9 (o := 0) (dLen := 128) (dCap := 128) (b8.upd0 u9) (by rw [ints_length, List.length_replicate]; omega)
  rw [hkkl, seg_zero_copy (by omega)] at b10
  have sk10 := sk9.upd u10 fun p hp e => by have := vk p hp; omega
  obtain ⟨w11, h11, b11, u11⟩ := cpy_ok sk10 (o := 0) (dLen := 128) (dCap := 128) (b9.upd u10 (by omega)) (by rw [ints_length, List.length_replicate]; omega)
  rw [hkkl, seg_zero_copy (by omega)] at b11
  have hs10 := u10.size
  have hs11 := u11.size
  have hpl : (keyH C S h ks ++ List.replicate (128 - (keyH C S h ks).length) 0).length = 128 := by rw [List.length_append, List.length_replicate]; omega
  obtain ⟨w12, h12, b12, c12, u12⟩ := key_l1 (K := K) (a4 := ⟨w.heap.size, 0, none⟩) (s6 := ⟨w2.heap.size, 0, none⟩) (m9 := ⟨w5.heap.size, 0, none⟩) (gi := w7.heap.size) (go := w8.heap.size) (by omega) hpl hpl 128 0 K w11 rfl (by omega)
    (by rw [mx_zero]; exact b10.upd u11 (by omega)) (by rw [mx_zero]; exact b11)
  have hs12 := u12.size
  have h12 : digest_key_l1 K K ⟨w.heap.size, 0, none⟩ ⟨w2.heap.size, 0, none⟩ ⟨w5.heap.size, 0, none⟩ ⟨w7.heap.size, 0, none⟩ ⟨w8.heap.size, 0, none⟩ 0 w11 = _ := h12
  have q59' : Upd none_ w w9 := (q4.and0 u5).and0 q59
  have q12 : Upd none_ w w12 := ((q59'.trans' u10 fun k hk e => by omega).trans' u11 fun k hk e => by omega).trans' u12 fun k hk e => by omega
  have q912 : Upd (fun k => k = w7.heap.size ∨ k = w8.heap.size) w9 w12 := ((u10.mono fun k _ e => .inl e).trans' (u11.mono (T := fun k => k = w7.heap.size ∨ k = w8.heap.size) fun k _ e => .inr e) fun _ _ e => e).trans' u12 fun _ _ e => e
  have st12 := ((st4.upd u5 id).upd q59 id).upd q912 (by omega)
  obtain ⟨m12, _, _⟩ := st12.ld hk
  have b7' : Bk 89 w12 w5.heap.size (stCells h 0 (firstH S h) half0 ++ stCells h 0 (firstH S h) half0) := ((b7.upd0 u8).upd0 u9).upd q912 (by omega)
  have T12 := T.upd0 q12
  have hsrc : ∀ {c : Int} {g : Nat} {w' : World}, Bk 85 w' g (ints .u8 (xorB c (keyH C S h ks ++ List.replicate (128 - (keyH C S h ks).length) 0))) → Src w' ⟨some ⟨g, 0, none⟩, blk h, 128⟩ (ints .u8 (xorB c (padK h (keyH C S h ks)))) := by
    intro c g w' hb
    rw [← pad_front hkl, ← ints_take]
    refine ⟨by rw [List.length_take, ints_length, xorB_len, hpl]; exact (Nat.min_eq_left hbk).symm, hbk, .inr ⟨_, rfl, hb.rd 0 _ fun i v hv => ?_⟩, fun v hv => ints_one v (List.mem_of_mem_take hv)⟩
    rw [List.getElem?_take] at hv
    split at hv
    · rw [Nat.zero_add]; exact hv
    · cases hv
  obtain ⟨w13, ci, h13, b13, st13, u13⟩ := take_cells hK hk (pre := []) (post := stCells h 0 (firstH S h) half0) (o := 0) (ys := ipad C S h ks) T12 (StC.start C S h) (by rw [List.nil_append]; exact b7') rfl (by omega) (ipad_in C S hin) (by rw [ipad_len hk]; simp; omega) (hsrc b12)
    (fun p hp e => by have e1 : p = ⟨w7.heap.size, 0, none⟩ := by simpa using hp.symm
                      rw [e1] at e; simp at e; omega) (fun p hp => by have e1 : p = ⟨w7.heap.size, 0, none⟩ := by simpa using hp.symm
                                                                      rw [e1]; exact b12.lt)
  rw [List.nil_append] at b13 st13
  have hs13 := u13.size
  have q13 : Upd none_ w w13 := q12.trans' u13 fun k hk e => by omega
  obtain ⟨m13, _, _⟩ := (st12.upd u13 (by omega)).ld hk
  obtain ⟨w14, co, h14, b14, st14, u14⟩ := take_cells hK hk (pre := ci) (post := []) (o := 142) (ys := opad C S h ks) (T.upd0 q13) (StC.start C S h) (by rw [List.append_nil]; exact b13) st13.len (by omega) (opad_in C S hin) (by rw [opad_len hk]; simp; omega) (hsrc (c12.upd u13 (by omega)))
    (fun p hp e => by have e1 : p = ⟨w8.heap.size, 0, none⟩ := by simpa using hp.symm
                      rw [e1] at e; simp at e; omega) (fun p hp => by have e1 : p = ⟨w8.heap.size, 0, none⟩ := by simpa using hp.symm
                                                                      rw [e1]; have := c12.lt; show w8.heap.size < w13.heap.size; omega)
  rw [List.append_nil] at b14
  rw [List.nil_append] at st14
  have kd : KdC C S h ks [] (ci ++ co) := ⟨ci, co, rfl, by rw [List.append_nil]; exact st13, st14⟩
  have hs14 := u14.size
  have l14 := b14.ldA (i := 0) (n := 284) (by rw [kd.len]; decide)
  rw [List.drop_zero, List.take_of_length_le (by rw [kd.len]; decide)] at l14
  have b1' : Bk 89 w14 w.heap.size z89.toList := ((((((b1.upd0 u2).upd0 u3).upd u4 (by omega)).upd0 u5).upd0 q59).upd q912 (by omega)).upd (u13.trans' u14 fun _ _ e => e) (by omega)
  obtain ⟨w15, s15, b15, u15, l15⟩ := lay b1' (vs := ci ++ co) (by rw [kd.len]; kernel_rfl) kd.one
  rw [kd.len] at l15
  refine ⟨ci ++ co, w15, ?_, kd, (q13.trans' u14 fun k hk e => by omega).trans' u15 fun k hk e => by omega⟩
  have cb : (0 : Int) ≤ ((blk h : Nat) : Int) ∧ ((blk h : Nat) : Int) ≤ ((128 : Nat) : Int) := by omega
  unfold digest_key
  rw [n1, bnd_ok, h2, bnd_ok, n3, bnd_ok]
  dsimp only
  rw [if_pos (by rw [List.size_toArray, hcl]), s4, Option.bind_some, if_neg (by decide)]
  simp only [add_lit, Nat.zero_add, Nat.add_zero, sla_zero, Nat.sub_zero] at m1 m12 m13 ⊢
  rw [m1, Option.bind_some, h5, bnd_ok, l5, Option.bind_some, Option.bind_some, built89 hcl hcl, Option.bind_some, n6, bnd_ok, if_pos (by rw [List.size_toArray, hc2]), s7, Option.bind_some, n8, bnd_ok, n9, bnd_ok, h10, bnd_ok, h11, bnd_ok, h12, bnd_ok, m12, Option.bind_some, if_pos cb, Int.toNat_natCast, add_lit, Nat.add_zero, h13, bnd_ok, m13, Option.bind_some, if_pos cb, Int.toNat_natCast, add_lit, Nat.zero_add, h14, bnd_ok, l14, Option.bind_some, if_pos (by rw [List.size_toArray, kd.len]), s15, Option.bind_some, l15, Option.bind_some]

/-- its code -/
theorem keyedEnd_ok {K : Nat} (hK : 18446744073709551616 ≤ K) {h : Int} (hk : known h = true) {C S ks xs : List Int} {w : World} (T : Tabs w C S) {cs : List Value} (kd : KdC C S h ks xs cs) (hlim : xs.length ≤ 549755813888) :
    ∃ s' w', digest_keyed_end K cs.toArray w = some ((s', ()), w') ∧ Ans w.heap.size w' s' (macOf C S h ks xs) ∧ Upd none_ w w' := by
  have h4 := T.lt
  have hcl := kd.len
  obtain ⟨a, b, rfl, ha, hb⟩ := kd.ex
  have hbk := blk_le h
  obtain ⟨w1, n1, b1, u1, z1⟩ := newB_ok (a ++ b).toArray 89 w
  have b1 : Bk 89 w1 w.heap.size (a ++ b) := b1
  have l1 := b1.ldA (i := 0) (n := 142) (by rw [hcl]; decide)
  rw [List.drop_zero, List.take_append_of_le_length (by rw [ha.len]; decide), List.take_of_length_le (by rw [ha.len]; decide)] at l1
  obtain ⟨s2, w2, h2, a2, u2⟩ := end_cells hK hk (T.upd0 u1) ha (by rw [List.length_append, ipad_len hk]; omega)
  have hs1 := u1.size
  have hs2 := u2.size
  obtain ⟨w3, co, h3, b3, st3, u3⟩ := take_cells hK hk (pre := a) (post := []) (o := 142) (ys := digestOf h C (firstH S h) (ipad C S h ks ++ xs)) ((T.upd0 u1).upd0 u2) hb (by rw [List.append_nil]; exact b1.upd0 u2) ha.len (by omega) (digestOf_in h C _ _) (by have := digestOf_len h C (firstH S h) (ipad C S h ks ++ xs); rw [opad_len hk]; omega) a2.src
    (fun p hp e => by have := a2.fresh p.block (by simp [Sl.blk, hp]); omega) (lt_of_blk fun k hk => a2.lt hk)
  rw [List.append_nil] at b3
  have q3 : Upd none_ w w3 := (u1.and0 u2).trans' u3 fun k hk e => by omega
  have l3 := b3.ldA (i := 142) (n := 142) (by rw [List.length_append, ha.len, st3.len]; decide)
  rw [← ha.len, List.drop_left, ha.len, List.take_of_length_le (by rw [st3.len]; decide)] at l3
  have hs3 := u3.size
  obtain ⟨s4, w4, h4', a4, u4⟩ := end_cells hK hk (T.upd0 q3) st3 (by have := digestOf_len h C (firstH S h) (ipad C S h ks ++ xs); rw [List.length_append, opad_len hk]; omega)
  refine ⟨s4, w4, ?_, a4.mono (by omega), q3.and0 u4⟩
  unfold digest_keyed_end
  rw [n1, bnd_ok]
  simp only [add_lit, Nat.zero_add, Nat.add_zero]
  rw [l1, Option.bind_some, h2, bnd_ok, h3, bnd_ok, l3, Option.bind_some, h4', bnd_ok]

end Go.Sh

/- DigestNone: of a nil Stream and a nil Mac. -/
set_option linter.unusedVariables false
namespace Go.Sh
open Go.Fw Go.Sha Go.RowKit Go.Proofs.Tryd

theorem NewMac_none {K : Nat} {h : Int} (hk : known h = false) (k : Sl) (w : World) : ∃ w', digest_NewMac K h k w = some ((none, 10, ()), w') ∧ Upd none_ w w' := by
  obtain ⟨w1, h1, u1⟩ := Size_ok h w
  refine ⟨w1, ?_, u1⟩
  unfold digest_NewMac
  rw [h1, bnd_ok]
  dsimp only
  rw [size_zero, hk, if_pos (show (!false) = true from rfl)]

theorem DigestNone_ok {K : Nat} (hK : 18446744073709551616 ≤ K) {C S : List Int} {w : World} (T : Tabs w C S) :
    ∃ w', law01_DigestNone K w = some ((true, ()), w') ∧ Upd none_ w w' := by
  have hn : (none : Option Addr).isNone = true := rfl
  obtain ⟨w1, h1, o1, u1, z1⟩ := bldS1_ok sliceB (.int .u8 1) rfl w
  obtain ⟨w2, h2, o2, u2, z2⟩ := bldS1_ok sliceSS (.slice (some ⟨w.heap.size, 0, none⟩) 1 1) rfl w1
  have hs0 : law01_DigestNone_s0 K none w = some ((false, ()), w2) := by
    unfold law01_DigestNone_s0 digest_Stream_Hash digest_Stream_Size digest_Stream_Block digest_Stream_Count digest_Stream_Sum digest_Stream_Copy digest_Stream_Write digest_Stream_Reset law01_num
    rw [if_pos hn, Option.bind_some]
    dsimp only
    rw [if_neg (by decide), if_pos hn, Option.bind_some]
    dsimp only
    rw [if_neg (by decide), if_pos hn, Option.bind_some]
    dsimp only
    rw [if_neg (by decide), if_pos hn, Option.bind_some]
    dsimp only
    rw [if_neg (by decide), if_pos hn, bnd_ok]
    dsimp only
    rw [if_neg (by decide), if_pos hn, bnd_ok]
    dsimp only
    rw [if_neg (by decide), h1, bnd_ok]
    dsimp only
    rw [h2, bnd_ok, if_pos hn, bnd_ok, Option.bind_some]
    dsimp only
    rw [if_neg (by decide), if_pos hn, bnd_ok, Option.bind_some]
    rfl
  have hs1 : law01_DigestNone_s1 K none w2 = some ((false, ()), w2) := by
    unfold law01_DigestNone_s1 digest_Mac_Size digest_Mac_Sum digest_Mac_Copy digest_Mac_Write digest_Mac_Reset law01_num
    rw [if_pos hn, Option.bind_some]
    dsimp only
    rw [if_neg (by decide), if_pos hn, bnd_ok]
    dsimp only
    rw [if_neg (by decide), if_pos hn, bnd_ok]
    dsimp only
    rw [if_neg (by decide), if_pos hn, bnd_ok, Option.bind_some]
    dsimp only
    rw [if_neg (by decide), if_pos hn, bnd_ok, Option.bind_some]
    rfl
  have T2 := (T.upd0 u1).upd0 u2
  obtain ⟨w3, g, h3, u3, hg, _⟩ := New_ok hK 0 T2.sl T2.sin T2.gs
  rw [if_neg (by decide), if_neg (by decide)] at h3
  obtain ⟨w4, h4, u4⟩ := NewMac_none (K := K) (h := -256) (by decide) ⟨none, 0, 0⟩ w3
  obtain ⟨w5, h5, u5⟩ := Size_ok 256 w4
  refine ⟨w5, ?_, (((u1.and0 u2).and0 u3).and0 u4).and0 u5⟩
  unfold law01_DigestNone law01_num
  rw [hs0, bnd_ok]
  dsimp only
  rw [if_neg (by decide), hs1, bnd_ok]
  dsimp only
  rw [if_neg (by decide), h3, bnd_ok, h4, bnd_ok]
  dsimp only
  rw [if_pos hn, if_pos hn, Option.bind_some]
  dsimp only
  rw [if_pos (by decide), Option.bind_some]
  dsimp only
  rw [if_pos (by decide), h5, bnd_ok]
  rfl

end Go.Sh

/- Code of package digest and of the document's answer; DigestCodes. -/
set_option linter.unusedVariables false
namespace Go.Sh
open Go.Fw Go.Sha Go.RowKit Go.Proofs.Tryd

theorem built101 {a b : List Value} (ha : a.length = 284) (hb : b.length = 284) : prog.built 101 [(0, (.agg a.toArray)), (1, (.agg b.toArray))] = some (a ++ b).toArray :=
  built_two (P := prog) (t := 101) (it := t101) (f0 := { name := "keyed", type := 89, offset := 0, embedded := true, tag := "", pkgPath := "coffer/digest", byteOffset := 0 }) (f1 := { name := "begun", type := 89, offset := 284, embedded := false, tag := "", pkgPath := "coffer/digest", byteOffset := 480 }) (z := .agg z101)
    (by kernel_rfl) (by kernel_rfl) (by kernel_rfl) (i0 := t89) (i1 := t89) (by kernel_rfl) (by kernel_rfl) rfl (by kernel_rfl) (by rw [ha]; kernel_rfl) (by rw [hb]; kernel_rfl) (by kernel_rfl)

/-- A Mac in a block: what it was fed, and how it began. -/
structure MacAt (w : World) (g : Nat) (C S : List Int) (h : Int) (ks xs : List Int) : Prop where
  ex : ∃ cs cs0, Bk 101 w g (cs ++ cs0) ∧ KdC C S h ks xs cs ∧ KdC C S h ks [] cs0

theorem MacAt.upd {w w' : World} {g : Nat} {C S : List Int} {h : Int} {ks xs : List Int} {X : Nat → Prop} (m : MacAt w g C S h ks xs) (u : Upd X w w') (hn : ¬ X g) : MacAt w' g C S h ks xs := by
  obtain ⟨cs, cs0, h1, h2, h3⟩ := m.ex
  exact ⟨cs, cs0, h1.upd u hn, h2, h3⟩
theorem MacAt.upd0 {w w' : World} {g : Nat} {C S : List Int} {h : Int} {ks xs : List Int} (m : MacAt w g C S h ks xs) (u : Upd none_ w w') : MacAt w' g C S h ks xs := m.upd u id
theorem MacAt.lt {w : World} {g : Nat} {C S : List Int} {h : Int} {ks xs : List Int} (m : MacAt w g C S h ks xs) : g < w.heap.size := by
  obtain ⟨cs, cs0, h1, _⟩ := m.ex
  exact h1.lt

theorem NewMac_ok {K : Nat} (hK : 18446744073709551616 ≤ K) {h : Int} (hk : known h = true) {C S ks : List Int} {w : World} (T : Tabs w C S) {k : Sl} (hx : Src w k (ints .u8 ks)) (hin : ∀ x ∈ ks, InK .u8 x) (hlim : ks.length ≤ 33554432) (hbv : ∀ p, k.a = some p → p.block < w.heap.size) :
    ∃ w' g, digest_NewMac K h k w = some ((some ⟨g, 0, none⟩, 0, ()), w') ∧ MacAt w' g C S h ks [] ∧ w.heap.size ≤ g ∧ Upd none_ w w' := by
  obtain ⟨w1, h1, u1⟩ := Size_ok h w
  have hkl : k.len = ks.length := by rw [hx.len, ints_length]
  have hd : decide (((k.len : Nat) : Int) > 33554432) = false := by rw [hkl]; simp only [decide_eq_false_iff_not]; omega
  have hs1 := u1.size
  obtain ⟨cs, w2, h2, kd, u2⟩ := key_ok hK hk (T.upd0 u1) (hx.upd0 u1) hin (by omega) (fun p hp => by have := hbv p hp; omega)
  have hs2 := u2.size
  have hcl := kd.len
  obtain ⟨w3, n3, b3, u3, z3⟩ := newB_ok z89 89 w2
  obtain ⟨w4, s4, b4, u4, l4⟩ := lay b3 (vs := cs) (by rw [hcl]; kernel_rfl) kd.one
  rw [hcl] at l4
  have hs3 := u3.size
  have hs4 := u4.size
  obtain ⟨w5, n5, b5, u5, z5⟩ := newB_ok (cs ++ cs).toArray 101 w4
  have b5 : Bk 101 w5 w4.heap.size (cs ++ cs) := b5
  refine ⟨w5, w4.heap.size, ?_, ⟨cs, cs, b5, kd, kd⟩, by omega, (((u1.and0 u2).and0 u3).trans' u4 fun k hk e => by omega).and0 u5⟩
  unfold digest_NewMac
  rw [h1, bnd_ok]
  dsimp only
  rw [size_zero, hk, if_neg (by decide), hd, if_neg (by decide), h2, bnd_ok, n3, bnd_ok]
  dsimp only
  rw [if_pos (by rw [List.size_toArray, hcl]), s4, Option.bind_some, l4, Option.bind_some, Option.bind_some, built101 hcl hcl, Option.bind_some, n5, bnd_ok]

theorem MacWrite_loop {K : Nat} (hK : 18446744073709551616 ≤ K) {e : TypeId} {g : Nat} {post : List Value} {h : Int} (hk : known h = true) {C S : List Int} (hg : 4 ≤ g) {s : Sl} {xss : List (List Int)} {Q : Nat → Prop} (hQ : ¬ Q g) :
    ∀ (d i n : Nat) (w : World) (xs : List Int) (a : List Value), i + d = xss.length → d < n → Bk e w g (a ++ post) → StC C S h xs a → Tabs w C S → Parts w s xss Q → xs.length + (xss.drop i).flatten.length ≤ 140737488355328 →
      ∃ w' a', digest_Mac_Write_l0 K n (some ⟨g, 0, none⟩) s ((s.len : Nat) : Int) (i : Int) w = some ((), w') ∧ Bk e w' g (a' ++ post) ∧ StC C S h (xs ++ (xss.drop i).flatten) a' ∧ Upd (· = g) w w' := by
  intro d
  induction d with
  | zero =>
    intro i n w xs a hi hn hb sa hT hp hl
    obtain ⟨n, rfl⟩ : ∃ m, n = m + 1 := ⟨n - 1, by omega⟩
    have hd : decide ((i : Int) < ((s.len : Nat) : Int)) = false := by rw [hp.len]; simp; omega
    have e0 : xs ++ (xss.drop i).flatten = xs := by rw [List.drop_eq_nil_of_le (by omega)]; simp
    refine ⟨w, a, ?_, hb, by rw [e0]; exact sa, Upd.refl _ _⟩
    show digest_Mac_Write_l0_b K (digest_Mac_Write_l0 K n) (some ⟨g, 0, none⟩) s ((s.len : Nat) : Int) (i : Int) w = _
    unfold digest_Mac_Write_l0_b
    rw [hd, if_neg (by decide)]
  | succ d ih =>
    intro i n w xs a hi hn hb sa hT hp hl
    obtain ⟨n, rfl⟩ : ∃ m, n = m + 1 := ⟨n - 1, by omega⟩
    have hm := hp.many
    have hd : decide ((i : Int) < ((s.len : Nat) : Int)) = true := by rw [hp.len]; simp; omega
    obtain ⟨p, t, h1, h2, h3, h4, h5, h6, h7⟩ := hp.at (i := i) (by omega)
    have c : (0 : Int) ≤ (i : Int) ∧ (i : Int) < ((s.len : Nat) : Int) := by rw [hp.len]; omega
    have e1 : IntKind.i64.wrap ((i : Int) + 1) = ((i + 1 : Nat) : Int) := by rw [w64 (by omega) (by omega)]; rfl
    have hdr : (xss.drop i).flatten = xss.getD i [] ++ (xss.drop (i + 1)).flatten := by rw [drop_getD (by omega) [], List.flatten_cons]
    rw [hdr, List.length_append] at hl
    obtain ⟨w1, a1, b1, b2, b3, b4⟩ := take_cells hK hk (pre := []) (post := post) (o := 0) hT sa (by rw [List.nil_append]; exact hb) rfl hg h7 (by omega) h3 (fun q hq e => hQ (e ▸ (h4 q hq).1)) (fun q hq => (h4 q hq).2)
    rw [List.nil_append] at b2
    obtain ⟨w2, a2, c1, c2, c3, c4⟩ := ih (i + 1) n w1 (xs ++ xss.getD i []) a1 (by omega) (by omega) b2 b3 (hT.upd b4 fun k hk e => by omega) (hp.upd b4 fun k hk e => hQ (e ▸ hk)) (by rw [List.length_append]; omega)
    rw [List.append_assoc, ← hdr] at c3
    refine ⟨w2, a2, ?_, c2, c3, b4.trans' c4 fun _ _ e => e⟩
    show digest_Mac_Write_l0_b K (digest_Mac_Write_l0 K n) (some ⟨g, 0, none⟩) s ((s.len : Nat) : Int) (i : Int) w = _
    unfold digest_Mac_Write_l0_b
    rw [hd, if_pos rfl, h1, Option.bind_some, if_pos c, Int.toNat_natCast, Nat.mul_one, h2, Option.bind_some, Option.bind_some, add_lit, add_lit, Nat.add_zero, b1, bnd_ok, e1, c1]

/-- its count and its block -/
theorem KdC.ld {C S : List Int} {h : Int} (hk : known h = true) {ks xs : List Int} {cs cs0 : List Value} {e : TypeId} {g : Nat} {w : World} (kd : KdC C S h ks xs cs) (hb : Bk e w g (cs ++ cs0)) :
    ldI .u64 ⟨g, 5, none⟩ w = some (((blk h + xs.length : Nat) : Int)) ∧ ldI .i64 ⟨g, 1, none⟩ w = some (((blk h : Nat) : Int)) := by
  obtain ⟨a, b, rfl, ha, hb'⟩ := kd.ex
  obtain ⟨H, half, rfl, f, hi⟩ := ha.ex
  have st := st_mk (pre := []) (post := b ++ cs0) (o := 0) (w := w) (e := e) (g := g) f.H8 f.len hi rfl (by rw [List.nil_append, ← List.append_assoc]; exact hb)
  obtain ⟨l1, l5, _⟩ := st.ld hk
  rw [List.length_append, ipad_len hk] at l5
  exact ⟨by simpa using l5, by simpa using l1⟩

theorem MacWrite_ok {K : Nat} (hK : 18446744073709551616 ≤ K) {w : World} {g : Nat} {h : Int} (hk : known h = true) {C S ks xs : List Int} (T : Tabs w C S) (hg : 4 ≤ g) (m : MacAt w g C S h ks xs) {s : Sl} {xss : List (List Int)} {Q : Nat → Prop} (hQ : ¬ Q g) (hp : Parts w s xss Q) (hl : xs.length + xss.flatten.length ≤ 33554432) :
    ∃ w', digest_Mac_Write K (some ⟨g, 0, none⟩) s w = some ((0, ()), w') ∧ MacAt w' g C S h ks (xs ++ xss.flatten) ∧ Upd (· = g) w w' := by
  obtain ⟨cs, cs0, h1, h2, h3⟩ := m.ex
  obtain ⟨l5, l1⟩ := h2.ld hk h1.drew
  obtain ⟨a, b, rfl, ha, hb⟩ := h2.ex
  have hpd := hp.upd0 (Upd.refl none_ w).drew
  have ht := total_ok hK hpd
  have hbk := blk_le h
  obtain ⟨w2, a2, b1, b2, b3, b4⟩ := MacWrite_loop hK hk hg hQ (post := b ++ cs0) xss.length 0 K w.drew _ a (by omega) (by have := hp.many; omega) (by rw [← List.append_assoc]; exact h1.drew) ha T.drew hpd (by rw [List.drop_zero, List.length_append, ipad_len hk]; omega)
  rw [List.drop_zero] at b3
  rw [List.append_assoc] at b3
  have b1 : digest_Mac_Write_l0 K K (some ⟨g, 0, none⟩) s ((s.len : Nat) : Int) 0 w.drew = _ := b1
  have htl := totB_le xss 0 (by omega)
  have h1' : totB 0 xss ≤ 33554432 := htl.1.2 (by omega)
  have h2' := htl.2 h1'
  have hd : decide (((xs.length + totB 0 xss : Nat) : Int) > 33554432) = false := by simp only [decide_eq_false_iff_not]; omega
  have ew : IntKind.u64.wrap (((blk h + xs.length : Nat) : Int) - IntKind.u64.wrap ((blk h : Nat) : Int)) = ((xs.length : Nat) : Int) := by rw [IntKind.wrap_u64, IntKind.wrap_u64]; omega
  refine ⟨w2, ?_, ⟨a2 ++ b, cs0, by rw [List.append_assoc]; exact b2, ⟨a2, b, rfl, b3, hb⟩, h3⟩, b4.predrew⟩
  unfold digest_Mac_Write
  rw [if_neg (by simp), Option.bind_some, Option.bind_some]
  simp only [add_lit, Nat.add_zero, Nat.zero_add]
  rw [l5, Option.bind_some, l1, Option.bind_some, ht, Option.bind_some]
  dsimp only
  rw [ew, tot_wrap hp.lens (by omega), hd, if_neg (by decide), b1, bnd_ok]

theorem MacWrite_long {K : Nat} (hK : 18446744073709551616 ≤ K) {w : World} {g : Nat} {h : Int} (hk : known h = true) {C S ks xs : List Int} (m : MacAt w g C S h ks xs) (hn : xs.length ≤ 33554432) {s : Sl} {xss : List (List Int)} {Q : Nat → Prop} (hp : Parts w s xss Q) (hl : ¬ xs.length + xss.flatten.length ≤ 33554432) :
    digest_Mac_Write K (some ⟨g, 0, none⟩) s w = some ((4, ()), w.drew) := by
  obtain ⟨cs, cs0, h1, h2, h3⟩ := m.ex
  obtain ⟨l5, l1⟩ := h2.ld hk h1.drew
  have ht := total_ok hK (hp.upd0 (Upd.refl none_ w).drew)
  have hbk := blk_le h
  have htl := totB_le xss 0 (by omega)
  have h1' : ¬ xs.length + totB 0 xss ≤ 33554432 := fun e => by have := htl.2 (by omega); omega
  have hd : decide (((xs.length + totB 0 xss : Nat) : Int) > 33554432) = true := by simp only [decide_eq_true_eq]; omega
  have ew : IntKind.u64.wrap (((blk h + xs.length : Nat) : Int) - IntKind.u64.wrap ((blk h : Nat) : Int)) = ((xs.length : Nat) : Int) := by rw [IntKind.wrap_u64, IntKind.wrap_u64]; omega
  unfold digest_Mac_Write
  rw [if_neg (by simp), Option.bind_some, Option.bind_some]
  simp only [add_lit, Nat.add_zero, Nat.zero_add]
  rw [l5, Option.bind_some, l1, Option.bind_some, ht, Option.bind_some]
  dsimp only
  rw [ew, tot_wrap hp.lens hn, hd, if_pos rfl]

theorem MacSum_ok {K : Nat} (hK : 18446744073709551616 ≤ K) {w : World} {g : Nat} {h : Int} (hk : known h = true) {C S ks xs : List Int} (T : Tabs w C S) (m : MacAt w g C S h ks xs) (hlim : xs.length ≤ 549755813888) :
    ∃ s' w', digest_Mac_Sum K (some ⟨g, 0, none⟩) w = some ((s', ()), w') ∧ Ans w.heap.size w' s' (macOf C S h ks xs) ∧ Upd none_ w w' := by
  obtain ⟨cs, cs0, h1, h2, h3⟩ := m.ex
  have lA := h1.ldA (i := 0) (n := 284) (by rw [List.length_append, h2.len, h3.len]; decide)
  rw [List.drop_zero, List.take_append_of_le_length (by rw [h2.len]; decide), List.take_of_length_le (by rw [h2.len]; decide)] at lA
  obtain ⟨s', w', a1, a2, a3⟩ := keyedEnd_ok hK hk T h2 hlim
  refine ⟨s', w', ?_, a2, a3⟩
  unfold digest_Mac_Sum
  rw [if_neg (by simp), Option.bind_some, add_lit, lA, Option.bind_some, a1, bnd_ok]

theorem macOf_len (C S : List Int) (h : Int) (ks xs : List Int) : (macOf C S h ks xs).length ≤ 64 := digestOf_len ..
theorem codeOf_len (C S : List Int) (h : Int) (ks xs : List Int) : (codeOf C S h ks xs).length ≤ 64 := by
  unfold codeOf; split
  · exact macOf_len ..
  · exact Nat.zero_le _
theorem codeOf_in (C S : List Int) (h : Int) (ks xs : List Int) : ∀ x ∈ codeOf C S h ks xs, InK .u8 x := by
  unfold codeOf; split
  · exact digestOf_in h C _ _
  · intro x hx; simp at hx

theorem Code_any {K : Nat} (hK : 18446744073709551616 ≤ K) (h : Int) {C S ks : List Int} {w : World} (T : Tabs w C S) {k : Sl} (hx : Src w k (ints .u8 ks)) (hin : ∀ x ∈ ks, InK .u8 x) (hlim : ks.length ≤ 33554432) (hbv : ∀ p, k.a = some p → p.block < w.heap.size)
    {s : Sl} {xss : List (List Int)} {Q : Nat → Prop} (hp : Parts w s xss Q) (hQ : ∀ k, Q k → k < w.heap.size) (hl : xss.flatten.length ≤ 33554432) :
    ∃ s' w', digest_Code K h k s w = some ((s', (if known h = true then 0 else 10), ()), w') ∧ Vw 5 w' s' (ints .u8 (codeOf C S h ks xss.flatten)) ∧ Fresh w.heap.size s' ∧ Upd none_ w w' := by
  have h4 := T.lt
  unfold codeOf
  cases hk : known h with
  | true =>
    obtain ⟨w1, g, h1, m1, hg, u1⟩ := NewMac_ok hK hk T hx hin hlim hbv
    have hs1 := u1.size
    obtain ⟨w2, h2, m2, u2⟩ := MacWrite_ok hK hk (T.upd0 u1) (by omega) m1 (fun e => by have := hQ g e; omega) (hp.upd0 u1) (by simpa using hl)
    rw [List.nil_append] at m2
    have q2 : Upd none_ w w2 := u1.trans' u2 fun k hk e => by omega
    obtain ⟨s3, w3, h3, a3, u3⟩ := MacSum_ok hK hk (T.upd0 q2) m2 (by omega)
    have hs2 := q2.size
    refine ⟨s3, w3, ?_, by rw [if_pos rfl]; exact a3.vw (Nat.le_trans (macOf_len ..) (by decide)), fun k hk => by have := a3.fresh k hk; omega, q2.and0 u3⟩
    unfold digest_Code digest_Code_s0
    rw [h1, bnd_ok]
    dsimp only
    rw [if_pos (by decide), h2, bnd_ok, bnd_ok]
    dsimp only
    rw [if_neg (by decide), h3, bnd_ok, if_pos rfl]
  | false =>
    obtain ⟨w1, h1, u1⟩ := NewMac_none (K := K) hk k w
    refine ⟨⟨none, 0, 0⟩, w1, ?_, by rw [if_neg (by decide)]; exact Vw.nil 5 w1, (fun k hk => by cases hk), u1⟩
    unfold digest_Code digest_Code_s0
    rw [h1, bnd_ok]
    dsimp only
    rw [if_neg (by decide), bnd_ok]
    dsimp only
    rw [if_pos (by decide), if_neg (by decide)]

/-! ### The document's answer -/

/-- one byte behind an own slice -/
theorem pushO {w : World} {s : Sl} {xs : List Int} (x : Int) (ho : Own 5 w s (ints .u8 xs)) (hs : s.len + 1 ≤ 140737488355328) :
    ∃ w1 s2 w2, bldS prog 25 1 #[(0, (.int .u8 x))] w = some (⟨some ⟨w.heap.size, 0, none⟩, 1, 1⟩, w1) ∧ apd prog 25 25 (.slice s.a s.len s.cap) (.slice (some ⟨w.heap.size, 0, none⟩) 1 1) w1 = some (s2, w2) ∧
      Own 5 w2 s2 (ints .u8 (xs ++ [x])) ∧ Upd (fun k => s.blk = some k) w w2 ∧ (∀ k, s2.blk = some k → s.blk = some k ∨ w.heap.size ≤ k) := by
  obtain ⟨w1, h1, o1, u1, z1⟩ := bldS1_ok sliceB (.int .u8 x) rfl w
  obtain ⟨s2, w2, h2, l2, o2, u2, b2⟩ := apd_ok sliceB (ho.upd0 u1) (o1.src (by simp [Value.oneCell'])) (by show (s.len + 1) * 1 ≤ _; omega)
  refine ⟨w1, s2, w2, h1, h2, by simpa using o2, (u1.mono fun _ _ e => e.elim).trans' u2 fun _ _ e => e, fun k hk => ?_⟩
  rcases b2 with e | e
  · exact .inl (e ▸ hk)
  · rw [e] at hk; have := Option.some.inj hk; exact .inr (by omega)

theorem src_ld {w : World} {s : Sl} {xs : List Int} (h : Src w s (ints .u8 xs)) {i : Nat} (hi : i < xs.length) : ∃ p, s.a = some p ∧ ldI .u8 (p.add i) w = some (xs.getD i 0) := by
  obtain ⟨p, hp, hl⟩ := h.rds.ld
  refine ⟨p, hp (fun e => by rw [e] at hi; simp at hi), ?_⟩
  rw [hl i hi, List.getD_eq_getElem?_getD, List.getElem?_eq_getElem hi]; rfl

theorem padK_get {h : Int} {l : List Int} (hl : l.length ≤ blk h) {i : Nat} (hi : i < blk h) : (padK h l).getD i 0 = if i < l.length then l.getD i 0 else 0 := by
  unfold padK
  simp only [List.getD_eq_getElem?_getD]
  by_cases hc : i < l.length
  · rw [if_pos hc, List.getElem?_append_left hc]
  · rw [if_neg hc, List.getElem?_append_right (by omega), List.getElem?_replicate, if_pos (by omega)]; rfl

theorem xorB_take {c : Int} {l : List Int} {i : Nat} (hi : i < l.length) : xorB c (l.take i) ++ [bits .xor .u8 (l.getD i 0) c] = xorB c (l.take (i + 1)) := by
  rw [take_succ_getD hi 0]; unfold xorB; rw [List.map_append]; rfl

theorem refCode_l1 {K : Nat} {B : Nat} {h : Int} {b2 : Sl} {k8 : Sl} {kk : List Int} (hkk : kk.length ≤ blk h) :
    ∀ (d i n : Nat) (w : World) (si so : Sl), i + d = blk h → d < n → Src w k8 (ints .u8 kk) → (∀ p, k8.a = some p → ints .u8 kk ≠ [] → p.block < B) → Own 5 w si (ints .u8 (xorB 54 ((padK h kk).take i))) → Own 5 w so (ints .u8 (xorB 92 ((padK h kk).take i))) → Fresh B si → Fresh B so → (∀ k, si.blk = some k → so.blk ≠ some k) → B ≤ w.heap.size →
      ∃ si' so' w', ref01_Code_l1 K n h b2 ((blk h : Nat) : Int) k8 si so (i : Int) w = some ((si', so', ()), w') ∧ Own 5 w' si' (ints .u8 (xorB 54 (padK h kk))) ∧ Own 5 w' so' (ints .u8 (xorB 92 (padK h kk))) ∧ Fresh B si' ∧ Fresh B so' ∧ (∀ k, si'.blk = some k → so'.blk ≠ some k) ∧ Below B w w' := by
  have hbk := blk_le h
  have hpl := padK_len hkk
  intro d
  induction d with
  | zero =>
    intro i n w si so hi hn hx hxb hoi hoo hfi hfo hne hB
    obtain ⟨n, rfl⟩ : ∃ m, n = m + 1 := ⟨n - 1, by omega⟩
    have hd : decide ((i : Int) < ((blk h : Nat) : Int)) = false := by simp; omega
    rw [List.take_of_length_le (by omega)] at hoi hoo
    refine ⟨si, so, w, ?_, hoi, hoo, hfi, hfo, hne, Below.refl B w⟩
    have eu : ref01_Code_l1 K (n + 1) = ref01_Code_l1_b K (ref01_Code_l1 K n) := rfl
    rw [eu]
    unfold ref01_Code_l1_b
    rw [hd, if_neg (by decide)]
  | succ d ih =>
    intro i n w si so hi hn hx hxb hoi hoo hfi hfo hne hB
    obtain ⟨n, rfl⟩ : ∃ m, n = m + 1 := ⟨n - 1, by omega⟩
    have hd : decide ((i : Int) < ((blk h : Nat) : Int)) = true := by simp; omega
    have e1 : IntKind.i64.wrap ((i : Int) + 1) = ((i + 1 : Nat) : Int) := by rw [w64 (by omega) (by omega)]; rfl
    have hkl : k8.len = kk.length := by rw [hx.len, ints_length]
    have hs2 : ref01_Code_s2 K k8 (i : Int) 0 (decide ((i : Int) < ((k8.len : Nat) : Int))) w = some (((padK h kk).getD i 0, ()), w) := by
      unfold ref01_Code_s2
      rw [padK_get hkk (by omega)]
      by_cases hc : i < kk.length
      · have hd2 : decide ((i : Int) < ((k8.len : Nat) : Int)) = true := by rw [hkl]; simp; omega
        obtain ⟨p, hp, hl⟩ := src_ld hx hc
        rw [hd2, if_pos rfl, hp, Option.bind_some, if_pos ⟨by omega, by rw [hkl]; omega⟩, Int.toNat_natCast, Nat.mul_one, hl, Option.bind_some, if_pos hc]
      · have hd2 : decide ((i : Int) < ((k8.len : Nat) : Int)) = false := by rw [hkl]; simp; omega
        rw [hd2, if_neg (by decide), if_neg hc]
    have hli : si.len = i := by rw [hoi.len, ints_length, xorB_len, List.length_take]; omega
    have hlo : so.len = i := by rw [hoo.len, ints_length, xorB_len, List.length_take]; omega
    obtain ⟨w1, si2, w2, a1, a2, a3, a4, a5⟩ := pushO (bits .xor .u8 ((padK h kk).getD i 0) 54) hoi (by omega)
    rw [xorB_take (by omega)] at a3
    have hoo2 := hoo.upd a4 fun k hk e => hne k e hk
    obtain ⟨w3, so2, w4, b1, b2', b3, b4, b5⟩ := pushO (bits .xor .u8 ((padK h kk).getD i 0) 92) hoo2 (by omega)
    rw [xorB_take (by omega)] at b3
    have hs2' := a4.size
    have hs4 := b4.size
    have hdis : ∀ k, si2.blk = some k → so.blk ≠ some k := fun k hk e => by
      rcases a5 k hk with a5 | a5
      · exact hne k a5 e
      · have := hoo.lt e; omega
    have hoi2 := a3.upd b4 fun k hk e => hdis k hk e
    have u : Upd (fun k => B ≤ k) w w4 := (a4.mono fun k _ e => hfi k e).trans' (b4.mono fun k _ e => hfo k e) fun _ _ e => e
    have bl : Below B w w4 := u.below hB fun k hk e => by omega
    obtain ⟨si', so', w', c1, c2, c3, c4, c5, c6, c7⟩ := ih (i + 1) n w4 si2 so2 (by omega) (by omega) (src_upd hx u fun p hp hne2 e => by have := hxb p hp hne2; omega) hxb hoi2 b3
      (fun k hk => (a5 k hk).elim (hfi k) fun e => by omega) (fun k hk => (b5 k hk).elim (hfo k) fun e => by omega)
      (fun k hk e => by
        rcases b5 k e with b5 | b5
        · exact hdis k hk b5
        · have := a3.lt hk; omega) (by omega)
    refine ⟨si', so', w', ?_, c2, c3, c4, c5, c6, bl.trans c7⟩
    have eu : ref01_Code_l1 K (n + 1) = ref01_Code_l1_b K (ref01_Code_l1 K n) := rfl
    rw [eu]
    unfold ref01_Code_l1_b
    rw [hd, if_pos rfl, hs2, bnd_ok]
    dsimp only
    rw [a1, bnd_ok]
    dsimp only
    rw [a2, bnd_ok, b1, bnd_ok]
    dsimp only
    rw [b2', bnd_ok, e1, c1]

theorem refCode_ok {K : Nat} (hK : 18446744073709551616 ≤ K) (h : Int) {C S ks xs : List Int} {w : World} (T : TabsR w C S) {k b : Sl} (hx : Src w k (ints .u8 ks)) (hin : ∀ x ∈ ks, InK .u8 x) (hlim : ks.length ≤ 1099511627776)
    (hb : Src w b (ints .u8 xs)) (hbin : ∀ x ∈ xs, InK .u8 x) (hblim : xs.length ≤ 549755813888) :
    ∃ s' w', ref01_Code K h k b w = some ((s', ()), w') ∧ Own 5 w' s' (ints .u8 (codeOf C S h ks xs)) ∧ Upd none_ w w' ∧ Fresh w.heap.size s' := by
  unfold codeOf
  cases hk : known h with
  | false =>
    have hb0 : blockOfH h = 0 := by
      have q : h ≠ 224 ∧ h ≠ 256 ∧ h ≠ 384 ∧ h ≠ 512 := by simp [known] at hk; omega
      unfold blockOfH
      rw [if_neg (by omega), if_neg (by omega)]
    refine ⟨⟨none, 0, 0⟩, w, ?_, by simpa using Own.nil 5 w, Upd.refl _ _, fun k hk => by cases hk⟩
    unfold ref01_Code
    rw [refBlock_ok, Option.bind_some, hb0]
    rfl
  | true =>
    have hb0 : blockOfH h = ((blk h : Nat) : Int) := by rcases known_cases hk with e | e | e | e <;> subst e <;> rfl
    have hbk := blk_le h
    have hbp := blk_pos h
    have hkl : k.len = ks.length := by rw [hx.len, ints_length]
    -- the key, or its digest
    have hkey : ∃ k' w1, ref01_Code_s0 K h k k (decide (((k.len : Nat) : Int) > ((blk h : Nat) : Int))) w = some ((k', ()), w1) ∧ Src w1 k' (ints .u8 (keyH C S h ks)) ∧ (∀ p, k'.a = some p → ints .u8 (keyH C S h ks) ≠ [] → p.block < w1.heap.size) ∧ Upd none_ w w1 := by
      unfold keyH
      by_cases hl : ks.length > blk h
      · have hd : decide (((k.len : Nat) : Int) > ((blk h : Nat) : Int)) = true := by rw [hkl]; simp only [decide_eq_true_eq]; omega
        obtain ⟨s1, w1, h1, o1, u1, f1⟩ := refSum_ok hK (h := h) T hx hin hlim
        unfold sumOf at o1
        rw [if_pos hk] at o1
        refine ⟨s1, w1, ?_, by rw [if_pos hl]; exact o1.src ints_one, fun p hp _ => o1.lt (by simp [Sl.blk, hp]), u1⟩
        unfold ref01_Code_s0
        rw [hd, if_pos rfl, h1, bnd_ok]
      · have hd : decide (((k.len : Nat) : Int) > ((blk h : Nat) : Int)) = false := by rw [hkl]; simp only [decide_eq_false_iff_not]; omega
        refine ⟨k, w, ?_, by rw [if_neg hl]; exact hx, fun p hp hne => ?_, Upd.refl _ _⟩
        · unfold ref01_Code_s0
          rw [hd, if_neg (by decide)]
        · rw [if_neg hl] at hne
          rcases hx.rd with ⟨e, _⟩ | ⟨q, e, hr⟩
          · rw [e] at hp; cases hp
          · rw [e] at hp; cases hp; exact hr.lt hne
    obtain ⟨k', w1, h1, hk1, hkb, u1⟩ := hkey
    have hs1 := u1.size
    obtain ⟨si, so, w2, h2, oi, oo, fi, fo, hne, bl2⟩ := refCode_l1 (K := K) (B := w1.heap.size) (h := h) (b2 := b) (keyH_len hk C S ks) (blk h) 0 K w1 ⟨none, 0, 0⟩ ⟨none, 0, 0⟩ (by omega) (by omega) hk1 hkb (by simpa [xorB] using Own.nil 5 w1) (by simpa [xorB] using Own.nil 5 w1) (fun k hk => by cases hk) (fun k hk => by cases hk) (fun k hk => by cases hk) (Nat.le_refl _)
    have h2 : ref01_Code_l1 K K h b ((blk h : Nat) : Int) k' ⟨none, 0, 0⟩ ⟨none, 0, 0⟩ 0 w1 = _ := h2
    have q2 : Upd none_ w w2 := u1.and0 (Upd.of_below bl2)
    have hs2 := bl2.size
    have hbl : b.len = xs.length := by rw [hb.len, ints_length]
    have hil : si.len = blk h := by rw [oi.len, ints_length, xorB_len, padK_len (keyH_len hk ..)]
    have hol : so.len = blk h := by rw [oo.len, ints_length, xorB_len, padK_len (keyH_len hk ..)]
    obtain ⟨s3, w3, h3, l3, o3, u3, b3⟩ := apd_ok sliceB oi (hb.upd0 q2) (by rw [hil, hbl]; omega)
    rw [← ints_append] at o3
    have oo3 := oo.upd u3 fun k hk e => hne k e hk
    have q3 : Upd none_ w w3 := q2.trans' u3 fun k hk e => by have := fi k e; omega
    have hs3 := u3.size
    have hii := ipad_in (h := h) C S hin
    obtain ⟨s4, w4, h4, o4, u4, f4⟩ := refSum_ok hK (h := h) (T.upd0 q3) (o3.src ints_one) (fun x hx => (List.mem_append.1 hx).elim (hii x) (hbin x)) (by have := ipad_len hk C S ks; unfold ipad at this; rw [List.length_append, this]; omega)
    unfold sumOf at o4
    rw [if_pos hk] at o4
    have hs4 := u4.size
    have hdl := digestOf_len h C (firstH S h) (ipad C S h ks ++ xs)
    obtain ⟨s5, w5, h5, l5, o5, u5, b5⟩ := apd_ok sliceB (oo3.upd0 u4) (o4.src ints_one) (by rw [hol, o4.len, ints_length]; show (_ + (digestOf h C (firstH S h) (ipad C S h ks ++ xs)).length) * 1 ≤ _; omega)
    rw [← ints_append] at o5
    have q5 : Upd none_ w w5 := (q3.and0 u4).trans' u5 fun k hk e => by have := fo k e; omega
    have hs5 := u5.size
    have hoi := opad_in (h := h) C S hin
    obtain ⟨s6, w6, h6, o6, u6, f6⟩ := refSum_ok hK (h := h) (T.upd0 q5) (o5.src ints_one) (fun x hx => (List.mem_append.1 hx).elim (hoi x) (digestOf_in h C _ _ x)) (by
      have := opad_len hk C S ks
      unfold opad at this
      rw [List.length_append, this]
      show _ + (digestOf h C (firstH S h) (ipad C S h ks ++ xs)).length ≤ _
      omega)
    unfold sumOf at o6
    rw [if_pos hk] at o6
    refine ⟨s6, w6, ?_, by rw [if_pos rfl]; exact o6, q5.and0 u6, fun k hk => by have := f6 k hk; have := q5.size; omega⟩
    have hne0 : (((blk h : Nat) : Int) == 0) = false := by simp; omega
    unfold ref01_Code
    rw [refBlock_ok, Option.bind_some, hb0]
    dsimp only
    rw [hne0, if_neg (by decide), h1, bnd_ok]
    dsimp only
    rw [h2, bnd_ok]
    dsimp only
    rw [h3, bnd_ok, h4, bnd_ok]
    dsimp only
    rw [h5, bnd_ok, h6, bnd_ok]

end Go.Sh

/- Expand of package digest and of the document's answer. -/
set_option linter.unusedVariables false
namespace Go.Sh
open Go.Fw Go.Sha Go.RowKit Go.Proofs.Tryd

theorem kcode_loop {K : Nat} (hK : 18446744073709551616 ≤ K) {e : TypeId} {g : Nat} {post : List Value} {h : Int} (hk : known h = true) {C S : List Int} (hg : 4 ≤ g) {s : Sl} {xss : List (List Int)} {Q : Nat → Prop} (hQ : ¬ Q g) :
    ∀ (d i n : Nat) (w : World) (xs : List Int) (a : List Value), i + d = xss.length → d < n → Bk e w g (a ++ post) → StC C S h xs a → Tabs w C S → Parts w s xss Q → xs.length + (xss.drop i).flatten.length ≤ 140737488355328 →
      ∃ w' a', digest_keyed_code_l0 K n ⟨g, 0, none⟩ s ((s.len : Nat) : Int) (i : Int) w = some ((), w') ∧ Bk e w' g (a' ++ post) ∧ StC C S h (xs ++ (xss.drop i).flatten) a' ∧ Upd (· = g) w w' := by
  intro d
  induction d with
  | zero =>
    intro i n w xs a hi hn hb sa hT hp hl
    obtain ⟨n, rfl⟩ : ∃ m, n = m + 1 := ⟨n - 1, by omega⟩
    have hd : decide ((i : Int) < ((s.len : Nat) : Int)) = false := by rw [hp.len]; simp; omega
    have e0 : xs ++ (xss.drop i).flatten = xs := by rw [List.drop_eq_nil_of_le (by omega)]; simp
    refine ⟨w, a, ?_, hb, by rw [e0]; exact sa, Upd.refl _ _⟩
    show digest_keyed_code_l0_b K (digest_keyed_code_l0 K n) ⟨g, 0, none⟩ s ((s.len : Nat) : Int) (i : Int) w = _
    unfold digest_keyed_code_l0_b
    rw [hd, if_neg (by decide)]
  | succ d ih =>
    intro i n w xs a hi hn hb sa hT hp hl
    obtain ⟨n, rfl⟩ : ∃ m, n = m + 1 := ⟨n - 1, by omega⟩
    have hm := hp.many
    have hd : decide ((i : Int) < ((s.len : Nat) : Int)) = true := by rw [hp.len]; simp; omega
    obtain ⟨p, t, h1, h2, h3, h4, h5, h6, h7⟩ := hp.at (i := i) (by omega)
    have c : (0 : Int) ≤ (i : Int) ∧ (i : Int) < ((s.len : Nat) : Int) := by rw [hp.len]; omega
    have e1 : IntKind.i64.wrap ((i : Int) + 1) = ((i + 1 : Nat) : Int) := by rw [w64 (by omega) (by omega)]; rfl
    have hdr : (xss.drop i).flatten = xss.getD i [] ++ (xss.drop (i + 1)).flatten := by rw [drop_getD (by omega) [], List.flatten_cons]
    rw [hdr, List.length_append] at hl
    obtain ⟨w1, a1, b1, b2, b3, b4⟩ := take_cells hK hk (pre := []) (post := post) (o := 0) hT sa (by rw [List.nil_append]; exact hb) rfl hg h7 (by omega) h3 (fun q hq e => hQ (e ▸ (h4 q hq).1)) (fun q hq => (h4 q hq).2)
    rw [List.nil_append] at b2
    obtain ⟨w2, a2, c1, c2, c3, c4⟩ := ih (i + 1) n w1 (xs ++ xss.getD i []) a1 (by omega) (by omega) b2 b3 (hT.upd b4 fun k hk e => by omega) (hp.upd b4 fun k hk e => hQ (e ▸ hk)) (by rw [List.length_append]; omega)
    rw [List.append_assoc, ← hdr] at c3
    refine ⟨w2, a2, ?_, c2, c3, b4.trans' c4 fun _ _ e => e⟩
    show digest_keyed_code_l0_b K (digest_keyed_code_l0 K n) ⟨g, 0, none⟩ s ((s.len : Nat) : Int) (i : Int) w = _
    unfold digest_keyed_code_l0_b
    rw [hd, if_pos rfl, h1, Option.bind_some, if_pos c, Int.toNat_natCast, Nat.mul_one, h2, Option.bind_some, add_lit, Nat.add_zero, b1, bnd_ok, e1, c1]

/-- code: of a key that was taken in, parts fed -/
theorem kcode_ok {K : Nat} (hK : 18446744073709551616 ≤ K) {h : Int} (hk : known h = true) {C S ks : List Int} {w : World} (T : Tabs w C S) {cs : List Value} (kd : KdC C S h ks [] cs) {s : Sl} {xss : List (List Int)} {Q : Nat → Prop} (hp : Parts w s xss Q) (hQ : ∀ k, Q k → k < w.heap.size) (hl : xss.flatten.length ≤ 549755813888) :
    ∃ s' w', digest_keyed_code K cs.toArray s w = some ((s', ()), w') ∧ Ans w.heap.size w' s' (macOf C S h ks xss.flatten) ∧ Upd none_ w w' := by
  have h4 := T.lt
  have hbk := blk_le h
  obtain ⟨a, b, rfl, ha, hb⟩ := kd.ex
  rw [List.append_nil] at ha
  obtain ⟨w1, n1, b1, u1, z1⟩ := newB_ok (a ++ b).toArray 89 w
  have b1 : Bk 89 w1 w.heap.size (a ++ b) := b1
  have hs1 := u1.size
  obtain ⟨w2, a2, h2, b2, st2, u2⟩ := kcode_loop hK hk (g := w.heap.size) (post := b) h4 (fun e => by have := hQ _ e; omega) xss.length 0 K w1 _ a (by omega) (by have := hp.many; omega) b1 ha (T.upd0 u1) (hp.upd0 u1) (by rw [List.drop_zero, ipad_len hk]; omega)
  have h2 : digest_keyed_code_l0 K K ⟨w.heap.size, 0, none⟩ s ((s.len : Nat) : Int) 0 w1 = _ := h2
  rw [List.drop_zero] at st2
  have kd2 : KdC C S h ks xss.flatten (a2 ++ b) := ⟨a2, b, rfl, st2, hb⟩
  have l2 := b2.ldA (i := 0) (n := 284) (by rw [kd2.len]; decide)
  rw [List.drop_zero, List.take_of_length_le (by rw [kd2.len]; decide)] at l2
  have q2 : Upd none_ w w2 := u1.trans' u2 fun k hk e => by omega
  have hs2 := q2.size
  obtain ⟨s3, w3, h3, a3, u3⟩ := keyedEnd_ok hK hk (T.upd0 q2) kd2 hl
  refine ⟨s3, w3, ?_, a3.mono hs2, q2.and0 u3⟩
  unfold digest_keyed_code
  rw [n1, bnd_ok, h2, bnd_ok, l2, Option.bind_some, h3, bnd_ok]

/-- a part as it may stand in a list -/
def PartOk (w : World) (p : Sl × List Int) : Prop := Src w p.1 (ints .u8 p.2) ∧ (∀ x ∈ p.2, InK .u8 x) ∧ p.2.length ≤ 140737488351232 ∧ ∀ q, p.1.a = some q → q.block < w.heap.size

/-- a list of parts -/
theorem some_parts {w : World} (ps : List (Sl × List Int)) (h : ∀ p ∈ ps, PartOk w p) (h0 : 0 < ps.length) (hn : ps.length ≤ 1024) :
    ∃ w', bldS prog 24 ps.length ((ps.map fun p => slV p.1).zipIdx.map fun p => (p.2, p.1)).toArray w = some (⟨some ⟨w.heap.size, 0, none⟩, ps.length, ps.length⟩, w') ∧ Parts w' ⟨some ⟨w.heap.size, 0, none⟩, ps.length, ps.length⟩ (ps.map (·.2)) (fun k => k < w'.heap.size) ∧ Upd none_ w w' := by
  have hlen : (ps.map fun p => slV p.1).length = ps.length := List.length_map ..
  obtain ⟨w2, c1, c2, c3, c4⟩ := bldS_ok sliceSS (ps.map fun p => slV p.1) (fun v hv => by obtain ⟨x, _, rfl⟩ := List.mem_map.1 hv; rfl) (by omega) (by omega) w
  rw [hlen] at c1 c2
  have hs := c3.size
  refine ⟨w2, c1, ⟨by simp, Nat.le_refl _, ?_, ?_, by simp; omega, .inr ⟨⟨w.heap.size, 0, none⟩, ps.map (·.1), rfl, by simp, c2.lt (by simp [Sl.blk]), ?_, fun i hi => ?_⟩⟩, c3⟩
  · intro xs hxs
    obtain ⟨p, hp, rfl⟩ := List.mem_map.1 hxs
    exact (h p hp).2.1
  · intro xs hxs
    obtain ⟨p, hp, rfl⟩ := List.mem_map.1 hxs
    exact (h p hp).2.2.1
  · rcases (c2.src (fun v hv => by obtain ⟨x, _, rfl⟩ := List.mem_map.1 hv; rfl)).rd with ⟨b1, _⟩ | ⟨p, b1, b2⟩
    · cases b1
    · obtain rfl := Option.some.inj b1
      rw [List.map_map]; exact b2
  · have hi2 : i < ps.length := by simpa using hi
    have e1 : (ps.map (·.1)).getD i nilS = ps[i].1 := by simp [List.getD_eq_getElem?_getD, hi2]
    have e2 : (ps.map (·.2)).getD i [] = ps[i].2 := by simp [List.getD_eq_getElem?_getD, hi2]
    obtain ⟨f1, f2, f3, f4⟩ := h ps[i] (List.getElem_mem hi2)
    rw [e1, e2]
    exact ⟨f1.upd0 c3, fun q hq => by have := f4 q hq; exact ⟨by omega, by omega⟩⟩

/-- a digest's bytes -/
def szH (h : Int) : Nat := (h / 8).toNat
theorem szH_ok {h : Int} (hk : known h = true) : sizeOfH h = ((szH h : Nat) : Int) ∧ 28 ≤ szH h ∧ szH h ≤ 64 := by
  rcases known_cases hk with e | e | e | e <;> subst e <;> exact ⟨rfl, by decide, by decide⟩
theorem digestOf_size {h : Int} (hk : known h = true) (C H0 xs : List Int) : (digestOf h C H0 xs).length = szH h := by
  unfold digestOf
  rw [List.length_take, outW_len]
  rcases known_cases hk with e | e | e | e <;> subst e <;> rfl
theorem macOf_size {h : Int} (hk : known h = true) (C S ks xs : List Int) : (macOf C S h ks xs).length = szH h := digestOf_size hk ..
theorem macOf_in (C S : List Int) (h : Int) (ks xs : List Int) : ∀ x ∈ macOf C S h ks xs, InK .u8 x := digestOf_in h C _ _

/-- the last code behind j of them -/
def expT (C S : List Int) (h : Int) (prk info : List Int) : Nat → List Int
  | 0 => []
  | j + 1 => macOf C S h prk (expT C S h prk info j ++ info ++ [((j + 1 : Nat) : Int)])
/-- j codes, one behind the other -/
def expO (C S : List Int) (h : Int) (prk info : List Int) : Nat → List Int
  | 0 => []
  | j + 1 => expO C S h prk info j ++ expT C S h prk info (j + 1)

theorem expT_len {h : Int} (hk : known h = true) (C S prk info : List Int) : ∀ j, (expT C S h prk info j).length ≤ 64
  | 0 => by simp [expT]
  | j + 1 => by unfold expT; exact macOf_len ..
theorem expT_in {h : Int} (C S prk info : List Int) : ∀ j, ∀ x ∈ expT C S h prk info j, InK .u8 x
  | 0 => by simp [expT]
  | j + 1 => by unfold expT; exact macOf_in C S h prk _
theorem expO_len {h : Int} (hk : known h = true) (C S prk info : List Int) : ∀ j, (expO C S h prk info j).length = j * szH h
  | 0 => by simp [expO]
  | j + 1 => by unfold expO; rw [List.length_append, expO_len hk C S prk info j, Nat.succ_mul]; congr 1; exact macOf_size hk ..

/-- how many codes it takes -/
def cnt (h : Int) (n : Nat) : Nat := (n + szH h - 1) / szH h
theorem cnt_ok {h : Int} (hk : known h = true) {n : Nat} (hn : 0 < n) : n ≤ cnt h n * szH h ∧ 0 < cnt h n ∧ ∀ j, j < cnt h n → j * szH h < n := by
  obtain ⟨_, h1, h2⟩ := szH_ok hk
  unfold cnt
  have h3 := Nat.div_add_mod (n + szH h - 1) (szH h)
  have h4 := Nat.mod_lt (n + szH h - 1) (show 0 < szH h by omega)
  obtain ⟨q, hq⟩ : ∃ q, (n + szH h - 1) / szH h = q := ⟨_, rfl⟩
  rw [hq] at h3 ⊢
  have h5 : szH h * q = q * szH h := Nat.mul_comm ..
  refine ⟨by omega, ?_, fun j hj => ?_⟩
  · cases q with
    | zero => rw [Nat.mul_zero] at h3; omega
    | succ q => omega
  · have : (j + 1) * szH h ≤ q * szH h := Nat.mul_le_mul_right _ hj
    rw [Nat.succ_mul] at this; omega

theorem in_byte {j : Nat} (hj : j < 256) : InK .u8 (j : Int) := ⟨Int.natCast_nonneg _, by simp only [IntKind.bits]; omega⟩

theorem Ans.own {B : Nat} {w : World} {s : Sl} {zs : List Int} (h : Ans B w s zs) : ∀ q, s.a = some q → q.block < w.heap.size := lt_of_blk fun _ hk => h.lt hk

theorem Expand_l2 {K : Nat} (hK : 18446744073709551616 ≤ K) {h : Int} (hk : known h = true) {C S prk info : List Int} {si : Sl} (hin : ∀ x ∈ info, InK .u8 x) (hil : info.length ≤ 33554432) {n : Nat} (hn : 0 < n) (hn2 : n ≤ 255 * szH h) {m : Nat} {B : Nat} (hm : m < B) {cs : List Value} (kd : KdC C S h prk [] cs) :
    ∀ (d j k : Nat) (w : World) (out t : Sl), j + d = cnt h n → d < k → Tabs w C S → Bk 89 w m cs → PartOk w (si, info) → (∀ q, si.a = some q → q.block < B) → PartOk w (t, expT C S h prk info j) → Own 5 w out (ints .u8 (expO C S h prk info j)) → Fresh B out → (∀ q, t.a = some q → out.blk ≠ some q.block) → 4 ≤ B → B ≤ w.heap.size →
      ∃ out' w', digest_Expand_l2 K k si (n : Int) ⟨m, 0, none⟩ out t (IntKind.u8.wrap ((j + 1 : Nat) : Int)) w = some ((out', ()), w') ∧ Own 5 w' out' (ints .u8 (expO C S h prk info (cnt h n))) ∧ Fresh B out' ∧ Below B w w' := by
  obtain ⟨hsz, hs28, hs64⟩ := szH_ok hk
  obtain ⟨hc1, hc2, hc3⟩ := cnt_ok hk hn
  have hc255 : cnt h n ≤ 255 := by
    rcases Nat.lt_or_ge 255 (cnt h n) with e | e
    · have := hc3 255 e; omega
    · exact e
  intro d
  induction d with
  | zero =>
    intro j k w out t hj hkk hT hm1 hsi hsib ht ho hf hne h4 hB
    obtain ⟨k, rfl⟩ : ∃ q, k = q + 1 := ⟨k - 1, by omega⟩
    have hol : out.len = j * szH h := by rw [ho.len, ints_length, expO_len hk]
    have hjj : j = cnt h n := by omega
    have hd : decide (((out.len : Nat) : Int) < (n : Int)) = false := by rw [hol, hjj]; simp only [decide_eq_false_iff_not]; omega
    refine ⟨out, w, ?_, hjj ▸ ho, hf, Below.refl B w⟩
    have eu : digest_Expand_l2 K (k + 1) = digest_Expand_l2_b K (digest_Expand_l2 K k) := rfl
    rw [eu]
    unfold digest_Expand_l2_b
    rw [hd, if_neg (by decide)]
  | succ d ih =>
    intro j k w out t hj hkk hT hm1 hsi hsib ht ho hf hne h4 hB
    obtain ⟨k, rfl⟩ : ∃ q, k = q + 1 := ⟨k - 1, by omega⟩
    have hol : out.len = j * szH h := by rw [ho.len, ints_length, expO_len hk]
    have hjl := hc3 j (by omega)
    have hd : decide (((out.len : Nat) : Int) < (n : Int)) = true := by rw [hol]; simp only [decide_eq_true_eq]; omega
    have ei : IntKind.u8.wrap ((j + 1 : Nat) : Int) = ((j + 1 : Nat) : Int) := w8 (by omega) (by omega)
    have ei2 : IntKind.u8.wrap (((j + 1 : Nat) : Int) + 1) = IntKind.u8.wrap ((j + 1 + 1 : Nat) : Int) := by congr 1
    have lA := hm1.ldA (i := 0) (n := 284) (by rw [kd.len]; decide)
    rw [List.drop_zero, List.take_of_length_le (by rw [kd.len]; decide)] at lA
    obtain ⟨w1, b1, b2, u1, z1⟩ := bldS1_ok sliceB (.int .u8 ((j + 1 : Nat) : Int)) rfl w
    have hs1 := u1.size
    have p1 : PartOk w1 (t, expT C S h prk info j) := ⟨ht.1.upd0 u1, ht.2.1, ht.2.2.1, fun q hq => by have := ht.2.2.2 q hq; omega⟩
    have p2 : PartOk w1 (si, info) := ⟨hsi.1.upd0 u1, hsi.2.1, hsi.2.2.1, fun q hq => by have := hsi.2.2.2 q hq; omega⟩
    have p3 : PartOk w1 (⟨some ⟨w.heap.size, 0, none⟩, 1, 1⟩, [((j + 1 : Nat) : Int)]) := ⟨b2.src (by simp [Value.oneCell']), fun x hx => by obtain rfl := List.mem_singleton.1 hx; exact in_byte (by omega), by simp, fun q hq => by obtain rfl := Option.some.inj hq; exact b2.lt (by simp [Sl.blk])⟩
    obtain ⟨w2, c1, c2, u2⟩ := some_parts [(t, expT C S h prk info j), (si, info), (⟨some ⟨w.heap.size, 0, none⟩, 1, 1⟩, [((j + 1 : Nat) : Int)])] (fun p hp => by
      simp only [List.mem_cons, List.not_mem_nil, or_false] at hp
      rcases hp with rfl | rfl | rfl
      · exact p1
      · exact p2
      · exact p3) (by simp) (by simp)
    have c1 : bldS prog 24 3 #[(0, (.slice t.a t.len t.cap)), (1, (.slice si.a si.len si.cap)), (2, (.slice (some ⟨w.heap.size, 0, none⟩) 1 1))] w1 = some (⟨some ⟨w1.heap.size, 0, none⟩, 3, 3⟩, w2) := c1
    have c2 : Parts w2 ⟨some ⟨w1.heap.size, 0, none⟩, 3, 3⟩ ([(t, expT C S h prk info j), (si, info), (⟨some ⟨w.heap.size, 0, none⟩, 1, 1⟩, [((j + 1 : Nat) : Int)])].map (·.2)) (fun k => k < w2.heap.size) := c2
    have hs2 := u2.size
    have hfl : ([(t, expT C S h prk info j), (si, info), (⟨some ⟨w.heap.size, 0, none⟩, 1, 1⟩, [((j + 1 : Nat) : Int)])].map (·.2)).flatten = expT C S h prk info j ++ info ++ [((j + 1 : Nat) : Int)] := by simp
    have htl := expT_len hk C S prk info j
    obtain ⟨s3, w3, d1, d2, u3⟩ := kcode_ok hK hk ((hT.upd0 u1).upd0 u2) kd c2 (fun k hk => hk) (by rw [hfl, List.length_append, List.length_append]; simp only [List.length_singleton]; omega)
    rw [hfl] at d2
    have e3 : macOf C S h prk (expT C S h prk info j ++ info ++ [((j + 1 : Nat) : Int)]) = expT C S h prk info (j + 1) := rfl
    rw [e3] at d2
    have hs3 := u3.size
    have q3 := (u1.and0 u2).and0 u3
    have htl2 := expT_len hk C S prk info (j + 1)
    obtain ⟨s4, w4, f1, f2, f3, u4, f5⟩ := apd_ok sliceB (ho.upd0 q3) d2.src (by rw [hol, d2.len]; have : j * szH h ≤ 255 * 64 := Nat.mul_le_mul (by omega) hs64; omega)
    rw [← ints_append] at f3
    have f3 : Own 5 w4 s4 (ints .u8 (expO C S h prk info (j + 1))) := f3
    have hs4 := u4.size
    have hob : ∀ k, out.blk = some k → k < w.heap.size := fun k hk => ho.lt hk
    have q4 : Upd (fun k => out.blk = some k) w w4 := (q3.mono (T := fun k => out.blk = some k) fun _ _ e => e.elim).trans' u4 fun _ _ e => e
    have bl : Below B w w4 := q4.below hB fun k hk e => by have := hf k e; omega
    have hs3b : ∀ q, s3.a = some q → w2.heap.size ≤ q.block ∧ q.block < w3.heap.size := fun q hq => ⟨d2.fresh q.block (by simp [Sl.blk, hq]), d2.own q hq⟩
    have pn : PartOk w4 (s3, expT C S h prk info (j + 1)) := ⟨d2.src.upd u4 fun q hq e => by have := hs3b q hq; have := hob _ e; omega, expT_in C S prk info (j + 1), by show (expT C S h prk info (j + 1)).length ≤ _; omega, fun q hq => by have := hs3b q hq; omega⟩
    obtain ⟨out', w', g1, g2, g3, g4⟩ := ih (j + 1) k w4 s4 s3 (by omega) (by omega) (hT.upd q4 fun k hk e => by have := hf k e; omega) (hm1.upd q4 fun e => by have := hf m e; omega)
      ⟨hsi.1.upd q4 fun q hq e => by have := hf _ e; have := hsib q hq; omega, hsi.2.1, hsi.2.2.1, fun q hq => by have := hsi.2.2.2 q hq; have := q4.size; omega⟩ hsib pn f3
      (fun k hk => by
        rcases f5 with f5 | f5
        · exact hf k (f5 ▸ hk)
        · rw [f5] at hk; have := Option.some.inj hk; omega)
      (fun q hq e => by
        have := hs3b q hq
        rcases f5 with f5 | f5
        · rw [f5] at e; have := hob _ e; omega
        · rw [f5] at e; have := Option.some.inj e; omega) h4 (by have := q4.size; omega)
    refine ⟨out', w', ?_, g2, g3, bl.trans g4⟩
    have eu : digest_Expand_l2 K (k + 1) = digest_Expand_l2_b K (digest_Expand_l2 K k) := rfl
    rw [eu]
    unfold digest_Expand_l2_b
    rw [hd, if_pos rfl, lA, Option.bind_some, ei, b1, bnd_ok]
    dsimp only
    rw [c1, bnd_ok, d1, bnd_ok]
    dsimp only
    rw [f1, bnd_ok, ei2, g1]

/-- what Expand refuses -/
def expErr (h : Int) (p i : Nat) (n : Int) : Int :=
  if known h = false then 10 else if (p : Int) < sizeOfH h then 15 else if p > 33554432 ∨ i > 33554367 then 4 else if n < 1 ∨ n > 255 * sizeOfH h then 12 else 0
/-- what it tells -/
def expOf (C S : List Int) (h : Int) (prk info : List Int) (n : Int) : List Int :=
  if expErr h prk.length info.length n = 0 then (expO C S h prk info (cnt h n.toNat)).take n.toNat else []

theorem w255 {h : Int} (hk : known h = true) : IntKind.i64.wrap (255 * sizeOfH h) = 255 * sizeOfH h := by
  obtain ⟨e, h1, h2⟩ := szH_ok hk
  rw [e]; exact w64 (by omega) (by omega)

theorem expErr_10 {h : Int} (hk : known h = false) (p i : Nat) (n : Int) : expErr h p i n = 10 := by unfold expErr; rw [if_pos hk]
theorem expErr_15 {h : Int} (hk : known h = true) {p : Nat} (h1 : (p : Int) < sizeOfH h) (i : Nat) (n : Int) : expErr h p i n = 15 := by
  unfold expErr; rw [if_neg (by rw [hk]; decide), if_pos h1]
theorem expErr_4 {h : Int} (hk : known h = true) {p i : Nat} (h1 : ¬ (p : Int) < sizeOfH h) (h2 : p > 33554432 ∨ i > 33554367) (n : Int) : expErr h p i n = 4 := by
  unfold expErr; rw [if_neg (by rw [hk]; decide), if_neg h1, if_pos h2]
theorem expErr_12 {h : Int} (hk : known h = true) {p i : Nat} (h1 : ¬ (p : Int) < sizeOfH h) (h2 : ¬ (p > 33554432 ∨ i > 33554367)) {n : Int} (h3 : n < 1 ∨ n > 255 * sizeOfH h) : expErr h p i n = 12 := by
  unfold expErr; rw [if_neg (by rw [hk]; decide), if_neg h1, if_neg h2, if_pos h3]
theorem expErr_0 {h : Int} (hk : known h = true) {p i : Nat} (h1 : ¬ (p : Int) < sizeOfH h) (h2 : ¬ (p > 33554432 ∨ i > 33554367)) {n : Int} (h3 : ¬ (n < 1 ∨ n > 255 * sizeOfH h)) : expErr h p i n = 0 := by
  unfold expErr; rw [if_neg (by rw [hk]; decide), if_neg h1, if_neg h2, if_neg h3]

theorem Expand_s0_ok {K : Nat} {h : Int} {prk info : Sl} {n : Int} (w : World) :
    digest_Expand_s0 K prk info n (sizeOfH h) w = some (if expErr h prk.len info.len n = 0 then .norm () else .ret (⟨none, 0, 0⟩, expErr h prk.len info.len n, ()), w) := by
  unfold digest_Expand_s0
  rw [size_zero]
  cases hk : known h with
  | false => rw [expErr_10 hk]; rfl
  | true =>
    rw [if_neg (by decide)]
    by_cases h1 : (prk.len : Int) < sizeOfH h
    · rw [decide_eq_true h1, if_pos rfl, expErr_15 hk h1, if_neg (by decide)]
    · rw [decide_eq_false h1, if_neg (by decide)]
      unfold digest_Expand_s1
      by_cases h2 : prk.len > 33554432
      · have hd : decide (((prk.len : Nat) : Int) > 33554432) = true := by simp only [decide_eq_true_eq]; omega
        rw [hd, if_pos rfl, bnd_ok, if_pos rfl, expErr_4 hk h1 (.inl h2), if_neg (by decide)]
      · have hd : decide (((prk.len : Nat) : Int) > 33554432) = false := by simp only [decide_eq_false_iff_not]; omega
        rw [hd, if_neg (by decide), bnd_ok]
        dsimp only
        by_cases h3 : info.len > 33554367
        · have hd : decide (((info.len : Nat) : Int) > 33554367) = true := by simp only [decide_eq_true_eq]; omega
          rw [hd, if_pos rfl, expErr_4 hk h1 (.inr h3), if_neg (by decide)]
        · have hd : decide (((info.len : Nat) : Int) > 33554367) = false := by simp only [decide_eq_false_iff_not]; omega
          have h23 : ¬ (prk.len > 33554432 ∨ info.len > 33554367) := by omega
          rw [hd, if_neg (by decide), w255 hk]
          by_cases h4 : n < 1
          · rw [decide_eq_true h4, if_pos rfl, expErr_12 hk h1 h23 (.inl h4), if_neg (by decide)]
          · rw [decide_eq_false h4, if_neg (by decide)]
            by_cases h5 : n > 255 * sizeOfH h
            · rw [decide_eq_true h5, if_pos rfl, expErr_12 hk h1 h23 (.inr h5), if_neg (by decide)]
            · rw [decide_eq_false h5, if_neg (by decide), expErr_0 hk h1 h23 (by omega), if_pos rfl]

theorem refExpandError_ok (h : Int) (p i : Nat) (n : Int) : ref01_ExpandError h (p : Int) (i : Int) n = some (expErr h p i n, ()) := by
  unfold ref01_ExpandError
  rw [refSize_ok, Option.bind_some]
  dsimp only
  rw [size_zero]
  cases hk : known h with
  | false => rw [expErr_10 hk]; rfl
  | true =>
    rw [if_neg (by decide)]
    by_cases h1 : (p : Int) < sizeOfH h
    · rw [decide_eq_true h1, if_pos rfl, expErr_15 hk h1]
    · rw [decide_eq_false h1, if_neg (by decide)]
      unfold ref01_ExpandError_s0
      by_cases h2 : p > 33554432
      · have hd : decide (((p : Nat) : Int) > 33554432) = true := by simp only [decide_eq_true_eq]; omega
        rw [hd, if_pos rfl, Option.bind_some, expErr_4 hk h1 (.inl h2)]
        rfl
      · have hd : decide (((p : Nat) : Int) > 33554432) = false := by simp only [decide_eq_false_iff_not]; omega
        rw [hd, if_neg (by decide), Option.bind_some]
        dsimp only
        by_cases h3 : i > 33554367
        · have hd : decide (((i : Nat) : Int) > 33554367) = true := by simp only [decide_eq_true_eq]; omega
          rw [hd, if_pos rfl, expErr_4 hk h1 (.inr h3)]
        · have hd : decide (((i : Nat) : Int) > 33554367) = false := by simp only [decide_eq_false_iff_not]; omega
          have h23 : ¬ (p > 33554432 ∨ i > 33554367) := by omega
          rw [hd, if_neg (by decide), w255 hk]
          by_cases h4 : n < 1
          · rw [decide_eq_true h4, if_pos rfl, expErr_12 hk h1 h23 (.inl h4)]
          · rw [decide_eq_false h4, if_neg (by decide)]
            by_cases h5 : n > 255 * sizeOfH h
            · rw [decide_eq_true h5, if_pos rfl, expErr_12 hk h1 h23 (.inr h5)]
            · rw [decide_eq_false h5, if_neg (by decide), expErr_0 hk h1 h23 (by omega)]

theorem expErr_zero {h : Int} {p i : Nat} {n : Int} (he : expErr h p i n = 0) : known h = true ∧ p ≤ 33554432 ∧ i ≤ 33554367 ∧ ∃ m : Nat, n = (m : Int) ∧ 0 < m ∧ m ≤ 255 * szH h := by
  unfold expErr at he
  cases hk : known h with
  | false => rw [hk] at he; simp at he
  | true =>
    rw [hk, if_neg (by decide)] at he
    split at he
    · cases he
    · split at he
      · cases he
      · split at he
        · cases he
        · rename_i h1 h2 h3
          obtain ⟨e, _⟩ := szH_ok hk
          exact ⟨rfl, by omega, by omega, n.toNat, by omega, by omega, by omega⟩

theorem _root_.Go.Fw.Own.front {e : TypeId} {w : World} {s : Sl} {xs : List Value} (h : Own e w s xs) (hne : xs ≠ []) {n c : Nat} (hn : n ≤ s.len) (hc1 : n ≤ c) (hc : c ≤ s.cap) : Vw e w ⟨s.a, n, c⟩ (xs.take n) := by
  obtain ⟨g, cs, a1, a2, a3, a4, a5, a6⟩ := h.bk hne
  refine ⟨by rw [List.length_take, h.1]; exact Nat.min_eq_left hn, .inr ⟨g, 0, cs, a1, a2, hc1, by show c ≤ maxLen; omega, by show 0 + c ≤ cs.length; omega, ?_⟩⟩
  show (cs.drop 0).take n = _
  rw [List.drop_zero, ← a6, List.take_take, Nat.min_eq_left hn]

theorem Expand_any {K : Nat} (hK : 18446744073709551616 ≤ K) (h : Int) {C S prk info : List Int} {w : World} (T : Tabs w C S) {sp si : Sl} (hp : PartOk w (sp, prk)) (hi : PartOk w (si, info)) (n : Int) :
    ∃ s' w', digest_Expand K h sp si n w = some ((s', expErr h prk.length info.length n, ()), w') ∧ Vw 5 w' s' (ints .u8 (expOf C S h prk info n)) ∧ Fresh w.heap.size s' ∧ Upd none_ w w' := by
  have h4 := T.lt
  have hpl : sp.len = prk.length := by rw [hp.1.len, ints_length]
  have hil : si.len = info.length := by rw [hi.1.len, ints_length]
  obtain ⟨w1, h1, u1⟩ := Size_ok h w
  have hs1 := u1.size
  have hs0 := Expand_s0_ok (K := K) (h := h) (prk := sp) (info := si) (n := n) w1
  rw [hpl, hil] at hs0
  unfold expOf
  by_cases he : expErr h prk.length info.length n = 0
  · rw [if_pos he] at hs0 ⊢
    obtain ⟨hk, hl1, hl2, m, rfl, hm0, hm1⟩ := expErr_zero he
    rw [Int.toNat_natCast]
    obtain ⟨hsz, hs28, hs64⟩ := szH_ok hk
    obtain ⟨hc1, hc2, hc3⟩ := cnt_ok hk hm0
    obtain ⟨cs, w2, h2, kd, u2⟩ := key_ok hK hk (T.upd0 u1) (hp.1.upd0 u1) hp.2.1 (show prk.length ≤ 1099511627776 by omega) (fun q hq => by have := hp.2.2.2 q hq; show q.block < _; omega)
    have hs2 := u2.size
    obtain ⟨w3, n3, b3, u3, z3⟩ := newB_ok z89 89 w2
    obtain ⟨w4, s4, b4, u4, _⟩ := lay b3 (vs := cs) (by rw [kd.len]; kernel_rfl) kd.one
    have hs3 := u3.size
    have hs4 := u4.size
    have q4 : Upd none_ w w4 := ((u1.and0 u2).and0 u3).trans' u4 fun k hk e => by omega
    obtain ⟨out, w5, h5, o5, f5, bl5⟩ := Expand_l2 hK hk (C := C) (S := S) (prk := prk) (info := info) (si := si) hi.2.1 (by omega) hm0 hm1 (m := w2.heap.size) (B := w4.heap.size) b4.lt kd (cnt h m) 0 K w4 ⟨none, 0, 0⟩ ⟨none, 0, 0⟩ (by omega)
      (by have : cnt h m ≤ 255 := by
            rcases Nat.lt_or_ge 255 (cnt h m) with e | e
            · have := hc3 255 e; omega
            · exact e
          omega) (T.upd0 q4) b4 ⟨hi.1.upd0 q4, hi.2.1, hi.2.2.1, fun q hq => by have := hi.2.2.2 q hq; show q.block < _; omega⟩ (fun q hq => by have := hi.2.2.2 q hq; omega)
      ⟨⟨rfl, Nat.le_refl _, .inl ⟨rfl, rfl, rfl⟩, ints_one⟩, (fun x hx => by simp [expT] at hx), Nat.zero_le _, fun q hq => by cases hq⟩ (Own.nil 5 w4) (fun k hk => by cases hk) (fun q hq => by cases hq) (by omega) (Nat.le_refl _)
    have h5 : digest_Expand_l2 K K si (m : Int) ⟨w2.heap.size, 0, none⟩ ⟨none, 0, 0⟩ ⟨none, 0, 0⟩ 1 w4 = _ := h5
    have hol : out.len = cnt h m * szH h := by rw [o5.len, ints_length, expO_len hk]
    have hcap := o5.cap
    have hne : ints .u8 (expO C S h prk info (cnt h m)) ≠ [] := fun e => by
      have := congrArg List.length e
      rw [ints_length, expO_len hk] at this
      simp at this; omega
    have hv := o5.front hne (n := m) (c := m) (by omega) (Nat.le_refl _) (by omega)
    rw [ints_take] at hv
    obtain ⟨g5, cs5, a1, _⟩ := o5.bk hne
    have esl : sla out.a 0 m 1 = out.a := sla_zero ..
    refine ⟨⟨out.a, m, m⟩, w5, ?_, hv, fun k hk => by have := f5 k hk; have := q4.size; omega, q4.and0 (Upd.of_below bl5)⟩
    unfold digest_Expand
    rw [h1, bnd_ok, hs0, bnd_ok]
    dsimp only
    rw [h2, bnd_ok, n3, bnd_ok]
    dsimp only
    rw [if_pos (by rw [List.size_toArray, kd.len]), s4, Option.bind_some, h5, bnd_ok]
    dsimp only
    rw [if_pos (by omega), Int.toNat_natCast, if_pos (by omega), esl, he, Nat.sub_zero]
  · rw [if_neg he] at hs0 ⊢
    refine ⟨⟨none, 0, 0⟩, w1, ?_, Vw.nil 5 w1, (fun k hk => by cases hk), u1⟩
    unfold digest_Expand
    rw [h1, bnd_ok, hs0, bnd_ok]

end Go.Sh

/- Expand of the document's answer. -/
set_option linter.unusedVariables false
namespace Go.Sh
open Go.Fw Go.Sha Go.RowKit Go.Proofs.Tryd

theorem refExpand_l0 {K : Nat} (hK : 18446744073709551616 ≤ K) {h : Int} (hk : known h = true) {C S prk info : List Int} {sp si : Sl} (hpi : ∀ x ∈ prk, InK .u8 x) (hpl : prk.length ≤ 1099511627776) (hin : ∀ x ∈ info, InK .u8 x) (hil : info.length ≤ 33554432) {n : Nat} (hn : 0 < n) (hn2 : n ≤ 255 * szH h) {B : Nat} :
    ∀ (d j k : Nat) (w : World) (out t : Sl), j + d = cnt h n → d < k → TabsR w C S → Src w sp (ints .u8 prk) → (∀ q, sp.a = some q → ints .u8 prk ≠ [] → q.block < B) → Src w si (ints .u8 info) → (∀ q, si.a = some q → ints .u8 info ≠ [] → q.block < B) → Own 5 w t (ints .u8 (expT C S h prk info j)) → Own 5 w out (ints .u8 (expO C S h prk info j)) → Fresh B out → (∀ k, t.blk = some k → out.blk ≠ some k) → 4 ≤ B → B ≤ w.heap.size →
      ∃ out' w', ref01_Expand_l0 K k h sp si (n : Int) out t ((j + 1 : Nat) : Int) w = some ((out', ()), w') ∧ Own 5 w' out' (ints .u8 (expO C S h prk info (cnt h n))) ∧ Fresh B out' ∧ Below B w w' := by
  obtain ⟨hsz, hs28, hs64⟩ := szH_ok hk
  obtain ⟨hc1, hc2, hc3⟩ := cnt_ok hk hn
  have hc255 : cnt h n ≤ 255 := by
    rcases Nat.lt_or_ge 255 (cnt h n) with e | e
    · have := hc3 255 e; omega
    · exact e
  intro d
  induction d with
  | zero =>
    intro j k w out t hj hkk hT hp hpb hi hib ht ho hf hne h4 hB
    obtain ⟨k, rfl⟩ : ∃ q, k = q + 1 := ⟨k - 1, by omega⟩
    have hol : out.len = j * szH h := by rw [ho.len, ints_length, expO_len hk]
    have hjj : j = cnt h n := by omega
    have hd : decide (((out.len : Nat) : Int) < (n : Int)) = false := by rw [hol, hjj]; simp only [decide_eq_false_iff_not]; omega
    refine ⟨out, w, ?_, hjj ▸ ho, hf, Below.refl B w⟩
    have eu : ref01_Expand_l0 K (k + 1) = ref01_Expand_l0_b K (ref01_Expand_l0 K k) := rfl
    rw [eu]
    unfold ref01_Expand_l0_b
    rw [hd, if_neg (by decide)]
  | succ d ih =>
    intro j k w out t hj hkk hT hp hpb hi hib ht ho hf hne h4 hB
    obtain ⟨k, rfl⟩ : ∃ q, k = q + 1 := ⟨k - 1, by omega⟩
    have hol : out.len = j * szH h := by rw [ho.len, ints_length, expO_len hk]
    have hjl := hc3 j (by omega)
    have hd : decide (((out.len : Nat) : Int) < (n : Int)) = true := by rw [hol]; simp only [decide_eq_true_eq]; omega
    have ei : IntKind.u8.wrap ((j + 1 : Nat) : Int) = ((j + 1 : Nat) : Int) := w8 (by omega) (by omega)
    have ei2 : IntKind.i64.wrap (((j + 1 : Nat) : Int) + 1) = ((j + 1 + 1 : Nat) : Int) := by rw [w64 (by omega) (by omega)]; rfl
    have htl := expT_len hk C S prk info j
    have hst : t.len = (expT C S h prk info j).length := by rw [ht.len, ints_length]
    have hsi : si.len = info.length := by rw [hi.len, ints_length]
    obtain ⟨x1, w1, a1, l1, o1, u1, f1⟩ := apd_ok sliceB (Own.nil 5 w) (ht.src ints_one) (by show (0 + t.len) * 1 ≤ _; omega)
    rw [List.nil_append] at o1
    have a1 : apd prog 25 25 (.slice none 0 0) (.slice t.a t.len t.cap) w = some (x1, w1) := a1
    have u1' : Upd none_ w w1 := u1.mono fun k _ e => by cases e
    have hs1 := u1'.size
    have fx1 : ∀ k, x1.blk = some k → w.heap.size ≤ k := fun k hk => by
      rcases f1 with e | e
      · rw [e] at hk; cases hk
      · rw [e] at hk; have := Option.some.inj hk; omega
    have hx1 : x1.len = (expT C S h prk info j).length := by rw [o1.len, ints_length]
    obtain ⟨x2, w2, a2, l2, o2, u2, f2⟩ := apd_ok sliceB o1 (hi.upd0 u1') (by rw [hx1, hsi]; omega)
    rw [← ints_append] at o2
    have q2 : Upd none_ w w2 := u1'.trans' u2 fun k hk e => by have := fx1 k e; omega
    have fx2 : ∀ k, x2.blk = some k → w.heap.size ≤ k := fun k hk => by
      rcases f2 with e | e
      · exact fx1 k (e ▸ hk)
      · rw [e] at hk; have := Option.some.inj hk; omega
    have hx2 : x2.len = (expT C S h prk info j).length + info.length := by rw [o2.len, ints_length, List.length_append]
    have hs2 := u2.size
    obtain ⟨w3, x4, w4, a3, a4, o4, u4, f4⟩ := pushO ((j + 1 : Nat) : Int) o2 (by omega)
    have q4 : Upd none_ w w4 := q2.trans' u4 fun k hk e => by have := fx2 k e; omega
    have hs4 := q4.size
    obtain ⟨r, w5, a5, o5, u5, f5⟩ := refCode_ok hK h (hT.upd0 q4) (hp.upd0 q4) hpi hpl (o4.src ints_one) (fun x hx => by
      rcases List.mem_append.1 hx with hx | hx
      · rcases List.mem_append.1 hx with hx | hx
        · exact expT_in C S prk info j x hx
        · exact hin x hx
      · obtain rfl := List.mem_singleton.1 hx; exact in_byte (by omega)) (by rw [List.length_append, List.length_append, List.length_singleton]; omega)
    unfold codeOf at o5
    rw [if_pos hk] at o5
    have o5 : Own 5 w5 r (ints .u8 (expT C S h prk info (j + 1))) := o5
    have q5 := q4.and0 u5
    have hs5 := u5.size
    have htl2 := expT_len hk C S prk info (j + 1)
    obtain ⟨s6, w6, a6, l6, o6, u6, f6⟩ := apd_ok sliceB (ho.upd0 q5) (o5.src ints_one) (by rw [hol, o5.len, ints_length]; have : j * szH h ≤ 255 * 64 := Nat.mul_le_mul (by omega) hs64; omega)
    rw [← ints_append] at o6
    have o6 : Own 5 w6 s6 (ints .u8 (expO C S h prk info (j + 1))) := o6
    have hob : ∀ k, out.blk = some k → k < w.heap.size := fun k hk => ho.lt hk
    have q6 : Upd (fun k => out.blk = some k) w w6 := (q5.mono (T := fun k => out.blk = some k) fun _ _ e => e.elim).trans' u6 fun _ _ e => e
    have bl : Below B w w6 := q6.below hB fun k hk e => by have := hf k e; omega
    have or6 := o5.upd u6 fun k hk e => by have := f5 k hk; have := hob k e; omega
    obtain ⟨out', w', g1, g2, g3, g4⟩ := ih (j + 1) k w6 s6 r (by omega) (by omega) (hT.upd q6 fun k hk e => by have := hf k e; omega)
      (src_upd hp q6 fun q hq hne2 e => by have := hf _ e; have := hpb q hq hne2; omega) hpb (src_upd hi q6 fun q hq hne2 e => by have := hf _ e; have := hib q hq hne2; omega) hib or6 o6
      (fun k hk => by
        rcases f6 with f6 | f6
        · exact hf k (f6 ▸ hk)
        · rw [f6] at hk; have := Option.some.inj hk; omega)
      (fun k hk e => by
        have := f5 k hk
        have := o5.lt hk
        rcases f6 with f6 | f6
        · rw [f6] at e; have := hob _ e; omega
        · rw [f6] at e; have := Option.some.inj e; omega) h4 (by have := q6.size; omega)
    refine ⟨out', w', ?_, g2, g3, bl.trans g4⟩
    have eu : ref01_Expand_l0 K (k + 1) = ref01_Expand_l0_b K (ref01_Expand_l0 K k) := rfl
    rw [eu]
    unfold ref01_Expand_l0_b
    rw [hd, if_pos rfl, a1, bnd_ok, a2, bnd_ok, ei, a3, bnd_ok]
    dsimp only
    rw [a4, bnd_ok, a5, bnd_ok]
    dsimp only
    rw [a6, bnd_ok, ei2, g1]

theorem refExpand_ok {K : Nat} (hK : 18446744073709551616 ≤ K) (h : Int) {C S prk info : List Int} {w : World} (T : TabsR w C S) {sp si : Sl} (hp : Src w sp (ints .u8 prk)) (hpi : ∀ x ∈ prk, InK .u8 x) (hi : Src w si (ints .u8 info)) (hin : ∀ x ∈ info, InK .u8 x) {n : Int} (he : expErr h prk.length info.length n = 0) :
    ∃ s' w', ref01_Expand K h sp si n w = some ((s', ()), w') ∧ Vw 5 w' s' (ints .u8 (expOf C S h prk info n)) ∧ Fresh w.heap.size s' ∧ Upd none_ w w' := by
  have h4 := T.lt
  unfold expOf
  rw [if_pos he]
  obtain ⟨hk, hl1, hl2, m, rfl, hm0, hm1⟩ := expErr_zero he
  rw [Int.toNat_natCast]
  obtain ⟨hsz, hs28, hs64⟩ := szH_ok hk
  obtain ⟨hc1, hc2, hc3⟩ := cnt_ok hk hm0
  have hlt : ∀ {s : Sl} {xs : List Int}, Src w s (ints .u8 xs) → ∀ q, s.a = some q → ints .u8 xs ≠ [] → q.block < w.heap.size := by
    intro s xs hs q hq hne
    rcases hs.rd with ⟨e, _⟩ | ⟨p, e, hr⟩
    · rw [e] at hq; cases hq
    · rw [e] at hq; cases hq; exact hr.lt hne
  obtain ⟨out, w5, h5, o5, f5, bl5⟩ := refExpand_l0 hK hk (C := C) (S := S) (prk := prk) (info := info) (sp := sp) (si := si) hpi (by omega) hin (by omega) hm0 hm1 (B := w.heap.size) (cnt h m) 0 K w ⟨none, 0, 0⟩ ⟨none, 0, 0⟩ (by omega)
    (by have : cnt h m ≤ 255 := by
          rcases Nat.lt_or_ge 255 (cnt h m) with e | e
          · have := hc3 255 e; omega
          · exact e
        omega) T hp (hlt hp) hi (hlt hi) (Own.nil 5 w) (Own.nil 5 w) (fun k hk => by cases hk) (fun k hk => by cases hk) h4 (Nat.le_refl _)
  have h5 : ref01_Expand_l0 K K h sp si (m : Int) ⟨none, 0, 0⟩ ⟨none, 0, 0⟩ 1 w = _ := h5
  have hol : out.len = cnt h m * szH h := by rw [o5.len, ints_length, expO_len hk]
  have hcap := o5.cap
  have hne : ints .u8 (expO C S h prk info (cnt h m)) ≠ [] := fun e => by
    have := congrArg List.length e
    rw [ints_length, expO_len hk] at this
    simp at this; omega
  have hv := o5.front hne (n := m) (c := out.cap) (by omega) (by omega) (Nat.le_refl _)
  rw [ints_take] at hv
  have esl : sla out.a 0 out.cap 1 = out.a := sla_zero ..
  refine ⟨⟨out.a, m, out.cap⟩, w5, ?_, hv, fun k hk => f5 k hk, Upd.of_below bl5⟩
  unfold ref01_Expand
  rw [h5, bnd_ok]
  dsimp only
  rw [if_pos (by omega), Int.toNat_natCast, esl, Nat.sub_zero, Nat.sub_zero]

end Go.Sh

/- DigestCodes: every Code. -/
set_option linter.unusedVariables false
namespace Go.Sh
open Go.Fw Go.Sha Go.RowKit Go.Proofs.Tryd

theorem jn_bound {L : Nat} : ∀ (xss : List (List Int)) (acc : List Int), (∀ xs ∈ xss, xs.length ≤ L) → (jn acc xss).length ≤ acc.length ∨ (jn acc xss).length ≤ 65536 + L
  | [], acc, _ => .inl (Nat.le_refl _)
  | xs :: r, acc, h => by
    unfold jn
    split
    · rename_i hc
      have := h xs (List.mem_cons_self ..)
      rcases jn_bound r (acc ++ xs) (fun x hx => h x (List.mem_cons_of_mem _ hx)) with e | e
      · rw [List.length_append] at e; right; omega
      · right; exact e
    · exact .inl (Nat.le_refl _)

abbrev kB : List Int := [107]
theorem kB_in : ∀ x ∈ kB, InK .u8 x := by
  intro x hx
  obtain rfl := List.mem_singleton.1 hx
  exact ⟨by decide, by decide⟩

theorem known512 : known 512 = true := rfl

theorem DigestCodes_ok {K : Nat} (hK : 18446744073709551616 ≤ K) (h : Int) {C S : List Int} {w : World} (T : TabsR w C S) {key : Sl} {ks : List Int} (hx : Src w key (ints .u8 ks)) (hin : ∀ x ∈ ks, InK .u8 x) (hkl : ks.length ≤ 140737488351232)
    {s : Sl} {xss : List (List Int)} {Q : Nat → Prop} (hp : PartsW w s xss Q) (hQ : ∀ k, Q k → k < w.heap.size) :
    ∃ w', law01_DigestCodes K h key s w = some ((true, ()), w') ∧ Upd none_ w w' := by
  obtain ⟨sJ, w1, j1, oJ, u1, fJ⟩ := joined_ok hK hp hQ
  have hjl : sJ.len = (jn [] xss).length := by rw [oJ.len, ints_length]
  have hkey : key.len = ks.length := by rw [hx.len, ints_length]
  have hjb : (jn [] xss).length ≤ 140737488416768 := by
    rcases jn_bound xss [] hp.lens with e | e
    · rw [List.length_nil] at e; omega
    · omega
  have ew : IntKind.i64.wrap (((sJ.len : Nat) : Int) + ((key.len : Nat) : Int)) = (((jn [] xss).length + ks.length : Nat) : Int) := by rw [hjl, hkey, w64 (by omega) (by omega)]; rfl
  unfold law01_DigestCodes
  rw [j1, bnd_ok]
  dsimp only
  rw [ew]
  by_cases hc : (jn [] xss).length + ks.length ≤ 65536
  case neg =>
    have hd : decide ((((jn [] xss).length + ks.length : Nat) : Int) > 65536) = true := by simp only [decide_eq_true_eq]; omega
    rw [hd, if_pos rfl]
    exact ⟨w1, rfl, u1⟩
  have hd : decide ((((jn [] xss).length + ks.length : Nat) : Int) > 65536) = false := by simp only [decide_eq_false_iff_not]; omega
  have hj := jn_le xss [] (by omega)
  rw [List.nil_append] at hj
  rw [hj] at oJ hjl hc
  have hxin : ∀ x ∈ xss.flatten, InK .u8 x := fun x hx => by
    obtain ⟨l, hl, hx⟩ := List.mem_flatten.1 hx
    exact hp.inn l hl x hx
  rw [hd, if_neg (by decide)]
  have hs1 := u1.size
  obtain ⟨l, w2, j2, L, u2⟩ := lent_ok hK (hp.upd0 u1) (fun k hk => by have := hQ k hk; omega)
  have hs2 := u2.size
  have hLN := L.nn
  obtain ⟨g, cap, w3, j3, og, hg, u3⟩ := Bytes_ok hK ((hx.upd0 u1).upd0 u2) hkl
  have hs3 := u3.size
  have hgl : g < w3.heap.size := og.lt (by simp [Sl.blk])
  have P3 := (L.parts hp).upd0 u3
  have T3 := ((T.upd0 u1).upd0 u2).upd0 u3
  have sk3 : Src w3 ⟨some ⟨g, 0, none⟩, ks.length, cap⟩ (ints .u8 ks) := (marked_front og).src ints_one
  obtain ⟨a, w4, j4, va, fa, u4⟩ := Code_any hK h T3.to sk3 hin (by omega) (fun q hq => by obtain rfl := Option.some.inj hq; exact hgl) P3 (fun k hk => by omega) (by omega)
  have hs4 := u4.size
  obtain ⟨w5, w6, j5, j6, s6, u6, z6⟩ := bytesC (P := prog) sliceB (by kernel_rfl) kB (by decide) (by decide) w4
  have j5 : bldS prog 25 1 #[(0, (.int .u8 107))] w4 = _ := j5
  have hs6 := u6.size
  have sk6 := (sk3.upd0 u4).upd0 u6
  obtain ⟨w7, j7, P7, u7⟩ := one_part sk6 hin hkl (fun q hq => by obtain rfl := Option.some.inj hq; show g < _; omega)
  have j7 : bldS prog 24 1 #[(0, (.slice (some ⟨g, 0, none⟩) ks.length cap))] w6 = _ := j7
  have hs7 := u7.size
  have q37 := (u4.and0 u6).and0 u7
  have ek : ([ks] : List (List Int)).flatten = ks := by simp
  obtain ⟨c, w8, j8, vc, fc, u8⟩ := Code_any hK 512 (T3.upd0 q37).to (s6.upd0 u7) kB_in (by decide) (fun q hq => by obtain rfl := Option.some.inj hq; show w4.heap.size < _; omega) P7 (fun k hk => hk) (by rw [ek]; omega)
  rw [known512, if_pos rfl] at j8
  rw [ek] at vc
  have hs8 := u8.size
  have q38 := q37.and0 u8
  obtain ⟨b, w9, j9, vb, fb, u9⟩ := Code_any hK h (T3.upd0 q38).to (sk3.upd0 q38) hin (by omega) (fun q hq => by obtain rfl := Option.some.inj hq; show g < _; omega) (P3.upd0 q38) (fun k hk => by omega) (by omega)
  have hs9 := u9.size
  have q39 := q38.and0 u9
  have hx3 := ((hx.upd0 u1).upd0 u2).upd0 u3
  obtain ⟨r, w10, j10, or10, u10, fr⟩ := refCode_ok hK h (T3.upd0 q39) (hx3.upd0 q39) hin (by omega) ((((oJ.upd0 u2).upd0 u3).upd0 q39).src ints_one) hxin (by omega)
  have hs10 := u10.size
  obtain ⟨w11, w12, j11, j12, s12, u12, z12⟩ := bytesC (P := prog) sliceB (by kernel_rfl) kB (by decide) (by decide) w10
  have j11 : bldS prog 25 1 #[(0, (.int .u8 107))] w10 = _ := j11
  have hs12 := u12.size
  have q312 := (q39.and0 u10).and0 u12
  obtain ⟨v, w13, j13, ov, u13, fv⟩ := refCode_ok hK 512 (T3.upd0 q312) s12 kB_in (by decide) (hx3.upd0 q312) hin (by omega)
  have hs13 := u13.size
  have q313 := q312.and0 u13
  have hal := codeOf_len C S h ks xss.flatten
  have hvl := codeOf_len C S 512 kB ks
  have va13 := va.upd0 (((((((u6.and0 u7).and0 u8).and0 u9).and0 u10).and0 u12).and0 u13))
  have vb13 := vb.upd0 ((u10.and0 u12).and0 u13)
  have vc13 := vc.upd0 (((u9.and0 u10).and0 u12).and0 u13)
  have or13 := or10.upd0 (u12.and0 u13)
  obtain ⟨w14, k14, u14⟩ := SameBytes_ok hK va13.rd or13.rd (by omega)
  obtain ⟨w15, k15, u15⟩ := SameBytes_ok hK (vb13.upd0 u14).rd (or13.upd0 u14).rd (by omega)
  have q315 := (q313.and0 u14).and0 u15
  obtain ⟨w16, k16, u16⟩ := whole_ok hK ((((hp.upd0 u1).upd0 u2).upd0 u3).upd0 q315) ((L.upd0 u3).upd0 q315)
  have q316 := q315.and0 u16
  obtain ⟨w17, k17, u17⟩ := WholeBytes_ok hK (og.upd0 q316) (hx3.upd0 q316).rds hkl
  rw [decide_eq_true rfl] at k14 k15 k17
  have hs14 := u14.size
  have hs15 := u15.size
  have hs16 := u16.size
  have hs17 := u17.size
  have hs1' : ∀ want : Int, want = (if known h = true then 0 else 10) → law01_DigestCodes_s1 K key s l ⟨some ⟨g, 0, none⟩, ks.length, cap⟩ a (if known h = true then 0 else 10) 0 b (if known h = true then 0 else 10) r want w13 = some ((false, ()), w17) := by
    intro want hw
    unfold law01_DigestCodes_s1 law01_num
    rw [hw, Option.bind_some]
    dsimp only
    rw [bne_self_eq_false, if_neg (by decide), Option.bind_some, bne_self_eq_false, if_neg (by decide), Option.bind_some, if_neg (by decide), k14, bnd_ok]
    dsimp only
    rw [if_neg (by decide), k15, bnd_ok]
    dsimp only
    rw [if_neg (by decide), k16, bnd_ok]
    dsimp only
    rw [if_neg (by decide), k17, bnd_ok]
    rfl
  have q1317 := ((u14.and0 u15).and0 u16).and0 u17
  obtain ⟨w18, k18, u18⟩ := SpoilBytes_ok hK (va13.upd0 q1317) (by omega)
  have hab : ∀ k, a.blk = some k → w3.heap.size ≤ k ∧ k < w4.heap.size := fun k hk => ⟨fa k hk, va.lt hk⟩
  have vb18 := (vb13.upd0 q1317).upd u18 fun k hk e => by have := hab k e; have := fb k hk; omega
  have vc18 := (vc13.upd0 q1317).upd u18 fun k hk e => by have := hab k e; have := fc k hk; omega
  have or18 := (or13.upd0 q1317).upd u18 fun k hk e => by have := hab k e; have := fr k hk; omega
  have ov18 := (ov.upd0 q1317).upd u18 fun k hk e => by have := hab k e; have := fv k hk; omega
  obtain ⟨w19, k19, u19⟩ := SameBytes_ok hK vb18.rd or18.rd (by omega)
  obtain ⟨w20, k20, u20⟩ := SameBytes_ok hK (vc18.upd0 u19).rd (ov18.upd0 u19).rd (by omega)
  rw [decide_eq_true rfl] at k19 k20
  have q17 : Upd none_ w w17 := (((u1.and0 u2).and0 u3).and0 q313).and0 q1317
  refine ⟨w20, ?_, ((q17.trans' u18 fun k hk e => by have := hab k e; omega).and0 u19).and0 u20⟩
  rw [j2, bnd_ok, j3, bnd_ok]
  try dsimp only
  rw [j4, bnd_ok, j5, bnd_ok]
  try dsimp only
  rw [j6, bnd_ok]
  dsimp only [asS]
  rw [Option.bind_some]
  try dsimp only
  rw [j7, bnd_ok, j8, bnd_ok, j9, bnd_ok, j10, bnd_ok, j11, bnd_ok]
  try dsimp only
  rw [j12, bnd_ok]
  dsimp only [asS]
  rw [Option.bind_some, j13, bnd_ok, refSize_ok, Option.bind_some]
  try dsimp only
  have hs0 : law01_DigestCodes_s0 K 0 (sizeOfH h == 0) w13 = some (((if known h = true then 0 else 10), ()), w13) := by
    unfold law01_DigestCodes_s0
    rw [size_zero]
    cases known h <;> rfl
  rw [hs0, bnd_ok]
  try dsimp only
  rw [hs1' _ rfl, bnd_ok]
  try dsimp only
  rw [if_neg (by decide), k18, bnd_ok, k19, bnd_ok]
  try dsimp only
  rw [if_pos rfl, k20, bnd_ok]

end Go.Sh

/- DigestExpands: every Extract and Expand. -/
set_option linter.unusedVariables false
namespace Go.Sh
open Go.Fw Go.Sha Go.RowKit Go.Proofs.Tryd Go.Deep Go.ChangeShapes Go.WideShapes

theorem expOf_len (C S : List Int) (h : Int) (prk info : List Int) (n : Int) : (expOf C S h prk info n).length ≤ 16320 := by
  unfold expOf
  split
  · rename_i he
    obtain ⟨hk, _, _, m, rfl, _, hm⟩ := expErr_zero he
    obtain ⟨_, _, h64⟩ := szH_ok hk
    rw [List.length_take, Int.toNat_natCast]
    have : 255 * szH h ≤ 255 * 64 := Nat.mul_le_mul_left _ h64
    omega
  · exact Nat.zero_le _

theorem expands_ok {K : Nat} (hK : 18446744073709551616 ≤ K) (h : Int) {C S ks info : List Int} {w : World} (T : TabsR w C S) {key z i3 : Sl} (hkey : PartOk w (key, ks)) (hz : PartOk w (z, info)) (hi : Src w i3 (ints .u8 info)) (n : Int) :
    ∃ w', law01_expands K h key z i3 n w = some ((true, ()), w') ∧ Upd none_ w w' := by
  have hkl : key.len = ks.length := by rw [hkey.1.len, ints_length]
  have hil : i3.len = info.length := by rw [hi.len, ints_length]
  have hzl : z.len = info.length := by rw [hz.1.len, ints_length]
  obtain ⟨a, w1, j1, va, fa, u1⟩ := Expand_any hK h T.to hkey hz n
  have hs1 := u1.size
  have up : ∀ {w' : World} {p : Sl × List Int}, PartOk w p → Upd none_ w w' → PartOk w' p := fun hp u => ⟨hp.1.upd0 u, hp.2.1, hp.2.2.1, fun q hq => by have := hp.2.2.2 q hq; have := u.size; omega⟩
  obtain ⟨b, w2, j2, vb, fb, u2⟩ := Expand_any hK h (T.upd0 u1).to (up hkey u1) (up hz u1) n
  have hs2 := u2.size
  have q2 := u1.and0 u2
  have hr : ∃ r w3, law01_expands_s0 K h key i3 n ⟨none, 0, 0⟩ (expErr h ks.length info.length n == 0) w2 = some ((r, ()), w3) ∧ Vw 5 w3 r (ints .u8 (expOf C S h ks info n)) ∧ Fresh w2.heap.size r ∧ Upd none_ w2 w3 := by
    by_cases he : expErr h ks.length info.length n = 0
    · obtain ⟨r, w3, h3, v3, f3, u3⟩ := refExpand_ok hK h (T.upd0 q2) (hkey.1.upd0 q2) hkey.2.1 (hi.upd0 q2) hz.2.1 he
      refine ⟨r, w3, ?_, v3, f3, u3⟩
      unfold law01_expands_s0
      rw [he, if_pos (by decide), h3, bnd_ok]
    · refine ⟨⟨none, 0, 0⟩, w2, ?_, ?_, (fun k hk => by cases hk), Upd.refl _ _⟩
      · unfold law01_expands_s0
        rw [if_neg (by simpa using he)]
      · unfold expOf
        rw [if_neg he]; exact Vw.nil 5 w2
  obtain ⟨r, w3, j3, vr, fr, u3⟩ := hr
  have hs3 := u3.size
  have hl := expOf_len C S h ks info n
  obtain ⟨w4, k4, u4⟩ := SameBytes_ok hK (va.upd0 (u2.and0 u3)).rd vr.rd (by omega)
  obtain ⟨w5, k5, u5⟩ := SameBytes_ok hK ((vb.upd0 u3).upd0 u4).rd (vr.upd0 u4).rd (by omega)
  rw [decide_eq_true rfl] at k4 k5
  have hs4 := u4.size
  have hs5 := u5.size
  have hs1' : law01_expands_s1 K a (expErr h ks.length info.length n) b (expErr h ks.length info.length n) (expErr h ks.length info.length n) r w3 = some ((false, ()), w5) := by
    unfold law01_expands_s1 law01_num
    rw [Option.bind_some]
    dsimp only
    rw [bne_self_eq_false, if_neg (by decide), Option.bind_some, bne_self_eq_false, if_neg (by decide), k4, bnd_ok]
    dsimp only
    rw [if_neg (by decide), k5, bnd_ok]
    rfl
  obtain ⟨w6, k6, u6⟩ := SpoilBytes_ok hK (va.upd0 (((u2.and0 u3).and0 u4).and0 u5)) (by omega)
  have hab : ∀ k, a.blk = some k → w.heap.size ≤ k ∧ k < w1.heap.size := fun k hk => ⟨fa k hk, va.lt hk⟩
  have vb6 := (vb.upd0 ((u3.and0 u4).and0 u5)).upd u6 fun k hk e => by have := hab k e; have := fb k hk; omega
  have vr6 := (vr.upd0 (u4.and0 u5)).upd u6 fun k hk e => by have := hab k e; have := fr k hk; omega
  obtain ⟨w7, k7, u7⟩ := SameBytes_ok hK vb6.rd vr6.rd (by omega)
  rw [decide_eq_true rfl] at k7
  refine ⟨w7, ?_, ((((q2.and0 u3).and0 u4).and0 u5).trans' u6 fun k hk e => by have := hab k e; omega).and0 u7⟩
  unfold law01_expands
  rw [j1, bnd_ok, j2, bnd_ok, hkl, hil, refExpandError_ok, Option.bind_some]
  dsimp only
  rw [j3, bnd_ok]
  dsimp only
  rw [hs1', bnd_ok]
  dsimp only
  rw [if_neg (by decide), k6, bnd_ok, k7, bnd_ok]

/-- what a Derive holds -/
def deriveC (hash : Int) (pass salt info : Sl) (turns n : Int) : Array Value := #[.int .i64 hash, slV pass, slV salt, slV info, .int .i64 turns, .int .i64 n]

theorem size_pos (h : Int) : decide (sizeOfH h > 0) = known h := by
  unfold sizeOfH
  cases hk : known h with
  | false => rw [if_neg (by decide)]; rfl
  | true =>
    rw [if_pos rfl]
    rcases known_cases hk with e | e | e | e <;> subst e <;> rfl

theorem DigestExpands_ok {K : Nat} (hK : 18446744073709551616 ≤ K) {C S : List Int} {w : World} (T : TabsR w C S) {h turns n : Int} {pass salt info : Sl} {ps ss is : List Int} (hp : BytesIn w pass ps) (hs : BytesIn w salt ss) (hi : BytesIn w info is) :
    ∃ w', law01_DigestExpands K (deriveC h pass salt info turns n) w = some ((true, ()), w') ∧ Upd none_ w w' := by
  obtain ⟨w1, n1, b1, u1, z1⟩ := newB_ok (deriveC h pass salt info turns n) 42 w
  have l0 : ldI .i64 ⟨w.heap.size, 0, none⟩ w1 = some h := b1.ldI rfl
  have l2 : ldS ⟨w.heap.size, 2, none⟩ w1 = some salt := b1.ldS rfl
  have l1 : ldS ⟨w.heap.size, 1, none⟩ w1 = some pass := b1.ldS rfl
  have l3 : ldS ⟨w.heap.size, 3, none⟩ w1 = some info := b1.ldS rfl
  have l5 : ldI .i64 ⟨w.heap.size, 5, none⟩ w1 = some n := b1.ldI rfl
  have hs1 := u1.size
  have hpl : pass.len = ps.length := by rw [hp.src.len, ints_length]
  have hsl : salt.len = ss.length := by rw [hs.src.len, ints_length]
  have hil : info.len = is.length := by rw [hi.src.len, ints_length]
  have hp3 := hp.len
  have hs3 := hs.len
  have hi3 := hi.len
  unfold law01_DigestExpands
  rw [n1, bnd_ok]
  simp only [add_lit, Nat.zero_add]
  rw [l0, Option.bind_some, l2, Option.bind_some, l1, Option.bind_some, l3, Option.bind_some, l5, Option.bind_some]
  have ew : IntKind.i64.wrap (((salt.len : Nat) : Int) + ((pass.len : Nat) : Int)) = ((ss.length + ps.length : Nat) : Int) := by rw [hpl, hsl, w64 (by omega) (by omega)]; rfl
  unfold law01_DigestExpands_s0
  rw [ew]
  by_cases hc : ss.length + ps.length ≤ 65536
  case neg =>
    have hd : decide (((ss.length + ps.length : Nat) : Int) > 65536) = true := by simp only [decide_eq_true_eq]; omega
    rw [hd, if_pos rfl, bnd_ok]
    exact ⟨w1, rfl, u1⟩
  have hd : decide (((ss.length + ps.length : Nat) : Int) > 65536) = false := by simp only [decide_eq_false_iff_not]; omega
  rw [hd, if_neg (by decide), bnd_ok]
  dsimp only
  by_cases hc2 : is.length ≤ 1024
  case neg =>
    have hd : decide (((info.len : Nat) : Int) > 1024) = true := by rw [hil]; simp only [decide_eq_true_eq]; omega
    rw [hd, if_pos rfl]
    exact ⟨w1, rfl, u1⟩
  have hd : decide (((info.len : Nat) : Int) > 1024) = false := by rw [hil]; simp only [decide_eq_false_iff_not]; omega
  rw [hd, if_neg (by decide)]
  have T1 := T.upd0 u1
  have sx1 := hs.src.upd0 u1
  have px1 := hp.src.upd0 u1
  have ix1 := hi.src.upd0 u1
  obtain ⟨gx, cx, w2, j2, ox, hgx, u2⟩ := Bytes_ok hK sx1 hs3
  have hs2 := u2.size
  obtain ⟨gy, cy, w3, j3, oy, hgy, u3⟩ := Bytes_ok hK (px1.upd0 u2) hp3
  have hs3' := u3.size
  obtain ⟨gz, cz, w4, j4, oz, hgz, u4⟩ := Bytes_ok hK ((ix1.upd0 u2).upd0 u3) hi3
  have hs4 := u4.size
  have hgx2 : gx < w2.heap.size := ox.lt (by simp [Sl.blk])
  have hgy2 : gy < w3.heap.size := oy.lt (by simp [Sl.blk])
  have hgz2 : gz < w4.heap.size := oz.lt (by simp [Sl.blk])
  have ox4 := ox.upd0 (u3.and0 u4)
  have oy4 := oy.upd0 u4
  have px : PartOk w4 (⟨some ⟨gx, 0, none⟩, ss.length, cx⟩, ss) := ⟨(marked_front ox4).src ints_one, hs.inn, hs3, fun q hq => by obtain rfl := Option.some.inj hq; show gx < _; omega⟩
  have py : PartOk w4 (⟨some ⟨gy, 0, none⟩, ps.length, cy⟩, ps) := ⟨(marked_front oy4).src ints_one, hp.inn, hp3, fun q hq => by obtain rfl := Option.some.inj hq; show gy < _; omega⟩
  have pz : PartOk w4 (⟨some ⟨gz, 0, none⟩, is.length, cz⟩, is) := ⟨(marked_front oz).src ints_one, hi.inn, hi3, fun q hq => by obtain rfl := Option.some.inj hq; show gz < _; omega⟩
  have up : ∀ {w w' : World} {p : Sl × List Int}, PartOk w p → Upd none_ w w' → PartOk w' p := fun hp u => ⟨hp.1.upd0 u, hp.2.1, hp.2.2.1, fun q hq => by have := hp.2.2.2 q hq; have := u.size; omega⟩
  have T4 := ((T1.upd0 u2).upd0 u3).upd0 u4
  obtain ⟨w5, j5, P5, u5⟩ := one_part py.1 hp.inn hp3 py.2.2.2
  have hs5 := u5.size
  have ek : ([ps] : List (List Int)).flatten = ps := by simp
  obtain ⟨e, w6, j6, ve, fe, u6⟩ := Code_any hK h (T4.upd0 u5).to (up px u5).1 hs.inn (show ss.length ≤ 33554432 by omega) (up px u5).2.2.2 P5 (fun k hk => hk) (by rw [ek]; omega)
  rw [ek] at ve
  have hs6 := u6.size
  have q46 := u5.and0 u6
  have q14 := (u2.and0 u3).and0 u4
  obtain ⟨k, w7, j7, ok, u7, fk⟩ := refCode_ok hK h (T4.upd0 q46) ((sx1.upd0 q14).upd0 q46) hs.inn (by omega) ((px1.upd0 q14).upd0 q46) hp.inn (by omega)
  have hs7 := u7.size
  have hcl := codeOf_len C S h ss ps
  obtain ⟨w8, k8, u8⟩ := SameBytes_ok hK (ve.upd0 u7).rd ok.rd (by show (codeOf C S h ss ps).length < _; omega)
  rw [decide_eq_true rfl] at k8
  have q48 := (q46.and0 u7).and0 u8
  have hs1' : law01_DigestExpands_s1 K h e (if known h = true then 0 else 10) k w7 = some ((false, ()), w8) := by
    unfold law01_DigestExpands_s1 law01_num
    rw [Option.bind_some, refSize_ok, Option.bind_some]
    dsimp only
    rw [size_pos]
    cases hk : known h with
    | true =>
      rw [if_pos rfl, if_neg (by decide), Option.bind_some]
      dsimp only
      rw [if_neg (by decide), k8, bnd_ok]
      rfl
    | false =>
      rw [if_neg (by decide), if_neg (by decide), Option.bind_some]
      dsimp only
      rw [if_pos (by decide), Option.bind_some]
      dsimp only
      rw [if_neg (by decide), k8, bnd_ok]
      rfl
  have pk : PartOk w8 (k, codeOf C S h ss ps) := ⟨(ok.upd0 u8).src ints_one, codeOf_in C S h ss ps, by show (codeOf C S h ss ps).length ≤ _; omega, lt_of_blk fun q hq => by have := ok.lt hq; have := u8.size; omega⟩
  obtain ⟨w9, j9, u9⟩ := expands_ok hK h (T4.upd0 q48) pk (up pz q48) ((ix1.upd0 q14).upd0 q48) n
  have q49 := q48.and0 u9
  obtain ⟨w10, j10, u10⟩ := expands_ok hK h (T4.upd0 q49) (up py q49) (up pz q49) ((ix1.upd0 q14).upd0 q49) n
  have q410 := q49.and0 u10
  obtain ⟨w11, j11, u11⟩ := WholeBytes_ok hK (ox4.upd0 q410) ((sx1.upd0 q14).upd0 q410).rds hs3
  have q411 := q410.and0 u11
  obtain ⟨w12, j12, u12⟩ := WholeBytes_ok hK (oy4.upd0 q411) ((px1.upd0 q14).upd0 q411).rds hp3
  have q412 := q411.and0 u12
  obtain ⟨w13, j13, u13⟩ := WholeBytes_ok hK (oz.upd0 q412) ((ix1.upd0 q14).upd0 q412).rds hi3
  rw [decide_eq_true rfl] at j11 j12 j13
  refine ⟨w13, ?_, (u1.and0 q14).and0 (q412.and0 u13)⟩
  rw [j2, bnd_ok, j3, bnd_ok, j4, bnd_ok]
  dsimp only
  unfold digest_Extract ref01_Extract
  rw [j5, bnd_ok, j6, bnd_ok, bnd_ok, j7, bnd_ok, bnd_ok]
  dsimp only
  rw [hs1', bnd_ok]
  dsimp only
  rw [if_neg (by decide), j9, bnd_ok]
  dsimp only
  rw [if_pos rfl, j10, bnd_ok]
  dsimp only
  rw [if_pos rfl, j11, bnd_ok]
  dsimp only
  rw [if_pos rfl, j12, bnd_ok]
  dsimp only
  rw [if_pos rfl, j13, bnd_ok]

theorem cells_of_TB : prog.cellsOf 25 = 1 := by kernel_rfl

set_option maxRecDepth 100000 in
/-- a Derive that came in -/
theorem open_derive {H : Type} {enc : TypeId × Value → H} {W : World} {d : DataW H} {p : List MemPlace} {v : Value} {base : Nat} (hv : Value.okWide prog W .any base 42 v) (h : DataW.Trod enc prog W 0 (fun _ => true) true 42 v d p) (hw : ∀ n ∈ d.weights prog 42, n ≤ reachBytes) :
    ∃ hash pass salt info turns n ps ss is, v = .agg (deriveC hash pass salt info turns n) ∧ BytesIn W pass ps ∧ BytesIn W salt ss ∧ BytesIn W info is ∧ (Lit.int .i64 hash).wf = true ∧ (Lit.int .i64 turns).wf = true ∧ (Lit.int .i64 n).wf = true := by
  have hu := underlying42
  have hs0 := okWide_struct (P := prog) (t := 42) hu hv
  obtain ⟨cs, hcv, hcs⟩ := hs0
  subst hcv
  obtain ⟨fuel, hf⟩ := h
  obtain ⟨xs, m, _, hx, hcl, hxl, hfs⟩ := DataW.trod_struct hu hf
  have hsz : prog.cellsOf 42 = 6 := by kernel_rfl
  rw [hsz] at hcs
  have c3 : prog.cellsOf 3 = 1 := by kernel_rfl
  have u3 : prog.underlying 3 = some (.int .i64) := by kernel_rfl
  have hcc : (Value.agg cs).cells.toList = cs.toList := rfl
  simp only [hcc] at hfs
  have hl6 : cs.toList.length = 6 := by simpa using hcs
  obtain ⟨c0, c1, c2, c3', c4, c5, hc⟩ : ∃ a b c d e f, cs.toList = [a, b, c, d, e, f] := by
    match hm : cs.toList, hl6 with
    | [a, b, c, d, e, f], _ => exact ⟨a, b, c, d, e, f, rfl⟩
  have hx6 : xs.length = 6 := hxl
  obtain ⟨y0, y1, y2, y3, y4, y5, hy⟩ : ∃ a b c d e f, xs = [a, b, c, d, e, f] := by
    match hm : xs, hx6 with
    | [a, b, c, d, e, f], _ => exact ⟨a, b, c, d, e, f, rfl⟩
  subst hy
  rw [hc] at hfs
  have f0 := hfs 0 _ rfl
  have f1 := hfs 1 _ rfl
  have f2 := hfs 2 _ rfl
  have f3 := hfs 3 _ rfl
  have f4 := hfs 4 _ rfl
  have f5 := hfs 5 _ rfl
  simp only [c3, cells_of_TB, List.drop_zero, List.drop_succ_cons, List.take_succ_cons, List.take_zero, List.getElem?_cons_zero, List.getElem?_cons_succ] at f0 f1 f2 f3 f4 f5
  have hd : d = .agg [y0.1, y1.1, y2.1, y3.1, y4.1, y5.1] := (Prod.mk.inj hx).1
  have hwt : ∀ n ∈ y0.1.weights prog 3 ++ (y1.1.weights prog 25 ++ (y2.1.weights prog 25 ++ (y3.1.weights prog 25 ++ (y4.1.weights prog 3 ++ (y5.1.weights prog 3 ++ []))))), n ≤ reachBytes := by
    intro n hn
    refine hw n ?_
    rw [hd]
    simp only [DataW.weights, hu, List.map_cons, List.map_nil, DataW.weightsEach]
    exact hn
  obtain ⟨n0, e0, _, w0⟩ := DataW.trod_int u3 f0
  obtain ⟨n4, e4, _, w4⟩ := DataW.trod_int u3 f4
  obtain ⟨n5, e5, _, w5⟩ := DataW.trod_int u3 f5
  obtain ⟨s1, p1, e1, g1⟩ := open_bytes_t f1 (fun n hn => hwt n (by simp [hn]))
  obtain ⟨s2, p2, e2, g2⟩ := open_bytes_t f2 (fun n hn => hwt n (by simp [hn]))
  obtain ⟨s3, p3, e3, g3⟩ := open_bytes_t f3 (fun n hn => hwt n (by simp [hn]))
  refine ⟨n0, s1, s2, s3, n4, n5, p1, p2, p3, ?_, g1, g2, g3, w0, w4, w5⟩
  congr 1
  apply Array.ext'
  rw [hc, (List.cons.inj e0).1, (List.cons.inj e1).1, (List.cons.inj e2).1, (List.cons.inj e3).1, (List.cons.inj e4).1, (List.cons.inj e5).1]
  rfl

end Go.Sh

/- What a reading of a Derive or a Feeding gives, its slices' blocks too. -/
set_option linter.unusedVariables false
namespace Go.Sh
open Go.Fw Go.Sha Go.RowKit Go.Proofs.Tryd Go.Deep Go.ChangeShapes Go.WideShapes

theorem shape_lt {W : World} {g : Nat} {x : TypeId × Nat} (h : W.shape? g = some x) : g < W.heap.size := by
  unfold World.shape? at h
  cases hh : W.heap[g]? with
  | none => rw [hh] at h; cases h
  | some o => exact (Array.getElem?_eq_some_iff.1 hh).1

set_option maxRecDepth 100000 in
theorem cell_lt {W : World} {base : Nat} {s : Sl} (h : Cell.okWide prog W .any base 25 (slV s)) : ∀ q, s.a = some q → q.block < W.heap.size := by
  intro q hq
  have h : Cell.ok prog W .any base 25 (slV s) := by
    unfold Cell.okWide at h
    rw [sliceB.ht] at h
    exact h
  unfold Cell.ok slV at h
  rw [sliceB.ht, hq] at h
  obtain ⟨_, _, _, _, row, cells, hs, _⟩ := h
  exact shape_lt hs

theorem BytesIn.part {W : World} {s : Sl} {xs : List Int} (h : BytesIn W s xs) (hb : ∀ q, s.a = some q → q.block < W.heap.size) : PartOk W (s, xs) := ⟨h.src, h.inn, h.len, hb⟩
theorem PartOk.up {w w' : World} {p : Sl × List Int} (hp : PartOk w p) (u : Upd none_ w w') : PartOk w' p := ⟨hp.1.upd0 u, hp.2.1, hp.2.2.1, fun q hq => by have := hp.2.2.2 q hq; have := u.size; omega⟩
theorem PartOk.upd {w w' : World} {p : Sl × List Int} {X : Nat → Prop} (hp : PartOk w p) (u : Upd X w w') (hn : ∀ q, p.1.a = some q → ¬ X q.block) : PartOk w' p := ⟨hp.1.upd u hn, hp.2.1, hp.2.2.1, fun q hq => by have := hp.2.2.2 q hq; have := u.size; omega⟩

set_option maxRecDepth 100000 in
theorem derive_blocks {W : World} {base : Nat} {hash turns n : Int} {pass salt info : Sl} (hv : Value.okWide prog W .any base 42 (.agg (deriveC hash pass salt info turns n))) :
    (∀ q, pass.a = some q → q.block < W.heap.size) ∧ (∀ q, salt.a = some q → q.block < W.heap.size) ∧ ∀ q, info.a = some q → q.block < W.heap.size := by
  have hv2 : ∃ cs, Value.agg (deriveC hash pass salt info turns n) = .agg cs ∧ cs.size = prog.cellsOf 42 ∧ Row.okWide prog W .any base 42 cs := by
    simpa only [Value.okWide, underlying42] using hv
  obtain ⟨cs, he, _, ts, hts, _, hall⟩ := hv2
  obtain rfl := Value.agg.inj he
  have ht : ts = [3, 25, 25, 25, 3, 3] := Option.some.inj (hts.symm.trans (by kernel_rfl))
  subst ht
  refine ⟨?_, ?_, ?_⟩
  · obtain ⟨u, hu, hc⟩ := hall 1 (slV pass) rfl
    obtain rfl := Option.some.inj hu
    exact cell_lt hc
  · obtain ⟨u, hu, hc⟩ := hall 2 (slV salt) rfl
    obtain rfl := Option.some.inj hu
    exact cell_lt hc
  · obtain ⟨u, hu, hc⟩ := hall 3 (slV info) rfl
    obtain rfl := Option.some.inj hu
    exact cell_lt hc

/-- what a Feeding holds -/
def feedC (hash : Int) (key bytes cuts : Sl) (zeros : Int) : Array Value := #[.int .i64 hash, slV key, slV bytes, slV cuts, .int .i64 zeros]

theorem int_cells : prog.cellsOf 3 = 1 := by kernel_rfl

theorem open_i64s_t {H : Type} {enc : TypeId × Value → H} {W : World} {x : DataW H × List MemPlace} {fuel : Nat} {cs : List Value} (hf : DataW.trod enc prog W 0 (fun _ => true) true fuel 62 cs = some x) :
    ∃ s xs, cs = [slV s] ∧ RdS .i64 W s xs ∧ (∀ z ∈ xs, -9223372036854775808 ≤ z ∧ z < 9223372036854775808) ∧ xs.length ≤ 9223372036854775807 := by
  rcases open_ints (k := .i64) underlying62 underlying3 int_cells hf with ⟨hcs, hy⟩ | ⟨a', len', cap', zs, hcs, hb', hl', hm', hz, hy, hcell, hwz⟩
  · exact ⟨nilS, [], hcs, ⟨rfl, Nat.le_refl _, .inl rfl⟩, by simp, by simp⟩
  · have hz : zs.length = cap' := by simpa using hz
    refine ⟨⟨some a', len', cap'⟩, zs.take len', hcs, ⟨by simp; omega, hl', .inr ⟨a', rfl, fun j v hv => ?_⟩⟩, fun z hz => ?_, by simp only [maxLen] at hm'; simp; omega⟩
    · have hj : j < len' ∧ j < zs.length := by
        have := (List.getElem?_eq_some_iff.1 hv).1
        simp at this; omega
      rw [hcell j hj.2]
      simp only [ints, List.getElem?_map, List.getElem?_take, if_pos hj.1] at hv
      rw [List.getElem?_eq_getElem hj.2] at hv
      rw [List.getD_eq_getElem?_getD, List.getElem?_eq_getElem hj.2]
      exact hv
    · have := hwz z (List.mem_of_mem_take hz)
      have h2 : -9223372036854775808 ≤ z ∧ z ≤ 9223372036854775807 := by simpa [Lit.wf, IntKind.bits, IntKind.min, IntKind.max, IntKind.signed] using this
      omega

set_option maxRecDepth 100000 in
/-- a Feeding that came in -/
theorem open_feed {H : Type} {enc : TypeId × Value → H} {W : World} {d : DataW H} {p : List MemPlace} {v : Value} {base : Nat} (hv : Value.okWide prog W .any base 64 v) (h : DataW.Trod enc prog W 0 (fun _ => true) true 64 v d p) (hw : ∀ n ∈ d.weights prog 64, n ≤ reachBytes) :
    ∃ hash key bytes cuts zeros ks bs cz, v = .agg (feedC hash key bytes cuts zeros) ∧ BytesIn W key ks ∧ BytesIn W bytes bs ∧ RdS .i64 W cuts cz ∧ (∀ z ∈ cz, -9223372036854775808 ≤ z ∧ z < 9223372036854775808) ∧ cz.length ≤ 9223372036854775807 ∧
      (∀ q, key.a = some q → q.block < W.heap.size) ∧ ∀ q, bytes.a = some q → q.block < W.heap.size := by
  have hu := underlying64
  have hs0 := okWide_struct (P := prog) (t := 64) hu hv
  obtain ⟨cs, hcv, hcs⟩ := hs0
  subst hcv
  obtain ⟨fuel, hf⟩ := h
  obtain ⟨xs, m, _, hx, hcl, hxl, hfs⟩ := DataW.trod_struct hu hf
  have hsz : prog.cellsOf 64 = 5 := by kernel_rfl
  rw [hsz] at hcs
  have c62 : prog.cellsOf 62 = 1 := by kernel_rfl
  have hcc : (Value.agg cs).cells.toList = cs.toList := rfl
  simp only [hcc] at hfs
  have hl5 : cs.toList.length = 5 := by simpa using hcs
  obtain ⟨c0, c1, c2, c3, c4, hc⟩ : ∃ a b c d e, cs.toList = [a, b, c, d, e] := by
    match hm : cs.toList, hl5 with
    | [a, b, c, d, e], _ => exact ⟨a, b, c, d, e, rfl⟩
  have hx5 : xs.length = 5 := hxl
  obtain ⟨y0, y1, y2, y3, y4, hy⟩ : ∃ a b c d e, xs = [a, b, c, d, e] := by
    match hm : xs, hx5 with
    | [a, b, c, d, e], _ => exact ⟨a, b, c, d, e, rfl⟩
  subst hy
  rw [hc] at hfs
  have f0 := hfs 0 _ rfl
  have f1 := hfs 1 _ rfl
  have f2 := hfs 2 _ rfl
  have f3 := hfs 3 _ rfl
  have f4 := hfs 4 _ rfl
  simp only [int_cells, c62, cells_of_TB, List.drop_zero, List.drop_succ_cons, List.take_succ_cons, List.take_zero, List.getElem?_cons_zero, List.getElem?_cons_succ] at f0 f1 f2 f3 f4
  have hd : d = .agg [y0.1, y1.1, y2.1, y3.1, y4.1] := (Prod.mk.inj hx).1
  have hwt : ∀ n ∈ y0.1.weights prog 3 ++ (y1.1.weights prog 25 ++ (y2.1.weights prog 25 ++ (y3.1.weights prog 62 ++ (y4.1.weights prog 3 ++ [])))), n ≤ reachBytes := by
    intro n hn
    refine hw n ?_
    rw [hd]
    simp only [DataW.weights, hu, List.map_cons, List.map_nil, DataW.weightsEach]
    exact hn
  obtain ⟨n0, e0, _, w0⟩ := DataW.trod_int underlying3 f0
  obtain ⟨n4, e4, _, w4⟩ := DataW.trod_int underlying3 f4
  obtain ⟨s1, p1, e1, g1⟩ := open_bytes_t f1 (fun n hn => hwt n (by simp [hn]))
  obtain ⟨s2, p2, e2, g2⟩ := open_bytes_t f2 (fun n hn => hwt n (by simp [hn]))
  obtain ⟨s3, p3, e3, g3, g4, g5⟩ := open_i64s_t f3
  have hcs2 : cs = feedC n0 s1 s2 s3 n4 := by
    apply Array.ext'
    rw [hc, (List.cons.inj e0).1, (List.cons.inj e1).1, (List.cons.inj e2).1, (List.cons.inj e3).1, (List.cons.inj e4).1]
    rfl
  subst hcs2
  have hv2 : ∃ cs, Value.agg (feedC n0 s1 s2 s3 n4) = .agg cs ∧ cs.size = prog.cellsOf 64 ∧ Row.okWide prog W .any base 64 cs := by
    simpa only [Value.okWide, underlying64] using hv
  obtain ⟨cs, he, _, ts, hts, _, hall⟩ := hv2
  obtain rfl := Value.agg.inj he
  have ht : ts = [3, 25, 25, 62, 3] := Option.some.inj (hts.symm.trans (by kernel_rfl))
  subst ht
  refine ⟨n0, s1, s2, s3, n4, p1, p2, p3, rfl, g1, g2, g3, g4, g5, ?_, ?_⟩
  · obtain ⟨u, hu, hc⟩ := hall 1 (slV s1) rfl
    obtain rfl := Option.some.inj hu
    exact cell_lt hc
  · obtain ⟨u, hu, hc⟩ := hall 2 (slV s2) rfl
    obtain rfl := Option.some.inj hu
    exact cell_lt hc

end Go.Sh

/- Streams and Macs as objects: written, told, counted, copied, begun anew. -/
set_option linter.unusedVariables false
namespace Go.Sh
open Go.Fw Go.Sha Go.RowKit Go.Proofs.Tryd

/-- A stream in a block: what it was fed. -/
structure StrmAt (w : World) (g : Nat) (C S : List Int) (h : Int) (xs : List Int) : Prop where
  ex : ∃ cs, Bk 99 w g cs ∧ StC C S h xs cs

theorem StrmAt.upd {w w' : World} {g : Nat} {C S : List Int} {h : Int} {xs : List Int} {X : Nat → Prop} (m : StrmAt w g C S h xs) (u : Upd X w w') (hn : ¬ X g) : StrmAt w' g C S h xs := by
  obtain ⟨cs, h1, h2⟩ := m.ex
  exact ⟨cs, h1.upd u hn, h2⟩
theorem StrmAt.upd0 {w w' : World} {g : Nat} {C S : List Int} {h : Int} {xs : List Int} (m : StrmAt w g C S h xs) (u : Upd none_ w w') : StrmAt w' g C S h xs := m.upd u id
theorem StrmAt.lt {w : World} {g : Nat} {C S : List Int} {h : Int} {xs : List Int} (m : StrmAt w g C S h xs) : g < w.heap.size := by
  obtain ⟨cs, h1, _⟩ := m.ex
  exact h1.lt

theorem StrmAt.st {w : World} {g : Nat} {C S : List Int} {h : Int} {xs : List Int} (m : StrmAt w g C S h xs) : ∃ H half, StAt w 99 g 0 (stCells h xs.length H half) h xs.length H half ∧ Fed h C (firstH S h) xs H half := by
  obtain ⟨cs, h1, h2⟩ := m.ex
  obtain ⟨H, half, rfl, f, hi⟩ := h2.ex
  have := st_mk (pre := []) (post := []) (o := 0) f.H8 f.len hi rfl (by rw [List.nil_append, List.append_nil]; exact h1)
  rw [List.nil_append, List.append_nil] at this
  exact ⟨H, half, this, f⟩
theorem StrmAt.mk' {w : World} {g : Nat} {C S : List Int} {h : Int} {xs H half cs0 : List Int} {c0 : List Value} (st : StAt w 99 g 0 c0 h xs.length H half) (f : Fed h C (firstH S h) xs H half) (hl : c0.length = 142) : StrmAt w g C S h xs := by
  have hsl := stCells_len h xs.length st.words st.len
  have e : seg c0 0 (stCells h xs.length H half) = stCells h xs.length H half := seg_all (by omega)
  have hb := st.bk
  rw [e] at hb
  exact ⟨_, hb, H, half, rfl, f, st.inn⟩

theorem New_strm {K : Nat} (hK : 18446744073709551616 ≤ K) {h : Int} (hk : known h = true) {C S : List Int} {w : World} (T : Tabs w C S) :
    ∃ w' g, digest_New K h w = some ((some ⟨g, 0, none⟩, 0, ()), w') ∧ StrmAt w' g C S h [] ∧ w.heap.size ≤ g ∧ Upd none_ w w' := by
  obtain ⟨w1, g, h1, u1, hg, st, f⟩ := New_st hK hk T
  exact ⟨w1, g, h1, StrmAt.mk' (cs0 := []) st f (stCells_len h 0 (firstH_len S h) (List.length_replicate ..)), hg, u1⟩

theorem New_nil {K : Nat} (hK : 18446744073709551616 ≤ K) {h : Int} (hk : known h = false) {C S : List Int} {w : World} (T : Tabs w C S) : ∃ w', digest_New K h w = some ((none, 10, ()), w') ∧ Upd none_ w w' := by
  obtain ⟨w1, g, h1, h2, h3, h4⟩ := New_ok hK h T.sl T.sin T.gs
  rw [hk, if_neg (by decide), if_neg (by decide)] at h1
  exact ⟨w1, h1, h2⟩

theorem strm_write {K : Nat} (hK : 18446744073709551616 ≤ K) {w : World} {g : Nat} {h : Int} (hk : known h = true) {C S xs : List Int} (T : Tabs w C S) (hg : 4 ≤ g) (m : StrmAt w g C S h xs) {s : Sl} {xss : List (List Int)} {Q : Nat → Prop} (hQ : ¬ Q g) (hp : Parts w s xss Q) (hl : xs.length + xss.flatten.length ≤ 33554432) :
    ∃ w', digest_Stream_Write K (some ⟨g, 0, none⟩) s w = some ((0, ()), w') ∧ StrmAt w' g C S h (xs ++ xss.flatten) ∧ Upd (· = g) w w' := by
  obtain ⟨H, half, st, f⟩ := m.st
  obtain ⟨w', H', half', h1, h2, h3, h4⟩ := Write_ok hK hk T.cl (show g ≠ 2 by omega) st f T.gc hQ hp hl
  exact ⟨w', h1, StrmAt.mk' (cs0 := []) h2 h3 (stCells_len h _ st.words st.len), h4⟩

theorem strm_long {K : Nat} (hK : 18446744073709551616 ≤ K) {w : World} {g : Nat} {h : Int} (hk : known h = true) {C S xs : List Int} (m : StrmAt w g C S h xs) (hn : xs.length ≤ 33554432) {s : Sl} {xss : List (List Int)} {Q : Nat → Prop} (hp : Parts w s xss Q) (hl : ¬ xs.length + xss.flatten.length ≤ 33554432) :
    digest_Stream_Write K (some ⟨g, 0, none⟩) s w = some ((4, ()), w.drew) := by
  obtain ⟨H, half, st, f⟩ := m.st
  exact Write_long hK hk st hn hp hl

theorem strm_sum {K : Nat} (hK : 18446744073709551616 ≤ K) {w : World} {g : Nat} {h : Int} (hk : known h = true) {C S xs : List Int} (T : Tabs w C S) (m : StrmAt w g C S h xs) (hl : xs.length ≤ 1099511627776) :
    ∃ s' w', digest_Stream_Sum K (some ⟨g, 0, none⟩) w = some ((s', ()), w') ∧ Ans w.heap.size w' s' (digestOf h C (firstH S h) xs) ∧ Upd none_ w w' := by
  obtain ⟨H, half, st, f⟩ := m.st
  exact StreamSum_ok hK hk T.cl st f T.gc hl

theorem strm_ask {w : World} {g : Nat} {h : Int} (hk : known h = true) {C S xs : List Int} (m : StrmAt w g C S h xs) :
    digest_Stream_Hash (some ⟨g, 0, none⟩) w = some (h, ()) ∧ digest_Stream_Size (some ⟨g, 0, none⟩) w = some (sizeOfH h, ()) ∧ digest_Stream_Block (some ⟨g, 0, none⟩) w = some (((blk h : Nat) : Int), ()) ∧ digest_Stream_Count (some ⟨g, 0, none⟩) w = some (((xs.length : Nat) : Int), ()) := by
  obtain ⟨cs, hb, sc⟩ := m.ex
  obtain ⟨H, half, rfl, f, hi⟩ := sc.ex
  have l0 : ldI .i64 ⟨g, 0, none⟩ w = some (sizeOfH h) := hb.ldI (by rcases known_cases hk with e | e | e | e <;> subst e <;> rfl)
  have l1 : ldI .i64 ⟨g, 1, none⟩ w = some (((blk h : Nat) : Int)) := hb.ldI (by rcases known_cases hk with e | e | e | e <;> subst e <;> rfl)
  have l4 : ldI .i64 ⟨g, 4, none⟩ w = some h := hb.ldI (by rcases known_cases hk with e | e | e | e <;> subst e <;> rfl)
  have l5 : ldI .u64 ⟨g, 5, none⟩ w = some (((xs.length : Nat) : Int)) := hb.ldI (by rcases known_cases hk with e | e | e | e <;> subst e <;> rfl)
  refine ⟨?_, ?_, ?_, ?_⟩
  · unfold digest_Stream_Hash; rw [if_neg (by simp), Option.bind_some]; simp only [add_lit, Nat.zero_add]; rw [l4, Option.bind_some]
  · unfold digest_Stream_Size; rw [if_neg (by simp), Option.bind_some]; simp only [add_lit, Nat.zero_add]; rw [l0, Option.bind_some]
  · unfold digest_Stream_Block; rw [if_neg (by simp), Option.bind_some]; simp only [add_lit, Nat.zero_add]; rw [l1, Option.bind_some]
  · unfold digest_Stream_Count; rw [if_neg (by simp), Option.bind_some]; simp only [add_lit, Nat.zero_add]; rw [l5, Option.bind_some]

theorem strm_copy {w : World} {g : Nat} {h : Int} {C S xs : List Int} (m : StrmAt w g C S h xs) :
    ∃ w' g', digest_Stream_Copy (some ⟨g, 0, none⟩) w = some ((some ⟨g', 0, none⟩, ()), w') ∧ StrmAt w' g' C S h xs ∧ g' = w.heap.size ∧ Upd none_ w w' := by
  obtain ⟨cs, hb, sc⟩ := m.ex
  have hl := sc.len
  have lA := hb.ldA (i := 0) (n := 142) (by rw [hl]; decide)
  rw [List.drop_zero, List.take_of_length_le (by rw [hl]; decide)] at lA
  obtain ⟨w1, n1, b1, u1, z1⟩ := newB_ok z99 99 w
  obtain ⟨w2, s2, b2, u2, _⟩ := lay b1 (vs := cs) (by rw [hl]; rfl) sc.one
  refine ⟨w2, w.heap.size, ?_, ⟨cs, b2, sc⟩, rfl, u1.trans' u2 fun k hk e => by omega⟩
  unfold digest_Stream_Copy
  rw [if_neg (by simp), Option.bind_some, lA, Option.bind_some, n1, bnd_ok, if_pos (by rw [List.size_toArray, hl]), s2, Option.bind_some]

theorem strm_reset {K : Nat} (hK : 18446744073709551616 ≤ K) {w : World} {g : Nat} {h : Int} (hk : known h = true) {C S xs : List Int} (T : Tabs w C S) (m : StrmAt w g C S h xs) :
    ∃ w', digest_Stream_Reset K (some ⟨g, 0, none⟩) w = some ((0, ()), w') ∧ StrmAt w' g C S h [] ∧ Upd (· = g) w w' := by
  obtain ⟨cs, hb, sc⟩ := m.ex
  have hl := sc.len
  have l4 : ldI .i64 ⟨g, 4, none⟩ w = some h := by
    obtain ⟨H, half, rfl, f, hi⟩ := sc.ex
    exact hb.ldI (by rcases known_cases hk with e | e | e | e <;> subst e <;> rfl)
  obtain ⟨w1, h1, u1⟩ := begin_ok hK h T.sl T.sin T.gs
  have hcl := stCells_len h 0 (firstH_len S h) (List.length_replicate (n := 128) (a := (0 : Int)))
  obtain ⟨w2, s2, b2, u2, _⟩ := lay (hb.upd0 u1) (vs := stCells h 0 (firstH S h) half0) (by rw [hcl, hl]) (stCells_one _ _ _ _)
  refine ⟨w2, ?_, ⟨_, b2, StC.start C S h⟩, (u1.mono (T := (· = g)) fun _ _ e => e.elim).trans' u2 fun _ _ e => e⟩
  unfold digest_Stream_Reset
  rw [if_neg (by simp), Option.bind_some]
  simp only [add_lit, Nat.zero_add]
  rw [l4, Option.bind_some, h1, bnd_ok, Option.bind_some, if_pos (by rw [List.size_toArray, hcl])]
  simp only [add_lit, Nat.zero_add]
  rw [s2, Option.bind_some]

theorem mac_copy {w : World} {g : Nat} {h : Int} {C S ks xs : List Int} (m : MacAt w g C S h ks xs) :
    ∃ w' g', digest_Mac_Copy (some ⟨g, 0, none⟩) w = some ((some ⟨g', 0, none⟩, ()), w') ∧ MacAt w' g' C S h ks xs ∧ g' = w.heap.size ∧ Upd none_ w w' := by
  obtain ⟨cs, cs0, hb, k1, k2⟩ := m.ex
  have hl : (cs ++ cs0).length = 568 := by rw [List.length_append, k1.len, k2.len]
  have lA := hb.ldA (i := 0) (n := 568) (by rw [hl]; decide)
  rw [List.drop_zero, List.take_of_length_le (by rw [hl]; decide)] at lA
  obtain ⟨w1, n1, b1, u1, z1⟩ := newB_ok z101 101 w
  obtain ⟨w2, s2, b2, u2, _⟩ := lay b1 (vs := cs ++ cs0) (by rw [hl]; kernel_rfl) (fun v hv => (List.mem_append.1 hv).elim (k1.one v) (k2.one v))
  refine ⟨w2, w.heap.size, ?_, ⟨cs, cs0, b2, k1, k2⟩, rfl, u1.trans' u2 fun k hk e => by omega⟩
  unfold digest_Mac_Copy
  rw [if_neg (by simp), Option.bind_some, lA, Option.bind_some, n1, bnd_ok, if_pos (by rw [List.size_toArray, hl]), s2, Option.bind_some]

theorem mac_reset {w : World} {g : Nat} {h : Int} {C S ks xs : List Int} (m : MacAt w g C S h ks xs) :
    ∃ w', digest_Mac_Reset (some ⟨g, 0, none⟩) w = some ((0, ()), w') ∧ MacAt w' g C S h ks [] ∧ Upd (· = g) w w' := by
  obtain ⟨cs, cs0, hb, k1, k2⟩ := m.ex
  have hl : (cs ++ cs0).length = 568 := by rw [List.length_append, k1.len, k2.len]
  have lA := hb.ldA (i := 284) (n := 284) (by rw [hl]; decide)
  rw [← k1.len, List.drop_left, k1.len, List.take_of_length_le (by rw [k2.len]; decide)] at lA
  obtain ⟨w2, s2, b2, u2⟩ := hb.stA (o := 0) (vs := cs0.toArray) (by rw [List.size_toArray, k2.len, hl]; decide) (by simpa using k2.one)
  have e : seg (cs ++ cs0) 0 cs0.toArray.toList = cs0 ++ cs0 := by
    show seg (cs ++ cs0) 0 cs0 = _
    unfold seg
    rw [List.take_zero, List.nil_append, Nat.zero_add, k2.len, ← k1.len, List.drop_left]
  rw [e] at b2
  refine ⟨w2, ?_, ⟨cs0, cs0, b2, k2, k2⟩, u2⟩
  unfold digest_Mac_Reset
  rw [if_neg (by simp), Option.bind_some]
  simp only [add_lit, Nat.zero_add]
  rw [lA, Option.bind_some, Option.bind_some, if_pos (by rw [List.size_toArray, k2.len])]
  simp only [add_lit, Nat.zero_add]
  rw [s2, Option.bind_some]

theorem mac_size {w : World} {g : Nat} {h : Int} (hk : known h = true) {C S ks xs : List Int} (m : MacAt w g C S h ks xs) : digest_Mac_Size (some ⟨g, 0, none⟩) w = some (sizeOfH h, ()) := by
  obtain ⟨cs, cs0, hb, k1, k2⟩ := m.ex
  obtain ⟨a, b, rfl, sa, _⟩ := k1.ex
  obtain ⟨H, half, rfl, f, hi⟩ := sa.ex
  have l0 : ldI .i64 ⟨g, 0, none⟩ w = some (sizeOfH h) := hb.ldI (by rcases known_cases hk with e | e | e | e <;> subst e <;> rfl)
  unfold digest_Mac_Size
  rw [if_neg (by simp), Option.bind_some]
  simp only [add_lit, Nat.zero_add]
  rw [l0, Option.bind_some]

end Go.Sh

/- DigestFull: just MaxFed bytes are taken. -/
set_option linter.unusedVariables false
namespace Go.Sh
open Go.Fw Go.Sha Go.RowKit Go.Proofs.Tryd Go.Deep

/-- a list of parts that lie in blocks of Q -/
theorem some_partsQ {w : World} (Q : Nat → Prop) (ps : List (Sl × List Int)) (h : ∀ p ∈ ps, PartOk w p ∧ ∀ q, p.1.a = some q → Q q.block) (hq : Q w.heap.size) (h0 : 0 < ps.length) (hn : ps.length ≤ 1024) :
    ∃ w', bldS prog 24 ps.length ((ps.map fun p => slV p.1).zipIdx.map fun p => (p.2, p.1)).toArray w = some (⟨some ⟨w.heap.size, 0, none⟩, ps.length, ps.length⟩, w') ∧ Parts w' ⟨some ⟨w.heap.size, 0, none⟩, ps.length, ps.length⟩ (ps.map (·.2)) Q ∧ Upd none_ w w' := by
  have hlen : (ps.map fun p => slV p.1).length = ps.length := List.length_map ..
  obtain ⟨w2, c1, c2, c3, c4⟩ := bldS_ok sliceSS (ps.map fun p => slV p.1) (fun v hv => by obtain ⟨x, _, rfl⟩ := List.mem_map.1 hv; rfl) (by omega) (by omega) w
  rw [hlen] at c1 c2
  have hs := c3.size
  refine ⟨w2, c1, ⟨by simp, Nat.le_refl _, ?_, ?_, by simp; omega, .inr ⟨⟨w.heap.size, 0, none⟩, ps.map (·.1), rfl, by simp, hq, ?_, fun i hi => ?_⟩⟩, c3⟩
  · intro xs hxs
    obtain ⟨p, hp, rfl⟩ := List.mem_map.1 hxs
    exact (h p hp).1.2.1
  · intro xs hxs
    obtain ⟨p, hp, rfl⟩ := List.mem_map.1 hxs
    exact (h p hp).1.2.2.1
  · rcases (c2.src (fun v hv => by obtain ⟨x, _, rfl⟩ := List.mem_map.1 hv; rfl)).rd with ⟨b1, _⟩ | ⟨p, b1, b2⟩
    · cases b1
    · obtain rfl := Option.some.inj b1
      rw [List.map_map]; exact b2
  · have hi2 : i < ps.length := by simpa using hi
    have e1 : (ps.map (·.1)).getD i nilS = ps[i].1 := by simp [List.getD_eq_getElem?_getD, hi2]
    have e2 : (ps.map (·.2)).getD i [] = ps[i].2 := by simp [List.getD_eq_getElem?_getD, hi2]
    obtain ⟨⟨f1, f2, f3, f4⟩, f5⟩ := h ps[i] (List.getElem_mem hi2)
    rw [e1, e2]
    exact ⟨f1.upd0 c3, fun q hq => ⟨f5 q hq, by have := f4 q hq; omega⟩⟩

theorem one_partQ {w : World} (Q : Nat → Prop) {b : Sl} {xs : List Int} (h : PartOk w (b, xs)) (hb : ∀ q, b.a = some q → Q q.block) (hq : Q w.heap.size) :
    ∃ w', bldS prog 24 1 #[(0, (.slice b.a b.len b.cap))] w = some (⟨some ⟨w.heap.size, 0, none⟩, 1, 1⟩, w') ∧ Parts w' ⟨some ⟨w.heap.size, 0, none⟩, 1, 1⟩ [xs] Q ∧ Upd none_ w w' :=
  some_partsQ Q [(b, xs)] (fun p hp => by obtain rfl := List.mem_singleton.1 hp; exact ⟨h, hb⟩) hq (by simp) (by simp)
theorem two_partQ {w : World} (Q : Nat → Prop) {b c : Sl} {xs ys : List Int} (h : PartOk w (b, xs)) (hb : ∀ q, b.a = some q → Q q.block) (h2 : PartOk w (c, ys)) (hc : ∀ q, c.a = some q → Q q.block) (hq : Q w.heap.size) :
    ∃ w', bldS prog 24 2 #[(0, (.slice b.a b.len b.cap)), (1, (.slice c.a c.len c.cap))] w = some (⟨some ⟨w.heap.size, 0, none⟩, 2, 2⟩, w') ∧ Parts w' ⟨some ⟨w.heap.size, 0, none⟩, 2, 2⟩ [xs, ys] Q ∧ Upd none_ w w' :=
  some_partsQ Q [(b, xs), (c, ys)] (fun p hp => by
    simp only [List.mem_cons, List.not_mem_nil, or_false] at hp
    rcases hp with rfl | rfl
    · exact ⟨h, hb⟩
    · exact ⟨h2, hc⟩) hq (by simp) (by simp)

theorem nilPart (w : World) : PartOk w (⟨none, 0, 0⟩, []) := ⟨⟨rfl, Nat.le_refl _, .inl ⟨rfl, rfl, rfl⟩, ints_one⟩, by simp, by simp, fun q hq => by cases hq⟩
theorem nilParts (w : World) (Q : Nat → Prop) : Parts w ⟨none, 0, 0⟩ [] Q := ⟨rfl, Nat.le_refl _, by simp, by simp, by simp, .inl rfl⟩

theorem mkS_full (w : World) {n : Nat} (hn : n ≤ 1099511627776) :
    ∃ w', mkS prog 25 (.int .i64 (n : Int)) (.int .i64 (n : Int)) w = some (⟨some ⟨w.heap.size, 0, none⟩, n, n⟩, w') ∧ Own 5 w' ⟨some ⟨w.heap.size, 0, none⟩, n, n⟩ (ints .u8 (List.replicate n 0)) ∧ Upd none_ w w' := by
  obtain ⟨i, hi, hsz, hz, hby⟩ := sliceB.info
  obtain ⟨w', hr, ho, hg⟩ := run_make_full (P := prog) w 0 25 5 i (.int .u8 0) 1 sliceB.ht hi hz hsz .i64 .i64 n (by rw [hby]; omega) (by simp only [maxLen]; omega) (Nat.zero_le _)
  obtain ⟨s, h1, h2, h3⟩ := Own.of_row ho
  have hs : s = ⟨some ⟨w.heap.size, 0, none⟩, n, n⟩ := by
    cases s
    simp only [Value.slice.injEq] at h1
    simp [← h1.1, ← h1.2.1, ← h1.2.2]
  have hc : (madeCells (Value.int .u8 0).cells (n * 1)).toList = ints .u8 (List.replicate n 0) := by
    apply List.ext_getElem
    · simp [madeCells]
    · intro k h1 h2; simp [madeCells, Nat.mod_one, Value.cells]
  rw [hs, hc] at h3
  refine ⟨w', ?_, h3, (Upd.of_grown hg).mono fun k _ e => by cases e⟩
  unfold mkS
  rw [hr]

theorem oneB_in : ∀ x ∈ ([1] : List Int), InK .u8 x := by
  intro x hx
  obtain rfl := List.mem_singleton.1 hx
  exact ⟨by decide, by decide⟩

/-- a list of one byte, made here -/
theorem one_byte (w : World) : ∃ w', bldS prog 25 1 #[(0, (.int .u8 1))] w = some (⟨some ⟨w.heap.size, 0, none⟩, 1, 1⟩, w') ∧ PartOk w' (⟨some ⟨w.heap.size, 0, none⟩, 1, 1⟩, [1]) ∧ Upd none_ w w' := by
  obtain ⟨w1, h1, o1, u1, z1⟩ := bldS1_ok sliceB (.int .u8 1) rfl w
  have o1 : Own 5 w1 ⟨some ⟨w.heap.size, 0, none⟩, 1, 1⟩ (ints .u8 [1]) := o1
  exact ⟨w1, h1, ⟨o1.src ints_one, oneB_in, by simp, lt_of_blk fun k hk => o1.lt hk⟩, u1⟩

theorem rep_add (i N : Nat) : List.replicate (i * N) (0 : Int) ++ List.replicate N 0 = List.replicate ((i + 1) * N) 0 := by
  rw [List.replicate_append_replicate, Nat.succ_mul]

theorem full_l1 {K : Nat} (hK : 18446744073709551616 ≤ K) {C S : List Int} {N : Nat} (hN : N = 1048576) {g gm : Nat} (hg4 : 4 ≤ g) (hm4 : 4 ≤ gm) (hgm : g ≠ gm) {mega : Sl} (hmg : ∀ q, mega.a = some q → q.block ≠ g ∧ q.block ≠ gm) :
    ∀ (d i k : Nat) (w : World), i + d = 32 → d < k → Tabs w C S → StrmAt w g C S 256 (List.replicate (i * N) 0) → MacAt w gm C S 256 [] (List.replicate (i * N) 0) → PartOk w (mega, List.replicate N 0) →
      ∃ w', law01_DigestFull_l1 K k mega (some ⟨g, 0, none⟩) (some ⟨gm, 0, none⟩) (i : Int) w = some (.norm (), w') ∧ StrmAt w' g C S 256 (List.replicate (32 * N) 0) ∧ MacAt w' gm C S 256 [] (List.replicate (32 * N) 0) ∧ Upd (fun k => k = g ∨ k = gm) w w' := by
  intro d
  induction d with
  | zero =>
    intro i k w hi hkk hT hs hm hp
    obtain ⟨k, rfl⟩ : ∃ q, k = q + 1 := ⟨k - 1, by omega⟩
    have hii : i = 32 := by omega
    have hd : decide ((i : Int) < 32) = false := by simp; omega
    refine ⟨w, ?_, hii ▸ hs, hii ▸ hm, Upd.refl _ _⟩
    have eu : law01_DigestFull_l1 K (k + 1) = law01_DigestFull_l1_b K (law01_DigestFull_l1 K k) := rfl
    rw [eu]
    unfold law01_DigestFull_l1_b
    rw [hd, if_neg (by decide)]
  | succ d ih =>
    intro i k w hi hkk hT hs hm hp
    obtain ⟨k, rfl⟩ : ∃ q, k = q + 1 := ⟨k - 1, by omega⟩
    have hd : decide ((i : Int) < 32) = true := by simp; omega
    have e1 : IntKind.i64.wrap ((i : Int) + 1) = ((i + 1 : Nat) : Int) := by rw [w64 (by omega) (by omega)]; rfl
    have hb : (i + 1) * N ≤ 32 * N := Nat.mul_le_mul_right _ (by omega)
    have hsm : (i + 1) * N = i * N + N := Nat.succ_mul ..
    have hgl := hs.lt
    have hml := hm.lt
    have efl : ([List.replicate N (0 : Int)] : List (List Int)).flatten = List.replicate N 0 := by rw [List.flatten_cons, List.flatten_nil, List.append_nil]
    obtain ⟨w1, j1, P1, u1⟩ := one_partQ (fun k => k ≠ g ∧ k ≠ gm) hp hmg (by omega)
    have hs1 := u1.size
    obtain ⟨w2, j2, s2, u2⟩ := strm_write hK known256 (hT.upd0 u1) hg4 (hs.upd0 u1) (fun e => e.1 rfl) P1 (by rw [efl, List.length_replicate, List.length_replicate]; omega)
    rw [efl, rep_add] at s2
    have q2 : Upd (· = g) w w2 := (u1.mono (T := (· = g)) fun _ _ e => e.elim).trans' u2 fun _ _ e => e
    have hs2 := q2.size
    have hp2 := hp.upd q2 fun q hq => (hmg q hq).1
    obtain ⟨w3, j3, P3, u3⟩ := one_partQ (fun k => k ≠ g ∧ k ≠ gm) hp2 hmg (by omega)
    have hs3 := u3.size
    obtain ⟨w4, j4, m4, u4⟩ := MacWrite_ok hK known256 ((hT.upd q2 fun k hk e => by omega).upd0 u3) hm4 ((hm.upd q2 fun e => hgm e.symm).upd0 u3) (fun e => e.2 rfl) P3 (by rw [efl, List.length_replicate, List.length_replicate]; omega)
    rw [efl, rep_add] at m4
    have q4 : Upd (fun k => k = g ∨ k = gm) w w4 := ((q2.mono (T := fun k => k = g ∨ k = gm) fun k _ e => .inl e).and0 u3).trans' (u4.mono (T := fun k => k = g ∨ k = gm) fun k _ e => .inr e) fun _ _ e => e
    obtain ⟨w5, j5, s5, m5, u5⟩ := ih (i + 1) k w4 (by omega) (by omega) (hT.upd q4 fun k hk e => by omega) ((s2.upd0 u3).upd u4 hgm) m4 (hp.upd q4 fun q hq e => by have := hmg q hq; omega)
    refine ⟨w5, ?_, s5, m5, q4.trans' u5 fun _ _ e => e⟩
    have eu : law01_DigestFull_l1 K (k + 1) = law01_DigestFull_l1_b K (law01_DigestFull_l1 K k) := rfl
    rw [eu]
    unfold law01_DigestFull_l1_b law01_num
    rw [hd, if_pos rfl, j1, bnd_ok, j2, bnd_ok, Option.bind_some]
    dsimp only
    rw [if_neg (by decide), j3, bnd_ok, j4, bnd_ok, Option.bind_some]
    dsimp only
    rw [if_neg (by decide), e1, j5]

theorem DigestFull_ok {K : Nat} (hK : 18446744073709551616 ≤ K) {C S : List Int} {w : World} (T : Tabs w C S) : ∃ w', law01_DigestFull K w = some ((true, ()), w') ∧ Upd none_ w w' := by
  obtain ⟨N, hN⟩ : ∃ N : Nat, N = 1048576 := ⟨_, rfl⟩
  have h4 := T.lt
  obtain ⟨w1, j1, o1, u1⟩ := mkS_full w (n := N) (by omega)
  have j1 : mkS prog 25 (.int .i64 1048576) (.int .i64 1048576) w = some (⟨some ⟨w.heap.size, 0, none⟩, N, N⟩, w1) := by
    rw [← j1, hN]; rfl
  have hrep : ∀ n : Nat, ∀ x ∈ List.replicate n (0 : Int), InK .u8 x := fun n x hx => by rw [(List.mem_replicate.1 hx).2]; exact in0
  have p1 : PartOk w1 (⟨some ⟨w.heap.size, 0, none⟩, N, N⟩, List.replicate N 0) := ⟨o1.src ints_one, hrep N, by show (List.replicate N (0 : Int)).length ≤ _; rw [List.length_replicate]; omega, lt_of_blk fun k hk => o1.lt hk⟩
  have hs1 := u1.size
  have hw1 : w.heap.size < w1.heap.size := p1.2.2.2 _ rfl
  obtain ⟨w2, g, j2, s2, hg, u2⟩ := New_strm hK known256 (T.upd0 u1)
  have hs2 := u2.size
  have q2 := u1.and0 u2
  obtain ⟨w3, gm, j3, m3, hgm, u3⟩ := NewMac_ok hK known256 (T.upd0 q2) (nilPart w2).1 (nilPart w2).2.1 (by simp) (nilPart w2).2.2.2
  have hs3 := u3.size
  have q3 := q2.and0 u3
  have hgl := s2.lt
  have hgml := m3.lt
  have hmg : ∀ q, (⟨some ⟨w.heap.size, 0, none⟩, N, N⟩ : Sl).a = some q → q.block ≠ g ∧ q.block ≠ gm := fun q hq => by
    obtain rfl := Option.some.inj hq
    exact ⟨by show w.heap.size ≠ g; omega, by show w.heap.size ≠ gm; omega⟩
  obtain ⟨w4, j4, s4, m4, u4⟩ := full_l1 hK hN (g := g) (gm := gm) (by omega) (by omega) (by omega) hmg 32 0 K w3 rfl (by omega) (T.upd0 q3) (by rw [Nat.zero_mul]; exact s2.upd0 u3) (by rw [Nat.zero_mul]; exact m3) (p1.up (u2.and0 u3))
  have j4 : law01_DigestFull_l1 K K ⟨some ⟨w.heap.size, 0, none⟩, N, N⟩ (some ⟨g, 0, none⟩) (some ⟨gm, 0, none⟩) 0 w3 = _ := j4
  have hs4 := u4.size
  have q4 : Upd none_ w w4 := q3.trans' u4 fun k hk e => by omega
  have hlen : (List.replicate (32 * N) (0 : Int)).length = 33554432 := by rw [List.length_replicate]; omega
  obtain ⟨X, hX⟩ : ∃ X, X = List.replicate (32 * N) (0 : Int) := ⟨_, rfl⟩
  rw [← hX] at s4 m4 hlen
  have T4 := T.upd0 q4
  obtain ⟨a, w5, j5, aa, u5⟩ := strm_sum hK known256 T4 s4 (by omega)
  have hs5 := u5.size
  obtain ⟨b, w6, j6, ab, u6⟩ := MacSum_ok hK known256 (T4.upd0 u5) (m4.upd0 u5) (by omega)
  have hs6 := u6.size
  have q46 := u5.and0 u6
  have s6 := s4.upd0 q46
  have m6 := m4.upd0 q46
  have T6 := T4.upd0 q46
  have hgl6 := s6.lt
  have hml6 := m6.lt
  -- one more is refused
  obtain ⟨w7, j7, p7, u7⟩ := one_byte w6
  have hs7 := u7.size
  obtain ⟨w8, j8, P8, u8⟩ := two_partQ (fun k => k ≠ g ∧ k ≠ gm) (nilPart w7) (fun q hq => by cases hq) p7 (fun q hq => by obtain rfl := Option.some.inj hq; exact ⟨by show w6.heap.size ≠ g; omega, by show w6.heap.size ≠ gm; omega⟩) (by omega)
  have hs8 := u8.size
  have q68 := u7.and0 u8
  have j9 := strm_long hK known256 (s6.upd0 q68) (by omega) P8 (by rw [hlen]; decide)
  have u9 : Upd none_ w8 w8.drew := (Upd.refl none_ w8).drew
  obtain ⟨w10, j10, p10, u10⟩ := one_byte w8.drew
  have hs10 : w8.heap.size ≤ w10.heap.size := u10.size
  obtain ⟨w11, j11, P11, u11⟩ := two_partQ (fun k => k ≠ g ∧ k ≠ gm) p10 (fun q hq => by obtain rfl := Option.some.inj hq; exact ⟨by show w8.heap.size ≠ g; omega, by show w8.heap.size ≠ gm; omega⟩) (nilPart w10) (fun q hq => by cases hq) (by omega)
  have hs11 := u11.size
  have q611 := ((q68.and0 u9).and0 u10).and0 u11
  have j12 := MacWrite_long hK known256 (m6.upd0 q611) (by omega) P11 (by rw [hlen]; decide)
  have u12 : Upd none_ w11 w11.drew := (Upd.refl none_ w11).drew
  have hs12 : w11.heap.size ≤ w11.drew.heap.size := u12.size
  obtain ⟨w13, j13, P13, u13⟩ := two_partQ (fun k => k ≠ g ∧ k ≠ gm) (nilPart w11.drew) (fun q hq => by cases hq) (nilPart w11.drew) (fun q hq => by cases hq) (by omega)
  have hs13 : w11.heap.size ≤ w13.heap.size := u13.size
  have q613 := (q611.and0 u12).and0 u13
  have enil : ([[], []] : List (List Int)).flatten = [] := rfl
  have enil2 : ([] : List (List Int)).flatten = [] := rfl
  obtain ⟨w14, j14, s14, u14⟩ := strm_write hK known256 (T6.upd0 q613) (by omega) (s6.upd0 q613) (fun e => e.1 rfl) P13 (by rw [enil, hlen]; decide)
  rw [enil, List.append_nil] at s14
  obtain ⟨w15, j15, m15, u15⟩ := MacWrite_ok hK known256 ((T6.upd0 q613).upd u14 fun k hk e => by omega) (by omega) ((m6.upd0 q613).upd u14 (by omega)) (Q := fun k => k ≠ gm) (fun e => e rfl) (nilParts w14 _) (by rw [enil2, hlen]; decide)
  rw [enil2, List.append_nil] at m15
  have hs14 := u14.size
  have hs15 := u15.size
  have q1315 : Upd (fun k => k = g ∨ k = gm) w13 w15 := (u14.mono (T := fun k => k = g ∨ k = gm) fun k _ e => .inl e).trans' (u15.mono (T := fun k => k = g ∨ k = gm) fun k _ e => .inr e) fun _ _ e => e
  have q615 : Upd (fun k => k = g ∨ k = gm) w6 w15 := (q613.mono (T := fun k => k = g ∨ k = gm) fun _ _ e => e.elim).trans' q1315 fun _ _ e => e
  have hs2' : law01_DigestFull_s2 K (some ⟨g, 0, none⟩) (some ⟨gm, 0, none⟩) w6 = some ((false, ()), w15) := by
    unfold law01_DigestFull_s2 law01_num
    rw [j7, bnd_ok]
    dsimp only
    rw [j8, bnd_ok, j9, bnd_ok, Option.bind_some]
    dsimp only
    rw [if_neg (by decide), j10, bnd_ok]
    dsimp only
    have j11 : bldS prog 24 2 #[(0, (.slice (some ⟨w8.heap.size, 0, none⟩) 1 1)), (1, (.slice none 0 0))] w10 = _ := j11
    have j11' : bldS prog 24 2 #[(0, (.slice (some ⟨w8.drew.heap.size, 0, none⟩) 1 1)), (1, (.slice none 0 0))] w10 = _ := j11
    rw [j11', bnd_ok, j12, bnd_ok, Option.bind_some]
    dsimp only
    rw [if_neg (by decide), j13, bnd_ok, j14, bnd_ok, Option.bind_some]
    dsimp only
    rw [if_neg (by decide), j15, bnd_ok, Option.bind_some]
    rfl
  have s15 : StrmAt w15 g C S 256 X := s14.upd u15 (by omega)
  have T15 := T6.upd q615 fun k hk e => by omega
  obtain ⟨_, _, _, hcount⟩ := strm_ask known256 s15
  rw [hlen] at hcount
  have hal : a.len = 32 := by rw [aa.len]; exact digestOf_size known256 ..
  obtain ⟨a2, w16, j16, aa2, u16⟩ := strm_sum hK known256 T15 s15 (by omega)
  have hdl := digestOf_len 256 C (firstH S 256) X
  have hmdl := macOf_len C S 256 [] X
  have aa16 := ((aa.upd0 u6).upd q615 fun k hk e => by have := aa.fresh k hk; omega).upd0 u16
  obtain ⟨w17, j17, u17⟩ := SameBytes_ok hK aa2.rd aa16.rd (by omega)
  rw [decide_eq_true rfl] at j17
  have q1517 := u16.and0 u17
  obtain ⟨b2, w18, j18, ab2, u18⟩ := MacSum_ok hK known256 (T15.upd0 q1517) (m15.upd0 q1517) (by omega)
  have ab18 := ((ab.upd q615 fun k hk e => by have := ab.fresh k hk; omega).upd0 q1517).upd0 u18
  obtain ⟨w19, j19, u19⟩ := SameBytes_ok hK ab2.rd ab18.rd (by omega)
  rw [decide_eq_true rfl] at j19
  have q1519 := (q1517.and0 u18).and0 u19
  obtain ⟨w20, j20, s20, u20⟩ := strm_reset hK known256 (T15.upd0 q1519) (s15.upd0 q1519)
  have hs1519 := q1519.size
  have hs20 := u20.size
  obtain ⟨w21, j21, p21, u21⟩ := one_byte w20
  have hs21 := u21.size
  have hgl15 := s15.lt
  obtain ⟨w22, j22, P22, u22⟩ := one_partQ (fun k => k ≠ g) p21 (fun q hq => by obtain rfl := Option.some.inj hq; show w20.heap.size ≠ g; omega) (by omega)
  have q2022 := u21.and0 u22
  have e1 : ([[1]] : List (List Int)).flatten = [1] := rfl
  obtain ⟨w23, j23, s23, u23⟩ := strm_write hK known256 (((T15.upd0 q1519).upd u20 fun k hk e => by omega).upd0 q2022) (by omega) (s20.upd0 q2022) (fun e => e rfl) P22 (by rw [e1]; decide)
  rw [e1, List.nil_append] at s23
  obtain ⟨_, _, _, hc23⟩ := strm_ask known256 s23
  have q15 : Upd none_ w w15 := (q4.and0 q46).trans' q615 fun k hk e => by omega
  refine ⟨w23, ?_, ((((q15.and0 q1519).trans' u20 fun k hk e => by omega).and0 q2022).trans' u23 fun k hk e => by omega)⟩
  unfold law01_DigestFull
  rw [j1, bnd_ok, j2, bnd_ok, j3, bnd_ok]
  dsimp only
  have hs0 : law01_DigestFull_s0 K (some ⟨g, 0, none⟩) 0 (some ⟨gm, 0, none⟩) 0 w3 = some ((false, ()), w3) := by
    unfold law01_DigestFull_s0 law01_num
    rw [Option.bind_some]
    dsimp only
    rw [if_neg (by decide), Option.bind_some, if_neg (by decide), if_neg (by simp)]
    rfl
  rw [hs0, bnd_ok]
  dsimp only
  rw [if_neg (by decide), j4, bnd_ok]
  dsimp only
  rw [j5, bnd_ok, j6, bnd_ok, hs2', bnd_ok]
  dsimp only
  rw [if_neg (by decide), hcount, Option.bind_some]
  dsimp only
  rw [if_pos (by decide), hal, if_pos (by decide), j16, bnd_ok, j17, bnd_ok]
  dsimp only
  rw [if_pos rfl, j18, bnd_ok, j19, bnd_ok]
  dsimp only
  rw [if_pos rfl, j20, bnd_ok]
  unfold law01_num
  rw [Option.bind_some]
  dsimp only
  rw [if_pos (by decide), j21, bnd_ok]
  dsimp only
  rw [j22, bnd_ok, j23, bnd_ok, Option.bind_some]
  dsimp only
  rw [if_pos (by decide), hc23, Option.bind_some]
  rfl

end Go.Sh

/- 'cofferlaw01.DigestLimits' returns true. -/
set_option linter.unusedVariables false
namespace Go.Sh
open Go.Fw Go.Sha Go.RowKit Go.Proofs.Tryd

theorem under25l : prog.underlying 5 = some (.int .u8) := by kernel_rfl
/-- a constant text as bytes -/
theorem constB (xs : List Int) (hp : 0 < xs.length) (hs : xs.length ≤ 1024) (hin : ∀ x ∈ xs, InK .u8 x) (w : World) :
    ∃ w1 w2, bldS prog 25 xs.length ((ints .u8 xs).zipIdx.map fun p => (p.2, p.1)).toArray w = some (⟨some ⟨w.heap.size, 0, none⟩, xs.length, xs.length⟩, w1) ∧
      cnv prog 25 25 (.slice (some ⟨w.heap.size, 0, none⟩) xs.length xs.length) w1 = some (.slice (some ⟨w.heap.size, 0, none⟩) xs.length xs.length, w2) ∧
      PartOk w2 (⟨some ⟨w.heap.size, 0, none⟩, xs.length, xs.length⟩, xs) ∧ Upd none_ w w2 := by
  obtain ⟨w1, w2, h1, h2, h3, h4, h5⟩ := bytesC sliceB under25l xs hp (by omega) w
  exact ⟨w1, w2, h1, h2, ⟨h3, hin, by show xs.length ≤ _; omega, fun q hq => by obtain rfl := Option.some.inj hq; exact h5⟩, h4⟩
theorem vin (xs : List Int) (h : ∀ x ∈ xs, 0 ≤ x ∧ x < 256) : ∀ x ∈ xs, InK .u8 x := h
theorem known384l : known 384 = true := rfl
theorem known512l : known 512 = true := rfl
theorem asS_slice (a : Option Addr) (l c : Nat) : asS (.slice a l c) = some ⟨a, l, c⟩ := rfl
def lA : List Int := [97]
def lBC : List Int := [98, 99]
def lABC : List Int := [97, 98, 99]
def lK : List Int := [107]

/-- append, and what was there is still read by the old slice -/
theorem apd_keep {P : Program} {t e : TypeId} {z : Value} {bytes : Nat} (T : OneSlice P t e z bytes) {w : World} {s x : Sl} {xs vs : List Value} (h : Own e w s xs) (hne : xs ≠ []) (h1x : ∀ v ∈ xs, v.oneCell' = true) {p : Addr} (h1 : x.a = some p) (h2 : Rd w p vs) (hxl : x.len = vs.length) (h1v : ∀ v ∈ vs, v.oneCell' = true) (hv0 : 0 < vs.length) (hb : (s.len + x.len) * bytes ≤ 140737488355328) :
    ∃ s' w', apd P t t (.slice s.a s.len s.cap) (.slice x.a x.len x.cap) w = some (s', w') ∧ Vw e w' s' (xs ++ vs) ∧ Src w' s xs ∧ Upd (fun k => s.blk = some k) w w' ∧ (∀ k, s'.blk = some k → s.blk = some k ∨ w.heap.size ≤ k) := by
  obtain ⟨i, hi, hsz, hz, hby⟩ := T.info
  obtain ⟨g, cs, a1, a2, a3, a4, a5, a6⟩ := h.bk hne
  have hsl : s.len = xs.length := h.len
  by_cases hr : s.len + x.len ≤ s.cap
  · have hm : ∀ j, j < vs.length → (w.cell? ⟨g, 0 + s.len * i.size + j, none⟩).isSome = true := by
      intro j hj
      rw [a2.cell, List.getElem?_eq_getElem (by rw [hsz]; omega)]; rfl
    have hrun := run_append_room_cells (P := P) w t 0 e i T.ht hi g 0 s.len s.cap p x.len x.cap vs (by rw [hsz]; omega) h2 h1v hr hm (fun j _ => a2.frozen _)
    rw [hsz, Nat.mul_one, Nat.zero_add] at hrun
    obtain ⟨b1, b2⟩ := a2.setCells vs s.len w cs (by omega)
    have hcl : s.len + vs.length ≤ cs.length := by omega
    have hget : ∀ k, k < s.len → (seg cs s.len vs)[k]? = xs[k]? := by
      intro k hk
      rw [seg_get hcl, if_pos (by omega), ← a6, List.getElem?_take, if_pos hk]
    refine ⟨⟨some ⟨g, 0, none⟩, s.len + x.len, s.cap⟩, w.setCells g s.len vs, ?_, ⟨by rw [List.length_append]; show _ = s.len + x.len; omega, .inr ⟨g, 0, _, rfl, b1, hr, a4, by rw [seg_length hcl]; show 0 + s.cap ≤ _; omega, ?_⟩⟩, ⟨hsl, a3, .inr ⟨⟨g, 0, none⟩, a1, ?_⟩, h1x⟩, b2.mono fun k _ hk => by simp [Sl.blk, a1, hk], fun k hk => .inl (by rw [← hk]; simp [Sl.blk, a1])⟩
    · unfold apd; rw [a1, h1, hrun]
    · apply List.ext_getElem?
      intro k
      rw [List.getElem?_take, List.getElem?_drop, Nat.zero_add]
      by_cases c1 : k < s.len + x.len
      · rw [if_pos c1]
        by_cases c2 : k < s.len
        · rw [hget k c2, List.getElem?_append_left (by omega)]
        · rw [seg_get hcl, if_neg (by omega), if_pos (by omega), List.getElem?_append_right (by omega)]
          congr 1; omega
      · rw [if_neg c1, List.getElem?_eq_none (by rw [List.length_append]; omega)]
    · intro k v hk
      have hkl : k < s.len := by have := (List.getElem?_eq_some_iff.1 hk).1; omega
      rw [add_lit, Nat.zero_add, b1.cell, hget k hkl]; exact hk
  · have holds : ∀ j u, xs[j]? = some u → w.cell? ((⟨g, 0, none⟩ : Addr).add j) = some u := by
      intro j u hu
      rw [add_lit, Nat.zero_add, a2.cell]
      rw [← a6, List.getElem?_take] at hu
      split at hu
      · exact hu
      · cases hu
    obtain ⟨v', w', hrun, ho, hg⟩ := run_append_arg_grows (P := P) w t 0 e i z 1 i.bytes T.ht hi hz hsz rfl T.zc (by omega) ⟨g, 0, none⟩ s.len s.cap xs (by omega) holds p x.len x.cap vs (by omega) h2 (by omega)
      (by have := Nat.le_mul_of_pos_right (s.len + x.len) T.pos; simp only [maxLen]; omega) (by rw [hby]; exact hb)
    have u0 : Upd none_ w w' := (Upd.of_grown hg).mono fun k _ hk => by cases hk
    have hlt := u0.size
    have hsrc : Src w s xs := h.src h1x
    obtain ⟨hlen0, ho2⟩ := ho
    rcases ho2 with ⟨_, hz0⟩ | ⟨g', cap', cur, rfl, hbase, c2, c3, c4, c5, c6⟩
    · omega
    · refine ⟨⟨some ⟨g', 0, none⟩, s.len + x.len, cap'⟩, w', ?_, ⟨by simp; omega, .inr ⟨g', 0, cur.toList, rfl, by unfold Bk; simpa using c2, c3, c4, by simp; omega, by simpa using c6⟩⟩, hsrc.upd0 u0, u0.mono fun k _ hk => hk.elim, fun k hk => .inr ?_⟩
      · unfold apd; rw [a1, h1, hrun]
      · simp only [Sl.blk, Option.map_some, Option.some.injEq] at hk; omega

/-- a list of parts that is there -/
theorem parts_of {w : World} {s : Sl} {Q : Nat → Prop} (ps : List (Sl × List Int)) (hs : Src w s (ps.map fun p => slV p.1)) (h0 : ps ≠ []) (hn : ps.length ≤ 1024) (h : ∀ p ∈ ps, PartOk w p ∧ ∀ q, p.1.a = some q → Q q.block) (hq : ∀ p, s.a = some p → Q p.block) : Parts w s (ps.map (·.2)) Q := by
  have hpos : 0 < ps.length := List.length_pos_iff.2 h0
  refine ⟨by rw [hs.len]; simp, hs.cap, ?_, ?_, by simp; omega, .inr ?_⟩
  · intro xs hxs
    obtain ⟨p, hp, rfl⟩ := List.mem_map.1 hxs
    exact (h p hp).1.2.1
  · intro xs hxs
    obtain ⟨p, hp, rfl⟩ := List.mem_map.1 hxs
    exact (h p hp).1.2.2.1
  · rcases hs.rd with ⟨_, _, e⟩ | ⟨p, e, hr⟩
    · have := congrArg List.length e; simp at this; exact (h0 this).elim
    · refine ⟨p, ps.map (·.1), e, by simp, hq p e, by rw [List.map_map]; exact hr, fun i hi => ?_⟩
      have hi2 : i < ps.length := by simpa using hi
      have e1 : (ps.map (·.1)).getD i nilS = ps[i].1 := by simp [List.getD_eq_getElem?_getD, hi2]
      have e2 : (ps.map (·.2)).getD i [] = ps[i].2 := by simp [List.getD_eq_getElem?_getD, hi2]
      obtain ⟨⟨f1, f2, f3, f4⟩, f5⟩ := h ps[i] (List.getElem_mem hi2)
      rw [e1, e2]
      exact ⟨f1, fun q hq => ⟨f5 q hq, f4 q hq⟩⟩

theorem lim_l0 {K : Nat} {B : Nat} {mega : Sl} :
    ∀ (d i k : Nat) (w : World) (parts : Sl), i + d = 32 → d < k → Own 25 w parts (List.replicate i (slV mega)) → Fresh B parts → B ≤ w.heap.size →
      ∃ parts' w', law01_DigestLimits_l0 K k mega parts (i : Int) w = some ((parts', ()), w') ∧ Own 25 w' parts' (List.replicate 32 (slV mega)) ∧ Fresh B parts' ∧ Below B w w' := by
  intro d
  induction d with
  | zero =>
    intro i k w parts hi hk ho hf hB
    obtain ⟨k, rfl⟩ : ∃ q, k = q + 1 := ⟨k - 1, by omega⟩
    have hii : i = 32 := by omega
    have eu : law01_DigestLimits_l0 K (k + 1) = law01_DigestLimits_l0_b K (law01_DigestLimits_l0 K k) := rfl
    rw [eu]
    unfold law01_DigestLimits_l0_b
    rw [if_neg (by simp; omega)]
    exact ⟨parts, w, rfl, hii ▸ ho, hf, Below.refl B w⟩
  | succ d ih =>
    intro i k w parts hi hk ho hf hB
    obtain ⟨k, rfl⟩ : ∃ q, k = q + 1 := ⟨k - 1, by omega⟩
    have e1 : IntKind.i64.wrap ((i : Int) + 1) = ((i + 1 : Nat) : Int) := by rw [w64 (by omega) (by omega)]; rfl
    have hpl : parts.len = i := by rw [ho.len, List.length_replicate]
    obtain ⟨w1, h1, o1, u1, z1⟩ := bldS1_ok sliceSS (.slice mega.a mega.len mega.cap) rfl w
    obtain ⟨s2, w2, h2, l2, o2, u2, b2⟩ := apd_ok sliceSS (ho.upd0 u1) (o1.src (by simp [Value.oneCell'])) (by show (parts.len + 1) * 24 ≤ _; omega)
    have hs1 := u1.size
    have hf2 : Fresh B s2 := by
      intro k hk
      rcases b2 with e | e
      · exact hf k (e ▸ hk)
      · rw [e] at hk; have := Option.some.inj hk; omega
    have c2 : Below B w w2 := (u1.below hB fun _ _ => id).trans (u2.below (by omega) fun k hk e => by have := hf k e; omega)
    have er : List.replicate i (slV mega) ++ [.slice mega.a mega.len mega.cap] = List.replicate (i + 1) (slV mega) := by rw [List.replicate_succ']
    rw [er] at o2
    obtain ⟨p3, w3, h3, o3, f3, c3⟩ := ih (i + 1) k w2 s2 (by omega) (by omega) o2 hf2 (Nat.le_trans hB c2.size)
    refine ⟨p3, w3, ?_, o3, f3, c2.trans c3⟩
    have eu : law01_DigestLimits_l0 K (k + 1) = law01_DigestLimits_l0_b K (law01_DigestLimits_l0 K k) := rfl
    rw [eu]
    unfold law01_DigestLimits_l0_b
    rw [if_pos (by simp; omega), h1, bnd_ok, h2, bnd_ok, e1, h3]

theorem Sum_long {K : Nat} (hK : 18446744073709551616 ≤ K) {h : Int} (hk : known h = true) {C S : List Int} {w : World} (T : Tabs w C S) {s : Sl} {xss : List (List Int)} {Q : Nat → Prop} (hp : Parts w s xss Q) (hl : ¬ xss.flatten.length ≤ 33554432) :
    ∃ w', digest_Sum K h s w = some ((⟨none, 0, 0⟩, 4, ()), w') ∧ Upd none_ w w' := by
  obtain ⟨w1, g, h1, m1, hg, u1⟩ := New_strm hK hk T
  have h2 := strm_long hK hk m1 (by simp) (hp.upd0 u1) (by simpa using hl)
  refine ⟨w1.drew, ?_, u1.drew⟩
  unfold digest_Sum digest_Sum_s0
  rw [h1, bnd_ok]
  dsimp only
  rw [if_pos (by decide), h2, bnd_ok, bnd_ok]
  dsimp only
  rw [if_pos (by decide)]
theorem Code_long {K : Nat} (hK : 18446744073709551616 ≤ K) {h : Int} (hk : known h = true) {C S : List Int} {w : World} (T : Tabs w C S) {s : Sl} {xss : List (List Int)} {Q : Nat → Prop} (hp : Parts w s xss Q) (hl : ¬ xss.flatten.length ≤ 33554432) :
    ∃ w', digest_Code K h ⟨none, 0, 0⟩ s w = some ((⟨none, 0, 0⟩, 4, ()), w') ∧ Upd none_ w w' := by
  obtain ⟨w1, g, h1, m1, hg, u1⟩ := NewMac_ok hK hk T (nilPart w).1 (nilPart w).2.1 (by simp) (nilPart w).2.2.2
  have h2 := MacWrite_long hK hk m1 (by simp) (hp.upd0 u1) (by simpa using hl)
  refine ⟨w1.drew, ?_, u1.drew⟩
  unfold digest_Code digest_Code_s0
  rw [h1, bnd_ok]
  dsimp only
  rw [if_pos (by decide), h2, bnd_ok, bnd_ok]
  dsimp only
  rw [if_pos (by decide)]

theorem flat_rep (N n : Nat) : (List.replicate n (List.replicate N (0 : Int))).flatten.length = n * N := by simp

theorem up_ {w w' : World} {p : Sl × List Int} (hp : PartOk w p) (u : Upd none_ w w') : PartOk w' p := ⟨hp.1.upd0 u, hp.2.1, hp.2.2.1, fun q hq => by have := hp.2.2.2 q hq; have := u.size; omega⟩

theorem lim_s3 {K : Nat} (hK : 18446744073709551616 ≤ K) {C S : List Int} {w : World} (T : Tabs w C S) {g gm : Nat} (hg : 4 ≤ g) (hgm : g < gm) (m : StrmAt w g C S 512 []) (n : MacAt w gm C S 384 lK []) {parts : Sl} {xss : List (List Int)} {B : Nat} (hB : B ≤ g) (hp : Parts w parts xss (· < B)) (hl : xss.flatten.length = 33554432) :
    ∃ w', law01_DigestLimits_s3 K parts (some ⟨g, 0, none⟩) (some ⟨gm, 0, none⟩) w = some ((false, ()), w') ∧ StrmAt w' g C S 512 lA ∧ MacAt w' gm C S 384 lK lA ∧ Upd (fun k => k = g ∨ k = gm) w w' := by
  obtain ⟨a1, w1, c1, c2, p1, u1⟩ := constB lA (by decide) (by decide) (vin _ (by decide)) w
  have c1 : bldS prog 25 1 #[(0, (.int .u8 97))] w = some (⟨some ⟨w.heap.size, 0, none⟩, 1, 1⟩, a1) := c1
  have c2 : cnv prog 25 25 (.slice (some ⟨w.heap.size, 0, none⟩) 1 1) a1 = some (.slice (some ⟨w.heap.size, 0, none⟩) 1 1, w1) := c2
  have p1 : PartOk w1 (⟨some ⟨w.heap.size, 0, none⟩, 1, 1⟩, lA) := p1
  have z1 := u1.size
  have hgl := m.lt
  have hml := n.lt
  obtain ⟨w2, j2, P2, u2⟩ := one_partQ (fun k => k ≠ g ∧ k ≠ gm) p1 (fun q hq => by obtain rfl := Option.some.inj hq; exact ⟨by show w.heap.size ≠ g; omega, by show w.heap.size ≠ gm; omega⟩) (by omega)
  have z2 := u2.size
  have q2 := u1.and0 u2
  obtain ⟨w3, j3, m3, u3⟩ := strm_write hK known512l (T.upd0 q2) hg (m.upd0 q2) (fun e => e.1 rfl) P2 (by decide)
  have m3 : StrmAt w3 g C S 512 lA := m3
  have z3 := u3.size
  have T3 := (T.upd0 q2).upd u3 fun k hk e => by omega
  have n3 := (n.upd0 q2).upd u3 (by omega)
  obtain ⟨a4, w4, d1, d2, p4, u4⟩ := constB lA (by decide) (by decide) (vin _ (by decide)) w3
  have d1 : bldS prog 25 1 #[(0, (.int .u8 97))] w3 = some (⟨some ⟨w3.heap.size, 0, none⟩, 1, 1⟩, a4) := d1
  have d2 : cnv prog 25 25 (.slice (some ⟨w3.heap.size, 0, none⟩) 1 1) a4 = some (.slice (some ⟨w3.heap.size, 0, none⟩) 1 1, w4) := d2
  have p4 : PartOk w4 (⟨some ⟨w3.heap.size, 0, none⟩, 1, 1⟩, lA) := p4
  have z4 := u4.size
  obtain ⟨w5, j5, P5, u5⟩ := one_partQ (fun k => k ≠ g ∧ k ≠ gm) p4 (fun q hq => by obtain rfl := Option.some.inj hq; exact ⟨by show w3.heap.size ≠ g; omega, by show w3.heap.size ≠ gm; omega⟩) (by omega)
  have z5 := u5.size
  have q5 := u4.and0 u5
  obtain ⟨w6, j6, n6, u6⟩ := MacWrite_ok hK known384l (T3.upd0 q5) (by omega) (n3.upd0 q5) (fun e => e.2 rfl) P5 (by decide)
  have n6 : MacAt w6 gm C S 384 lK lA := n6
  have m6 := (m3.upd0 q5).upd u6 (by omega)
  have hp6 := (((hp.upd0 q2).upd u3 fun k hk e => by omega).upd0 q5).upd u6 fun k hk e => by omega
  have j7 := strm_long hK known512l m6 (by decide) hp6 (by rw [hl]; decide)
  have u7 : Upd none_ w6 w6.drew := (Upd.refl none_ w6).drew
  have j8 := MacWrite_long hK known384l (n6.upd0 u7) (by decide) (hp6.upd0 u7) (by rw [hl]; decide)
  have u8 : Upd none_ w6 w6.drew.drew := u7.drew
  have m8 := m6.upd0 u8
  obtain ⟨_, _, _, hc⟩ := strm_ask known512l m8
  refine ⟨w6.drew.drew, ?_, m8, n6.upd0 u8, ?_⟩
  · unfold law01_DigestLimits_s3 law01_num
    rw [c1, bnd_ok]
    dsimp only
    rw [c2, bnd_ok, asS_slice, Option.bind_some]
    dsimp only
    rw [j2, bnd_ok, j3, bnd_ok, Option.bind_some]
    dsimp only
    rw [if_neg (by decide), d1, bnd_ok]
    dsimp only
    rw [d2, bnd_ok, asS_slice, Option.bind_some]
    dsimp only
    rw [j5, bnd_ok, j6, bnd_ok, Option.bind_some]
    dsimp only
    rw [if_neg (by decide), j7, bnd_ok, Option.bind_some]
    dsimp only
    rw [if_neg (by decide), j8, bnd_ok, Option.bind_some]
    dsimp only
    rw [if_neg (by decide), hc, Option.bind_some]
    rfl
  · have v3 : Upd (fun k => k = g ∨ k = gm) w w3 := (q2.mono (T := fun k => k = g ∨ k = gm) fun _ _ e => e.elim).trans' (u3.mono (T := fun k => k = g ∨ k = gm) fun k _ e => .inl e) fun _ _ e => e
    exact ((v3.and0 q5).trans' (u6.mono (T := fun k => k = g ∨ k = gm) fun k _ e => .inr e) fun _ _ e => e).and0 u8

theorem lim_s4 {K : Nat} (hK : 18446744073709551616 ≤ K) {C S : List Int} {w : World} (T : Tabs w C S) {g gm : Nat} (hg : 4 ≤ g) (hgm : g < gm) (m : StrmAt w g C S 512 lA) (n : MacAt w gm C S 384 lK lA) :
    ∃ w', law01_DigestLimits_s4 K (some ⟨g, 0, none⟩) (some ⟨gm, 0, none⟩) w = some ((false, ()), w') ∧ StrmAt w' g C S 512 lABC ∧ MacAt w' gm C S 384 lK lABC ∧ Upd (fun k => k = g ∨ k = gm) w w' := by
  obtain ⟨a1, w1, c1, c2, p1, u1⟩ := constB lBC (by decide) (by decide) (vin _ (by decide)) w
  have c1 : bldS prog 25 2 #[(0, (.int .u8 98)), (1, (.int .u8 99))] w = some (⟨some ⟨w.heap.size, 0, none⟩, 2, 2⟩, a1) := c1
  have c2 : cnv prog 25 25 (.slice (some ⟨w.heap.size, 0, none⟩) 2 2) a1 = some (.slice (some ⟨w.heap.size, 0, none⟩) 2 2, w1) := c2
  have p1 : PartOk w1 (⟨some ⟨w.heap.size, 0, none⟩, 2, 2⟩, lBC) := p1
  have z1 := u1.size
  have hgl := m.lt
  have hml := n.lt
  obtain ⟨w2, j2, P2, u2⟩ := one_partQ (fun k => k ≠ g ∧ k ≠ gm) p1 (fun q hq => by obtain rfl := Option.some.inj hq; exact ⟨by show w.heap.size ≠ g; omega, by show w.heap.size ≠ gm; omega⟩) (by omega)
  have z2 := u2.size
  have q2 := u1.and0 u2
  obtain ⟨w3, j3, m3, u3⟩ := strm_write hK known512l (T.upd0 q2) hg (m.upd0 q2) (fun e => e.1 rfl) P2 (by decide)
  have m3 : StrmAt w3 g C S 512 lABC := m3
  have z3 := u3.size
  have T3 := (T.upd0 q2).upd u3 fun k hk e => by omega
  have n3 := (n.upd0 q2).upd u3 (by omega)
  obtain ⟨a4, w4, d1, d2, p4, u4⟩ := constB lBC (by decide) (by decide) (vin _ (by decide)) w3
  have d1 : bldS prog 25 2 #[(0, (.int .u8 98)), (1, (.int .u8 99))] w3 = some (⟨some ⟨w3.heap.size, 0, none⟩, 2, 2⟩, a4) := d1
  have d2 : cnv prog 25 25 (.slice (some ⟨w3.heap.size, 0, none⟩) 2 2) a4 = some (.slice (some ⟨w3.heap.size, 0, none⟩) 2 2, w4) := d2
  have p4 : PartOk w4 (⟨some ⟨w3.heap.size, 0, none⟩, 2, 2⟩, lBC) := p4
  have z4 := u4.size
  obtain ⟨w5, j5, P5, u5⟩ := one_partQ (fun k => k ≠ g ∧ k ≠ gm) p4 (fun q hq => by obtain rfl := Option.some.inj hq; exact ⟨by show w3.heap.size ≠ g; omega, by show w3.heap.size ≠ gm; omega⟩) (by omega)
  have z5 := u5.size
  have q5 := u4.and0 u5
  obtain ⟨w6, j6, n6, u6⟩ := MacWrite_ok hK known384l (T3.upd0 q5) (by omega) (n3.upd0 q5) (fun e => e.2 rfl) P5 (by decide)
  have n6 : MacAt w6 gm C S 384 lK lABC := n6
  have m6 := (m3.upd0 q5).upd u6 (by omega)
  refine ⟨w6, ?_, m6, n6, ?_⟩
  · unfold law01_DigestLimits_s4 law01_num
    rw [c1, bnd_ok]
    dsimp only
    rw [c2, bnd_ok, asS_slice, Option.bind_some]
    dsimp only
    rw [j2, bnd_ok, j3, bnd_ok, Option.bind_some]
    dsimp only
    rw [if_neg (by decide), d1, bnd_ok]
    dsimp only
    rw [d2, bnd_ok, asS_slice, Option.bind_some]
    dsimp only
    rw [j5, bnd_ok, j6, bnd_ok, Option.bind_some]
    rfl
  · have v3 : Upd (fun k => k = g ∨ k = gm) w w3 := (q2.mono (T := fun k => k = g ∨ k = gm) fun _ _ e => e.elim).trans' (u3.mono (T := fun k => k = g ∨ k = gm) fun k _ e => .inl e) fun _ _ e => e
    exact (v3.and0 q5).trans' (u6.mono (T := fun k => k = g ∨ k = gm) fun k _ e => .inr e) fun _ _ e => e

theorem DigestLimits_ok {K : Nat} (hK : 18446744073709551616 ≤ K) {C S : List Int} {w : World} (T : Tabs w C S) : ∃ w', law01_DigestLimits K w = some ((true, ()), w') ∧ Upd none_ w w' := by
  obtain ⟨N, hN⟩ : ∃ N : Nat, N = 1048576 := ⟨_, rfl⟩
  have h4 := T.lt
  obtain ⟨w1, j1, o1, u1⟩ := mkS_full w (n := N) (by omega)
  have j1 : mkS prog 25 (.int .i64 1048576) (.int .i64 1048576) w = some (⟨some ⟨w.heap.size, 0, none⟩, N, N⟩, w1) := by
    rw [← j1, hN]; rfl
  have hrep : ∀ n : Nat, ∀ x ∈ List.replicate n (0 : Int), InK .u8 x := fun n x hx => by rw [(List.mem_replicate.1 hx).2]; exact in0
  have p1 : PartOk w1 (⟨some ⟨w.heap.size, 0, none⟩, N, N⟩, List.replicate N 0) := ⟨o1.src ints_one, hrep N, by show (List.replicate N (0 : Int)).length ≤ _; rw [List.length_replicate]; omega, lt_of_blk fun k hk => o1.lt hk⟩
  have z1 := u1.size
  have hw1 : w.heap.size < w1.heap.size := p1.2.2.2 _ rfl
  obtain ⟨mega, hmega⟩ : ∃ mega : Sl, mega = ⟨some ⟨w.heap.size, 0, none⟩, N, N⟩ := ⟨_, rfl⟩
  rw [← hmega] at p1 j1
  have hma : mega.a = some ⟨w.heap.size, 0, none⟩ := by rw [hmega]
  obtain ⟨parts, w2, j2, o2, f2, b2⟩ := lim_l0 (K := K) (B := w1.heap.size) (mega := mega) 32 0 K w1 nilS rfl (by omega) (Own.nil ..) (fun k hk => by cases hk) (Nat.le_refl _)
  have j2 : law01_DigestLimits_l0 K K mega ⟨none, 0, 0⟩ 0 w1 = _ := j2
  have z2 := b2.size
  have u2 : Upd none_ w1 w2 := Upd.of_below b2
  have p2 := up_ p1 u2
  obtain ⟨w3, j3, p3, u3⟩ := one_byte w2
  have z3 := u3.size
  have hw3 : w2.heap.size < w3.heap.size := p3.2.2.2 _ rfl
  obtain ⟨w4, j4, o4, u4, _⟩ := bldS1_ok sliceSS (.slice (some ⟨w2.heap.size, 0, none⟩) 1 1) rfl w3
  have z4 := u4.size
  have q4 := u3.and0 u4
  have hpl : parts.len = 32 := by rw [o2.len, List.length_replicate]
  obtain ⟨p, hp, hr⟩ : ∃ p, (⟨some ⟨w3.heap.size, 0, none⟩, 1, 1⟩ : Sl).a = some p ∧ Rd w4 p [.slice (some ⟨w2.heap.size, 0, none⟩) 1 1] := by
    rcases (o4.src (by simp [Value.oneCell'])).rd with ⟨e, _⟩ | h
    · cases e
    · exact h
  obtain ⟨over, w5, j5, v5, s5, u5, f5⟩ := apd_keep sliceSS (o2.upd0 q4) (fun e => by have := congrArg List.length e; simp at this) (fun v hv => by rw [(List.mem_replicate.1 hv).2]; rfl) (x := ⟨some ⟨w3.heap.size, 0, none⟩, 1, 1⟩) hp hr rfl (by simp [Value.oneCell']) (by simp) (by show (parts.len + 1) * 24 ≤ _; omega)
  have z5 := u5.size
  -- the parts, and one more
  have pm5 : PartOk w5 (mega, List.replicate N 0) := (up_ p2 q4).upd u5 fun q hq e => by
    have e1 := f2 _ e
    have : q.block = w.heap.size := by rw [hma] at hq; obtain rfl := Option.some.inj hq; rfl
    omega
  have pb5 : PartOk w5 (⟨some ⟨w2.heap.size, 0, none⟩, 1, 1⟩, [1]) := (up_ p3 u4).upd u5 fun q hq e => by
    have e1 := o2.lt e
    obtain rfl := Option.some.inj hq
    have e1 : w2.heap.size < w2.heap.size := e1
    omega
  have hq5 : ∀ (s : Sl) (vs : List Value), Vw 25 w5 s vs → ∀ q, s.a = some q → q.block < w5.heap.size := fun s vs hv q hq => hv.lt (by rw [Sl.blk, hq]; rfl)
  have PO : Parts w5 over (List.map (fun p : Sl × List Int => p.2) (List.replicate 32 ((mega, List.replicate N 0) : Sl × List Int) ++ [((⟨some ⟨w2.heap.size, 0, none⟩, 1, 1⟩ : Sl), ([1] : List Int))])) (· < w5.heap.size) := by
    refine parts_of _ ?_ (by simp) (by simp) ?_ (hq5 _ _ v5)
    · rw [List.map_append, List.map_replicate]
      exact v5.src fun v hv => by
        rcases List.mem_append.1 hv with hv | hv
        · rw [(List.mem_replicate.1 hv).2]; rfl
        · rw [List.mem_singleton.1 hv]; rfl
    · intro x hx
      rcases List.mem_append.1 hx with hx | hx
      · rw [(List.mem_replicate.1 hx).2]; exact ⟨pm5, pm5.2.2.2⟩
      · rw [List.mem_singleton.1 hx]; exact ⟨pb5, pb5.2.2.2⟩
  have PP : Parts w5 parts (List.map (fun p : Sl × List Int => p.2) (List.replicate 32 ((mega, List.replicate N 0) : Sl × List Int))) (· < w5.heap.size) := by
    refine parts_of _ ?_ (by simp) (by simp) ?_ (fun q hq => ?_)
    · rw [List.map_replicate]; exact s5
    · intro x hx
      rw [(List.mem_replicate.1 hx).2]; exact ⟨pm5, pm5.2.2.2⟩
    · have := o2.lt (k := q.block) (by rw [Sl.blk, hq]; rfl)
      omega
  rw [List.map_append, List.map_replicate] at PO
  rw [List.map_replicate] at PP
  have lPP : (List.replicate 32 (List.replicate N (0 : Int))).flatten.length = 33554432 := by rw [flat_rep]; omega
  have lPO : ¬ (List.replicate 32 (List.replicate N (0 : Int)) ++ [[1]]).flatten.length ≤ 33554432 := by
    rw [List.flatten_append, List.length_append, flat_rep]; simp; omega
  have q15 : Upd none_ w w5 := ((u1.and0 u2).and0 q4).trans' u5 fun k hk e => by have := f2 k e; omega
  obtain ⟨w6, j6, u6⟩ := Sum_long hK known256 (T.upd0 q15) PO lPO
  have q6 := q15.and0 u6
  obtain ⟨w7, j7, u7⟩ := Code_long hK known256 (T.upd0 q6) (PO.upd0 u6) lPO
  have q7 := q6.and0 u7
  have z6 := u6.size
  have z7 := u7.size
  obtain ⟨w8, g, j8, m8, hg, u8⟩ := New_strm hK known512l (T.upd0 q7)
  have q8 := q7.and0 u8
  have z8 := u8.size
  obtain ⟨a9, w9, c1, c2, p9, u9⟩ := constB lK (by decide) (by decide) (vin _ (by decide)) w8
  have c1 : bldS prog 25 1 #[(0, (.int .u8 107))] w8 = some (⟨some ⟨w8.heap.size, 0, none⟩, 1, 1⟩, a9) := c1
  have c2 : cnv prog 25 25 (.slice (some ⟨w8.heap.size, 0, none⟩) 1 1) a9 = some (.slice (some ⟨w8.heap.size, 0, none⟩) 1 1, w9) := c2
  have p9 : PartOk w9 (⟨some ⟨w8.heap.size, 0, none⟩, 1, 1⟩, lK) := p9
  have q9 := q8.and0 u9
  have z9 := u9.size
  obtain ⟨w10, gm, j10, n10, hgm, u10⟩ := NewMac_ok hK known384l (T.upd0 q9) p9.1 p9.2.1 (by show lK.length ≤ 33554432; decide) p9.2.2.2
  have q10 := q9.and0 u10
  have z10 := u10.size
  have m10 := (m8.upd0 u9).upd0 u10
  have hgl := m8.lt
  obtain ⟨w11, j11, m11, n11, u11⟩ := lim_s3 hK (T.upd0 q10) (g := g) (gm := gm) (by omega) (by omega) m10 n10 (B := w5.heap.size) (by omega) (((((PP.upd0 u6).upd0 u7).upd0 u8).upd0 u9).upd0 u10) lPP
  have z11 := u11.size
  have q11 : Upd none_ w w11 := q10.trans' u11 fun k hk e => by omega
  obtain ⟨w12, j12, m12, n12, u12⟩ := lim_s4 hK (T.upd0 q11) (g := g) (gm := gm) (by omega) (by omega) m11 n11
  have z12 := u12.size
  have q12 : Upd none_ w w12 := q11.trans' u12 fun k hk e => by omega
  obtain ⟨a13, w13, d1, d2, p13, u13⟩ := constB lABC (by decide) (by decide) (vin _ (by decide)) w12
  have d1 : bldS prog 25 3 #[(0, (.int .u8 97)), (1, (.int .u8 98)), (2, (.int .u8 99))] w12 = some (⟨some ⟨w12.heap.size, 0, none⟩, 3, 3⟩, a13) := d1
  have d2 : cnv prog 25 25 (.slice (some ⟨w12.heap.size, 0, none⟩) 3 3) a13 = some (.slice (some ⟨w12.heap.size, 0, none⟩) 3 3, w13) := d2
  have p13 : PartOk w13 (⟨some ⟨w12.heap.size, 0, none⟩, 3, 3⟩, lABC) := p13
  obtain ⟨w14, j14, P14, u14⟩ := one_part p13.1 p13.2.1 p13.2.2.1 p13.2.2.2
  have q14 := (q12.and0 u13).and0 u14
  obtain ⟨r15, w15, j15, r15a, u15⟩ := Sum_ok hK known512l (T.upd0 q14) P14 (fun k hk => hk) (by show ([lABC] : List (List Int)).flatten.length ≤ 33554432; decide)
  have q15' := q14.and0 u15
  obtain ⟨a16, w16, e1, e2, p16, u16⟩ := constB lK (by decide) (by decide) (vin _ (by decide)) w15
  have e1 : bldS prog 25 1 #[(0, (.int .u8 107))] w15 = some (⟨some ⟨w15.heap.size, 0, none⟩, 1, 1⟩, a16) := e1
  have e2 : cnv prog 25 25 (.slice (some ⟨w15.heap.size, 0, none⟩) 1 1) a16 = some (.slice (some ⟨w15.heap.size, 0, none⟩) 1 1, w16) := e2
  have p16 : PartOk w16 (⟨some ⟨w15.heap.size, 0, none⟩, 1, 1⟩, lK) := p16
  obtain ⟨a17, w17, i1, i2, p17, u17⟩ := constB lABC (by decide) (by decide) (vin _ (by decide)) w16
  have i1 : bldS prog 25 3 #[(0, (.int .u8 97)), (1, (.int .u8 98)), (2, (.int .u8 99))] w16 = some (⟨some ⟨w16.heap.size, 0, none⟩, 3, 3⟩, a17) := i1
  have i2 : cnv prog 25 25 (.slice (some ⟨w16.heap.size, 0, none⟩) 3 3) a17 = some (.slice (some ⟨w16.heap.size, 0, none⟩) 3 3, w17) := i2
  have p17 : PartOk w17 (⟨some ⟨w16.heap.size, 0, none⟩, 3, 3⟩, lABC) := p17
  obtain ⟨w18, j18, P18, u18⟩ := one_part p17.1 p17.2.1 p17.2.2.1 p17.2.2.2
  have q18 := ((q15'.and0 u16).and0 u17).and0 u18
  have p18 := up_ (up_ p16 u17) u18
  obtain ⟨r19, w19, j19, r19v, r19f, u19⟩ := Code_any hK 384 (T.upd0 q18) p18.1 p18.2.1 (by show lK.length ≤ 33554432; decide) p18.2.2.2 P18 (fun k hk => hk) (by show ([lABC] : List (List Int)).flatten.length ≤ 33554432; decide)
  have q19 := q18.and0 u19
  have k19 := (((((u13.and0 u14).and0 u15).and0 u16).and0 u17).and0 u18).and0 u19
  obtain ⟨r20, w20, j20, r20a, u20⟩ := strm_sum hK known512l (T.upd0 q19) (m12.upd0 k19) (by decide)
  have r15b := ((((r15a.upd0 u16).upd0 u17).upd0 u18).upd0 u19).upd0 u20
  have hd15 : digestOf 512 C (firstH S 512) ([lABC] : List (List Int)).flatten = digestOf 512 C (firstH S 512) lABC := rfl
  rw [hd15] at r15b
  have hdl := digestOf_len 512 C (firstH S 512) lABC
  obtain ⟨w21, j21, u21⟩ := SameBytes_ok hK r20a.rd r15b.rd (by omega)
  rw [decide_eq_true rfl] at j21
  have q21 := (q19.and0 u20).and0 u21
  obtain ⟨r22, w22, j22, r22a, u22⟩ := MacSum_ok hK known384l (T.upd0 q21) ((n12.upd0 k19).upd0 (u20.and0 u21)) (by decide)
  have hcode : codeOf C S 384 lK ([lABC] : List (List Int)).flatten = macOf C S 384 lK lABC := by unfold codeOf; rw [if_pos known384l]; rfl
  rw [hcode] at r19v
  have hml := macOf_len C S 384 lK lABC
  obtain ⟨w23, j23, u23⟩ := SameBytes_ok hK r22a.rd (((r19v.upd0 u20).upd0 u21).upd0 u22).rd (by omega)
  rw [decide_eq_true rfl] at j23
  have q23 := (q21.and0 u22).and0 u23
  have hlen : r15.len = 64 := by rw [r15a.len]; exact digestOf_size known512l ..
  obtain ⟨w24, j24, o24, u24⟩ := mkS_full w23 (n := 8388609) (by omega)
  obtain ⟨w25, j25, o25, u25⟩ := mkS_full w24 (n := 12582913) (by omega)
  have q25 := (q23.and0 u24).and0 u25
  refine ⟨w25, ?_, q25⟩
  have s1 : law01_DigestLimits_s1 K ⟨none, 0, 0⟩ 4 ⟨none, 0, 0⟩ 4 w7 = some ((false, ()), w7) := rfl
  have s2 : law01_DigestLimits_s2 K 0 0 (some ⟨g, 0, none⟩) (some ⟨gm, 0, none⟩) w10 = some ((false, ()), w10) := rfl
  have hx : ∀ a, digest_Hex K ⟨a, 8388609, 8388609⟩ w24 = some ((str0, ()), w24) := fun a => by
    unfold digest_Hex
    rw [if_pos (by simp)]
  have hy : ∀ a, digest_Base64 K ⟨a, 12582913, 12582913⟩ w25 = some ((str0, ()), w25) := fun a => by
    unfold digest_Base64
    rw [if_pos (by simp)]
  unfold law01_DigestLimits
  rw [j1, bnd_ok, j2, bnd_ok, j3, bnd_ok]
  dsimp only
  rw [j4, bnd_ok]
  dsimp only
  rw [j5, bnd_ok, j6, bnd_ok, j7, bnd_ok, s1, bnd_ok]
  dsimp only
  rw [if_neg (by simp), j8, bnd_ok, c1, bnd_ok]
  dsimp only
  rw [c2, bnd_ok, asS_slice, Option.bind_some, j10, bnd_ok]
  dsimp only
  rw [s2, bnd_ok]
  dsimp only
  rw [if_neg (by simp), j11, bnd_ok]
  dsimp only
  rw [if_neg (by simp), j12, bnd_ok]
  dsimp only
  rw [if_neg (by simp), d1, bnd_ok]
  dsimp only
  rw [d2, bnd_ok, asS_slice, Option.bind_some]
  dsimp only
  rw [j14, bnd_ok, j15, bnd_ok, e1, bnd_ok]
  dsimp only
  rw [e2, bnd_ok, asS_slice, Option.bind_some, i1, bnd_ok]
  dsimp only
  rw [i2, bnd_ok, asS_slice, Option.bind_some]
  dsimp only
  rw [j18, bnd_ok, j19, bnd_ok]
  unfold law01_num
  rw [Option.bind_some]
  dsimp only
  rw [if_pos (by decide), if_pos known384l, Option.bind_some, if_pos (by decide), j20, bnd_ok, j21, bnd_ok]
  dsimp only
  rw [if_pos rfl, j22, bnd_ok, j23, bnd_ok]
  dsimp only
  rw [if_pos rfl, hlen, if_pos (by decide)]
  have j24 : mkS prog 25 (.int .i64 8388609) (.int .i64 8388609) w23 = _ := j24
  have j25 : mkS prog 25 (.int .i64 12582913) (.int .i64 12582913) w24 = _ := j25
  rw [j24, bnd_ok, hx, bnd_ok]
  dsimp only
  rw [if_pos (by simp), j25, bnd_ok, hy, bnd_ok]
  dsimp only
  rw [beq_self_eq_true]

end Go.Sh

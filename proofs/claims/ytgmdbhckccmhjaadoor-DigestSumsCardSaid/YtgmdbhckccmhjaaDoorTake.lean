/- A digest in the midst is fed: what take of package digest computes. -/
import Derived.Test.YtgmdbhckccmhjaaDoorFed
import Derived.Test.YtgmdbhckccmhjaaDoorFirst
import Derived.Test.YtgmdbhckccmhjaaDoorBookC
set_option linter.unusedVariables false
namespace Go.Sh
open Go.Fw Go.Sha Go.RowKit Go.Proofs.Tryd

theorem sizeB : (prog.info? 5).map (·.size) = some 1 := by kernel_rfl

/-- copy of bytes into a block -/
theorem cpy_ok {w : World} {b : Sl} {vs : List Value} (hx : Src w b vs) {e : TypeId} {g o dLen dCap : Nat} {cs : List Value} (hb : Bk e w g cs) (hl : o + min b.len dLen ≤ cs.length) :
    ∃ w', cpy prog 25 25 (.slice (some ⟨g, o, none⟩) dLen dCap) (.slice b.a b.len b.cap) w = some (((min b.len dLen : Nat) : Int), w') ∧ Bk e w' g (seg cs o (vs.take (min b.len dLen))) ∧ Upd (· = g) w w' := by
  have hlen := hx.len
  rcases hx.rd with ⟨h1, h2, h3⟩ | ⟨p, h1, h2⟩
  · have h0 : b.len = 0 := by rw [hlen, h3]; rfl
    have hr := run_copy_nil (P := prog) w 25 25 0 5 ⟨g, o, none⟩ dLen dCap sliceB.ht (by rw [sizeB]; rfl)
    refine ⟨w, ?_, ?_, Upd.refl _ _⟩
    · unfold cpy
      rw [h1, h0, h2, hr]
      simp [goInt]
    · rw [h3]; simpa [seg] using hb
  · have hr := run_copy_row (P := prog) w 25 25 0 5 g o dLen dCap p b.len b.cap cs.toArray e (vs.take (min b.len dLen)) sliceB.ht sizeB hb (by simp [hlen])
      (fun j v hv => h2 j v (by
        rw [List.getElem?_take] at hv
        split at hv
        · exact hv
        · cases hv)) (by simp [hlen] at hl ⊢; omega) (fun v hv => hx.one v (List.mem_of_mem_take hv))
    refine ⟨w.setRow g (cs.take o ++ vs.take (min b.len dLen) ++ cs.drop (o + (vs.take (min b.len dLen)).length)).toArray, ?_, ?_, Upd.setRow w g _⟩
    · unfold cpy
      rw [h1, hr]
      have : (vs.take (min b.len dLen)).length = min b.len dLen := by simp [hlen]
      simp only [goInt, this]
    · have := hb.setRow (cs.take o ++ vs.take (min b.len dLen) ++ cs.drop (o + (vs.take (min b.len dLen)).length)).toArray
      simpa [seg] using this

theorem seg_set {cs xs : List Value} {o : Nat} (h : o + xs.length ≤ cs.length) {i : Nat} (hi : i < xs.length) (v : Value) : (seg cs o xs).set (o + i) v = seg cs o (xs.set i v) := by
  apply List.ext_getElem?
  intro j
  rw [List.getElem?_set, seg_length h, seg_get h, seg_get (by simpa using h), List.length_set]
  by_cases h1 : o + i = j
  · subst h1
    rw [if_pos rfl, if_pos (by omega), if_neg (by omega), if_pos (by omega)]
    simp [hi]
  · rw [if_neg h1]
    by_cases h2 : j < o
    · simp [h2]
    · rw [if_neg h2, if_neg h2]
      by_cases h3 : j < o + xs.length
      · rw [if_pos h3, if_pos h3, List.getElem?_set_ne (by omega)]
      · rw [if_neg h3, if_neg h3]

theorem seg_in {cs xs ys : List Value} {o i : Nat} (h : o + xs.length ≤ cs.length) (hi : i + ys.length ≤ xs.length) : seg (seg cs o xs) (o + i) ys = seg cs o (seg xs i ys) := by
  apply List.ext_getElem?
  intro j
  rw [seg_get (by rw [seg_length h]; omega), seg_get h, seg_get (by rw [seg_length hi]; exact h), seg_length hi]
  by_cases h1 : j < o
  · rw [if_pos (by omega), if_pos h1, if_pos h1]
  · by_cases h2 : j < o + i
    · rw [if_pos h2, if_neg h1, if_pos (by omega), if_neg h1, if_pos (by omega), seg_get hi, if_pos (by omega)]
    · rw [if_neg h2]
      by_cases h3 : j < o + i + ys.length
      · rw [if_pos h3, if_neg h1, if_pos (by omega), seg_get hi, if_neg (by omega), if_pos (by omega), show j - (o + i) = j - o - i by omega]
      · rw [if_neg h3, if_neg h1]
        by_cases h4 : j < o + xs.length
        · rw [if_pos h4, if_neg h1, if_pos h4, seg_get hi, if_neg (by omega), if_neg (by omega)]
        · rw [if_neg h4, if_neg h1, if_neg h4]

/-- the cells of a digest in the midst -/
def stCells (h : Int) (cnt : Nat) (H half : List Int) : List Value := kc h ++ ([.int .i64 h, .int .u64 (cnt : Int)] ++ (ints .u64 H ++ ints .u8 half))

theorem stCells_len (h : Int) (cnt : Nat) {H half : List Int} (hH : H.length = 8) (hh : half.length = 128) : (stCells h cnt H half).length = 142 := by
  simp [stCells, kc_len, hH, hh]

theorem stCells_count (h : Int) (cnt cnt' : Nat) (H half : List Int) : (stCells h cnt H half).set 5 (.int .u64 (cnt' : Int)) = stCells h cnt' H half := by
  unfold stCells
  have : 5 = (kc h).length + 1 := by rw [kc_len]
  rw [this, List.set_append_right _ _ (by omega)]
  simp

theorem stCells_words (h : Int) (cnt : Nat) {H H' half : List Int} (hH : H.length = 8) (hH' : H'.length = 8) : seg (stCells h cnt H half) 6 (ints .u64 H') = stCells h cnt H' half := by
  unfold stCells seg
  have e1 : (kc h ++ ([Value.int .i64 h, .int .u64 (cnt : Int)] ++ (ints .u64 H ++ ints .u8 half))) = (kc h ++ [Value.int .i64 h, .int .u64 (cnt : Int)]) ++ (ints .u64 H ++ ints .u8 half) := by simp
  have l1 : (kc h ++ [Value.int .i64 h, .int .u64 (cnt : Int)]).length = 6 := by simp [kc_len]
  rw [e1, List.take_left' l1]
  have e2 : ((kc h ++ [Value.int .i64 h, .int .u64 (cnt : Int)]) ++ (ints .u64 H ++ ints .u8 half)).drop (6 + (ints .u64 H').length) = ints .u8 half := by
    rw [← List.append_assoc]
    exact List.drop_left' (by rw [List.length_append, l1, ints_length, ints_length, hH, hH'])
  rw [e2]
  simp

theorem stCells_half (h : Int) (cnt : Nat) {H half ys : List Int} (hH : H.length = 8) {at_ : Nat} (hl : at_ + ys.length ≤ half.length) : seg (stCells h cnt H half) (14 + at_) (ints .u8 ys) = stCells h cnt H (over half at_ ys) := by
  unfold stCells
  have e1 : ∀ q : List Int, (kc h ++ ([Value.int .i64 h, .int .u64 (cnt : Int)] ++ (ints .u64 H ++ ints .u8 q))) = (kc h ++ [Value.int .i64 h, .int .u64 (cnt : Int)] ++ ints .u64 H) ++ ints .u8 q := fun q => by simp
  have l1 : (kc h ++ [Value.int .i64 h, .int .u64 (cnt : Int)] ++ ints .u64 H).length = 14 := by simp [kc_len, hH]
  rw [e1, e1]
  unfold seg
  have t1 : ((kc h ++ [Value.int .i64 h, .int .u64 (cnt : Int)] ++ ints .u64 H) ++ ints .u8 half).take (14 + at_) = (kc h ++ [Value.int .i64 h, .int .u64 (cnt : Int)] ++ ints .u64 H) ++ ints .u8 (half.take at_) := by
    rw [List.take_append, l1, List.take_of_length_le (by omega), show 14 + at_ - 14 = at_ by omega, ints_take]
  have t2 : ((kc h ++ [Value.int .i64 h, .int .u64 (cnt : Int)] ++ ints .u64 H) ++ ints .u8 half).drop (14 + at_ + (ints .u8 ys).length) = ints .u8 (half.drop (at_ + ys.length)) := by
    rw [List.drop_append, l1, List.drop_eq_nil_of_le (by omega), List.nil_append, ints_length, show 14 + at_ + ys.length - 14 = at_ + ys.length by omega]
    simp [ints, List.map_drop]
  rw [t1, t2]
  unfold over
  rw [ints_append, ints_append]
  simp

/-- a cell of it -/
theorem st_get {h : Int} {cnt : Nat} {H half : List Int} (hH : H.length = 8) (hh : half.length = 128) {cs : List Value} {o : Nat} (hl : o + 142 ≤ cs.length) {i : Nat} (hi : i < 142) : (seg cs o (stCells h cnt H half))[o + i]? = (stCells h cnt H half)[i]? := by
  have hlen := stCells_len h cnt hH hh
  rw [seg_get (by omega), if_neg (by omega), if_pos (by omega), show o + i - o = i by omega]

theorem st_block {h : Int} (hk : known h = true) (cnt : Nat) (H half : List Int) : (stCells h cnt H half)[1]? = some (.int .i64 ((blk h : Nat) : Int)) ∧ (stCells h cnt H half)[5]? = some (.int .u64 (cnt : Int)) ∧
    (stCells h cnt H half)[3]? = some (.func (.func (if narrowB h = true then 80 else 81)) #[] #[]) := by
  rcases known_cases hk with e | e | e | e <;> subst e <;> exact ⟨rfl, rfl, rfl⟩

theorem known_blk {h : Int} (hk : known h = true) : blk h = 64 ∨ blk h = 128 := by unfold blk; split <;> simp

/-- the call of the blocks' function -/
theorem dyn_blocks {β : Type} (K : Nat) (h : Int) (p : Option Addr) (s : Sl) (w : World) (k : Value → World → Option β) :
    dyn (tab (digest_state_take_E K)) (.func (.func (if narrowB h = true then 80 else 81)) #[] #[]) [.pointer p, .slice s.a s.len s.cap] w k =
      bnd (if narrowB h = true then digest_narrow K p s w else digest_wide K p s w) fun _ w' => k (.tuple #[]) w' := by
  cases hn : narrowB h <;> rfl

theorem blocks_ok {K : Nat} (hK : 18446744073709551616 ≤ K) (h : Int) {gh oh : Nat} {eh : TypeId} {C : List Int} (hC : C.length = 80) (hg3 : gh ≠ 2) {w : World} {b : Sl} {bs H : List Int} {ch : List Value} (hin : ∀ i, InK .u8 (bs.getD i 0))
    (hlim : bs.length ≤ 140737488355328) (hH : H.length = 8) (hch : oh + 8 ≤ ch.length) (hAt : (ch.drop oh).take 8 = ints .u64 H)
    (hbv : ∀ p, b.a = some p → p.block < w.heap.size) (hbh : (∀ p, b.a = some p → p.block ≠ gh) ∨ bs.length < 2 * blk h) (hr : RdS .u8 w b bs) (hb : Bk eh w gh ch) (hT : Rd w ⟨2, 0, none⟩ (ints .u64 C)) :
    ∃ w', (if narrowB h = true then digest_narrow K (some ⟨gh, oh, none⟩) b w else digest_wide K (some ⟨gh, oh, none⟩) b w) = some ((), w') ∧ Bk eh w' gh (seg ch oh (ints .u64 (compsH h C (bs.length / blk h) H bs))) ∧ Upd (· = gh) w w' := by
  unfold compsH
  unfold blk at *
  cases hn : narrowB h with
  | true =>
    rw [hn] at hbh
    simp only [if_true] at hbh ⊢
    exact narrow_ok hK hC hg3 hlim hH hch hAt hbv (hbh.imp id fun h => by omega) hr hb hT
  | false =>
    rw [hn] at hbh
    simp only [Bool.false_eq_true, if_false] at hbh ⊢
    exact wide_ok hK hC hg3 hin hlim hH hch hAt hbv (hbh.imp id fun h => by omega) hr hb hT

theorem inD {l : List Int} (h : ∀ x ∈ l, InK .u8 x) (i : Nat) : InK .u8 (l.getD i 0) := by
  by_cases hi : i < l.length
  · rw [List.getD_eq_getElem?_getD, List.getElem?_eq_getElem hi]; exact h _ (List.getElem_mem hi)
  · rw [List.getD_eq_getElem?_getD, List.getElem?_eq_none (by omega)]; exact ⟨by decide, by decide⟩

theorem over_in {l ys : List Int} {o : Nat} (h : ∀ x ∈ l, InK .u8 x) (h2 : ∀ x ∈ ys, InK .u8 x) : ∀ x ∈ over l o ys, InK .u8 x := by
  intro x hx
  unfold over at hx
  simp only [List.mem_append] at hx
  rcases hx with (hx | hx) | hx
  · exact h x (List.mem_of_mem_take hx)
  · exact h2 x hx
  · exact h x (List.mem_of_mem_drop hx)

/-- A digest in the midst lies in a block. -/
structure StAt (w : World) (e : TypeId) (g o : Nat) (cs0 : List Value) (h : Int) (cnt : Nat) (H half : List Int) : Prop where
  bk : Bk e w g (seg cs0 o (stCells h cnt H half))
  room : o + 142 ≤ cs0.length
  words : H.length = 8
  len : half.length = 128
  inn : ∀ x ∈ half, InK .u8 x

theorem StAt.upd {w w' : World} {e : TypeId} {g o : Nat} {cs0 : List Value} {h : Int} {cnt : Nat} {H half : List Int} {S : Nat → Prop} (s : StAt w e g o cs0 h cnt H half) (u : Upd S w w') (hn : ¬ S g) : StAt w' e g o cs0 h cnt H half :=
  ⟨s.bk.upd u hn, s.room, s.words, s.len, s.inn⟩
theorem StAt.drew {w : World} {e : TypeId} {g o : Nat} {cs0 : List Value} {h : Int} {cnt : Nat} {H half : List Int} (s : StAt w e g o cs0 h cnt H half) : StAt w.drew e g o cs0 h cnt H half := ⟨s.bk.drew, s.room, s.words, s.len, s.inn⟩

theorem StAt.ld {w : World} {e : TypeId} {g o : Nat} {cs0 : List Value} {h : Int} {cnt : Nat} {H half : List Int} (s : StAt w e g o cs0 h cnt H half) (hk : known h = true) :
    ldI .i64 ⟨g, o + 1, none⟩ w = some ((blk h : Nat) : Int) ∧ ldI .u64 ⟨g, o + 5, none⟩ w = some (cnt : Int) ∧ ldV ⟨g, o + 3, none⟩ w = some (.func (.func (if narrowB h = true then 80 else 81)) #[] #[]) := by
  obtain ⟨h1, h2, h3⟩ := st_block hk cnt H half
  exact ⟨s.bk.ldI ((st_get s.words s.len s.room (by decide)).trans h1), s.bk.ldI ((st_get s.words s.len s.room (by decide)).trans h2), s.bk.ldV ((st_get s.words s.len s.room (by decide)).trans h3)⟩

/-- its words, its half block -/
theorem StAt.at8 {w : World} {e : TypeId} {g o : Nat} {cs0 : List Value} {h : Int} {cnt : Nat} {H half : List Int} (s : StAt w e g o cs0 h cnt H half) : ((seg cs0 o (stCells h cnt H half)).drop (o + 6)).take 8 = ints .u64 H := by
  apply List.ext_getElem?
  intro i
  rw [List.getElem?_take]
  by_cases hi : i < 8
  · rw [if_pos hi, List.getElem?_drop, show o + 6 + i = o + (6 + i) by omega, st_get s.words s.len s.room (by omega)]
    unfold stCells
    rw [List.getElem?_append_right (by rw [kc_len]; omega), List.getElem?_append_right (by rw [kc_len]; simp; omega), List.getElem?_append_left (by rw [kc_len, ints_length, s.words]; simp; omega)]
    rw [kc_len]
    congr 1
    simp; omega
  · rw [if_neg hi, List.getElem?_eq_none (by rw [ints_length, s.words]; omega)]

theorem StAt.half_rd {w : World} {e : TypeId} {g o : Nat} {cs0 : List Value} {h : Int} {cnt : Nat} {H half : List Int} (s : StAt w e g o cs0 h cnt H half) {n : Nat} (hn : n ≤ 128) : RdS .u8 w ⟨some ⟨g, o + 14, none⟩, n, 128⟩ (half.take n) := by
  refine ⟨by simp [s.len]; omega, hn, .inr ⟨_, rfl, fun i v hv => ?_⟩⟩
  rw [add_lit, s.bk.cell, show o + 14 + i = o + (14 + i) by omega]
  have hi : i < n := by
    have := (List.getElem?_eq_some_iff.1 hv).1
    simp at this; omega
  rw [st_get s.words s.len s.room (by omega)]
  unfold stCells
  rw [List.getElem?_append_right (by rw [kc_len]; omega), List.getElem?_append_right (by rw [kc_len]; simp; omega), List.getElem?_append_right (by rw [kc_len, ints_length, s.words]; simp; omega)]
  rw [kc_len, ints_length, s.words]
  simp only [List.length_cons, List.length_nil]
  rw [← hv]
  simp only [ints, List.getElem?_map, List.getElem?_take, if_pos hi]
  congr 2
  omega

theorem StAt.count {w : World} {e : TypeId} {g o : Nat} {cs0 : List Value} {h : Int} {cnt : Nat} {H half : List Int} (s : StAt w e g o cs0 h cnt H half) (cnt' : Nat) :
    ∃ w', stC ⟨g, o + 5, none⟩ (.int .u64 (cnt' : Int)) w = some w' ∧ StAt w' e g o cs0 h cnt' H half ∧ Upd (· = g) w w' := by
  have hl := stCells_len h cnt s.words s.len
  have hr := s.room
  obtain ⟨w', s1, s2, s3⟩ := s.bk.stC (i := o + 5) (by rw [seg_length (by omega)]; omega) (.int .u64 (cnt' : Int))
  rw [seg_set (by omega) (by omega), stCells_count] at s2
  exact ⟨w', s1, ⟨s2, s.room, s.words, s.len, s.inn⟩, s3⟩

theorem StAt.cpy {w : World} {e : TypeId} {g o : Nat} {cs0 : List Value} {h : Int} {cnt : Nat} {H half : List Int} (s : StAt w e g o cs0 h cnt H half) {b : Sl} {ys : List Int} (hx : Src w b (ints .u8 ys)) (hy : ∀ x ∈ ys, InK .u8 x) {at_ dLen dCap : Nat} (hd : at_ + dLen ≤ 128) :
    ∃ w', Fw.cpy prog 25 25 (.slice (some ⟨g, o + 14 + at_, none⟩) dLen dCap) (.slice b.a b.len b.cap) w = some (((min b.len dLen : Nat) : Int), w') ∧ StAt w' e g o cs0 h cnt H (over half at_ (ys.take (min b.len dLen))) ∧ Upd (· = g) w w' := by
  have hl := stCells_len h cnt s.words s.len
  have hr := s.room
  have hbl : b.len = ys.length := by simpa using hx.len
  obtain ⟨w', c1, c2, c3⟩ := cpy_ok hx s.bk (o := o + 14 + at_) (dLen := dLen) (dCap := dCap) (by rw [seg_length (by omega)]; omega)
  have hml : (ys.take (min b.len dLen)).length ≤ dLen := by simp; omega
  rw [ints_take, show o + 14 + at_ = o + (14 + at_) by omega, seg_in (by omega) (by rw [ints_length, hl]; omega), stCells_half h cnt s.words (by rw [s.len]; omega)] at c2
  refine ⟨w', c1, ⟨c2, s.room, s.words, by rw [over_len (by rw [s.len]; omega)]; exact s.len, over_in s.inn fun x hx => hy x (List.mem_of_mem_take hx)⟩, c3⟩

theorem StAt.blocks {K : Nat} (hK : 18446744073709551616 ≤ K) {w : World} {e : TypeId} {g o : Nat} {cs0 : List Value} {h : Int} {cnt : Nat} {H half C : List Int} (s : StAt w e g o cs0 h cnt H half) (hC : C.length = 80) (hg3 : g ≠ 2) (hT : Rd w ⟨2, 0, none⟩ (ints .u64 C))
    {b : Sl} {bs : List Int} (hin : ∀ i, InK .u8 (bs.getD i 0)) (hlim : bs.length ≤ 140737488355328) (hbv : ∀ p, b.a = some p → p.block < w.heap.size) (hbh : (∀ p, b.a = some p → p.block ≠ g) ∨ bs.length < 2 * blk h) (hr : RdS .u8 w b bs) :
    ∃ w', (if narrowB h = true then digest_narrow K (some ⟨g, o + 6, none⟩) b w else digest_wide K (some ⟨g, o + 6, none⟩) b w) = some ((), w') ∧ StAt w' e g o cs0 h cnt (compsH h C (bs.length / blk h) H bs) half ∧ Upd (· = g) w w' := by
  have hl := stCells_len h cnt s.words s.len
  have hrm := s.room
  obtain ⟨w', c1, c2, c3⟩ := blocks_ok hK h hC hg3 hin hlim s.words (oh := o + 6) (by rw [seg_length (by omega)]; omega) s.at8 hbv hbh hr s.bk hT
  have hcl := compsH_len h C (bs.length / blk h) H bs s.words
  rw [seg_in (by omega) (by rw [ints_length, hcl, hl]; decide), stCells_words h cnt s.words hcl] at c2
  exact ⟨w', c1, ⟨c2, s.room, hcl, s.len, s.inn⟩, c3⟩

end Go.Sh

/- Texts of this claim, put together: Take, TakeOk, End, EndOk, BookD, Begin, Parts, Sum, RefSum, Lent, Sums, Open, Laid, ShrP, ShrA, ShrB -/
import Derived.Test.YtcfolhdacolbjaaDoorAllShBbogdag
import Derived.Test.YtcfolhdacolbjaaDoorAllLawmfinnd
import Derived.Test.YtcfolhdacolbjaaDoorAllFwfmlfdo
import Derived.Deep.Matrix
import Derived.SizedLaws
import Derived.Handed
import Derived.Test.YtcfolhdacolbjaaDoorRows
import Derived.Lib.LaidTab
/- A digest in the midst is fed: what take of package digest computes. -/
set_option linter.unusedVariables false
namespace Go.Sh
open Go.Fw Go.Sha Go.RowKit Go.Proofs.Tryd

theorem sizeB : (prog.info? 5).map (·.size) = some 1 := by kernel_rfl

/-- copy of bytes into a block -/
theorem cpy_ok {w : World} {b : Sl} {vs : List Value} (hx : Src w b vs) {e : TypeId} {g o dLen dCap : Nat} {cs : List Value} (hb : Bk e w g cs) (hl : o + min b.len dLen ≤ cs.length) :
    ∃ w', cpy prog 22 22 (.slice (some ⟨g, o, none⟩) dLen dCap) (.slice b.a b.len b.cap) w = some (((min b.len dLen : Nat) : Int), w') ∧ Bk e w' g (seg cs o (vs.take (min b.len dLen))) ∧ Upd (· = g) w w' := by
  have hlen := hx.len
  rcases hx.rd with ⟨h1, h2, h3⟩ | ⟨p, h1, h2⟩
  · have h0 : b.len = 0 := by rw [hlen, h3]; rfl
    have hr := run_copy_nil (P := prog) w 22 22 0 5 ⟨g, o, none⟩ dLen dCap sliceB.ht (by rw [sizeB]; rfl)
    refine ⟨w, ?_, ?_, Upd.refl _ _⟩
    · unfold cpy
      rw [h1, h0, h2, hr]
      simp [goInt]
    · rw [h3]; simpa [seg] using hb
  · have hr := run_copy_row (P := prog) w 22 22 0 5 g o dLen dCap p b.len b.cap cs.toArray e (vs.take (min b.len dLen)) sliceB.ht sizeB hb (by simp [hlen])
      (fun j v hv => h2 j v (by
        rw [List.getElem?_take] at hv
        split at hv
        · exact hv
        · cases hv)) (by simp [hlen] at hl ⊢; omega) (fun v hv => hx.one v (List.mem_of_mem_take hv))
    refine ⟨w.setRow g (cs.take o ++ vs.take (min b.len dLen) ++ cs.drop (o + (vs.take (min b.len dLen)).length)).toArray, ?_, ?_, Upd.setRow w g _⟩
    · unfold cpy
      rw [h1, hr]
      have : (vs.take (min b.len dLen)).length = min b.len dLen := by simp [hlen]
      simp only [goInt, this]
    · have := hb.setRow (cs.take o ++ vs.take (min b.len dLen) ++ cs.drop (o + (vs.take (min b.len dLen)).length)).toArray
      simpa [seg] using this

theorem seg_set {cs xs : List Value} {o : Nat} (h : o + xs.length ≤ cs.length) {i : Nat} (hi : i < xs.length) (v : Value) : (seg cs o xs).set (o + i) v = seg cs o (xs.set i v) := by
  apply List.ext_getElem?
  intro j
  rw [List.getElem?_set, seg_length h, seg_get h, seg_get (by simpa using h), List.length_set]
  by_cases h1 : o + i = j
  · subst h1
    rw [if_pos rfl, if_pos (by omega), if_neg (by omega), if_pos (by omega)]
    simp [hi]
  · rw [if_neg h1]
    by_cases h2 : j < o
    · simp [h2]
    · rw [if_neg h2, if_neg h2]
      by_cases h3 : j < o + xs.length
      · rw [if_pos h3, if_pos h3, List.getElem?_set_ne (by omega)]
      · rw [if_neg h3, if_neg h3]

theorem seg_in {cs xs ys : List Value} {o i : Nat} (h : o + xs.length ≤ cs.length) (hi : i + ys.length ≤ xs.length) : seg (seg cs o xs) (o + i) ys = seg cs o (seg xs i ys) := by
  apply List.ext_getElem?
  intro j
  rw [seg_get (by rw [seg_length h]; omega), seg_get h, seg_get (by rw [seg_length hi]; exact h), seg_length hi]
  by_cases h1 : j < o
  · rw [if_pos (by omega), if_pos h1, if_pos h1]
  · by_cases h2 : j < o + i
    · rw [if_pos h2, if_neg h1, if_pos (by omega), if_neg h1, if_pos (by omega), seg_get hi, if_pos (by omega)]
    · rw [if_neg h2]
      by_cases h3 : j < o + i + ys.length
      · rw [if_pos h3, if_neg h1, if_pos (by omega), seg_get hi, if_neg (by omega), if_pos (by omega), show j - (o + i) = j - o - i by omega]
      · rw [if_neg h3, if_neg h1]
        by_cases h4 : j < o + xs.length
        · rw [if_pos h4, if_neg h1, if_pos h4, seg_get hi, if_neg (by omega), if_neg (by omega)]
        · rw [if_neg h4, if_neg h1, if_neg h4]

/-- the cells of a digest in the midst -/
def stCells (h : Int) (cnt : Nat) (H half : List Int) : List Value := kc h ++ ([.int .i64 h, .int .u64 (cnt : Int)] ++ (ints .u64 H ++ ints .u8 half))

theorem stCells_len (h : Int) (cnt : Nat) {H half : List Int} (hH : H.length = 8) (hh : half.length = 128) : (stCells h cnt H half).length = 142 := by
  simp [stCells, kc_len, hH, hh]

theorem stCells_count (h : Int) (cnt cnt' : Nat) (H half : List Int) : (stCells h cnt H half).set 5 (.int .u64 (cnt' : Int)) = stCells h cnt' H half := by
  unfold stCells
  have : 5 = (kc h).length + 1 := by rw [kc_len]
  rw [this, List.set_append_right _ _ (by omega)]
  simp

theorem stCells_words (h : Int) (cnt : Nat) {H H' half : List Int} (hH : H.length = 8) (hH' : H'.length = 8) : seg (stCells h cnt H half) 6 (ints .u64 H') = stCells h cnt H' half := by
  unfold stCells seg
  have e1 : (kc h ++ ([Value.int .i64 h, .int .u64 (cnt : Int)] ++ (ints .u64 H ++ ints .u8 half))) = (kc h ++ [Value.int .i64 h, .int .u64 (cnt : Int)]) ++ (ints .u64 H ++ ints .u8 half) := by simp
  have l1 : (kc h ++ [Value.int .i64 h, .int .u64 (cnt : Int)]).length = 6 := by simp [kc_len]
  rw [e1, List.take_left' l1]
  have e2 : ((kc h ++ [Value.int .i64 h, .int .u64 (cnt : Int)]) ++ (ints .u64 H ++ ints .u8 half)).drop (6 + (ints .u64 H').length) = ints .u8 half := by
    rw [← List.append_assoc]
    exact List.drop_left' (by rw [List.length_append, l1, ints_length, ints_length, hH, hH'])
  rw [e2]
  simp

theorem stCells_half (h : Int) (cnt : Nat) {H half ys : List Int} (hH : H.length = 8) {at_ : Nat} (hl : at_ + ys.length ≤ half.length) : seg (stCells h cnt H half) (14 + at_) (ints .u8 ys) = stCells h cnt H (over half at_ ys) := by
  unfold stCells
  have e1 : ∀ q : List Int, (kc h ++ ([Value.int .i64 h, .int .u64 (cnt : Int)] ++ (ints .u64 H ++ ints .u8 q))) = (kc h ++ [Value.int .i64 h, .int .u64 (cnt : Int)] ++ ints .u64 H) ++ ints .u8 q := fun q => by simp
  have l1 : (kc h ++ [Value.int .i64 h, .int .u64 (cnt : Int)] ++ ints .u64 H).length = 14 := by simp [kc_len, hH]
  rw [e1, e1]
  unfold seg
  have t1 : ((kc h ++ [Value.int .i64 h, .int .u64 (cnt : Int)] ++ ints .u64 H) ++ ints .u8 half).take (14 + at_) = (kc h ++ [Value.int .i64 h, .int .u64 (cnt : Int)] ++ ints .u64 H) ++ ints .u8 (half.take at_) := by
    rw [List.take_append, l1, List.take_of_length_le (by omega), show 14 + at_ - 14 = at_ by omega, ints_take]
  have t2 : ((kc h ++ [Value.int .i64 h, .int .u64 (cnt : Int)] ++ ints .u64 H) ++ ints .u8 half).drop (14 + at_ + (ints .u8 ys).length) = ints .u8 (half.drop (at_ + ys.length)) := by
    rw [List.drop_append, l1, List.drop_eq_nil_of_le (by omega), List.nil_append, ints_length, show 14 + at_ + ys.length - 14 = at_ + ys.length by omega]
    simp [ints, List.map_drop]
  rw [t1, t2]
  unfold over
  rw [ints_append, ints_append]
  simp

/-- a cell of it -/
theorem st_get {h : Int} {cnt : Nat} {H half : List Int} (hH : H.length = 8) (hh : half.length = 128) {cs : List Value} {o : Nat} (hl : o + 142 ≤ cs.length) {i : Nat} (hi : i < 142) : (seg cs o (stCells h cnt H half))[o + i]? = (stCells h cnt H half)[i]? := by
  have hlen := stCells_len h cnt hH hh
  rw [seg_get (by omega), if_neg (by omega), if_pos (by omega), show o + i - o = i by omega]

theorem st_block {h : Int} (hk : known h = true) (cnt : Nat) (H half : List Int) : (stCells h cnt H half)[1]? = some (.int .i64 ((blk h : Nat) : Int)) ∧ (stCells h cnt H half)[5]? = some (.int .u64 (cnt : Int)) ∧
    (stCells h cnt H half)[3]? = some (.func (.func (if narrowB h = true then 37 else 38)) #[] #[]) := by
  rcases known_cases hk with e | e | e | e <;> subst e <;> exact ⟨rfl, rfl, rfl⟩

theorem known_blk {h : Int} (hk : known h = true) : blk h = 64 ∨ blk h = 128 := by unfold blk; split <;> simp

/-- the call of the blocks' function -/
theorem dyn_blocks {β : Type} (K : Nat) (h : Int) (p : Option Addr) (s : Sl) (w : World) (k : Value → World → Option β) :
    dyn (tab (digest_state_take_E K)) (.func (.func (if narrowB h = true then 37 else 38)) #[] #[]) [.pointer p, .slice s.a s.len s.cap] w k =
      bnd (if narrowB h = true then digest_narrow K p s w else digest_wide K p s w) fun _ w' => k (.tuple #[]) w' := by
  cases hn : narrowB h <;> rfl

theorem blocks_ok {K : Nat} (hK : 18446744073709551616 ≤ K) (h : Int) {gh oh : Nat} {eh : TypeId} {C : List Int} (hC : C.length = 80) (hg3 : gh ≠ 0) {w : World} {b : Sl} {bs H : List Int} {ch : List Value} (hin : ∀ i, InK .u8 (bs.getD i 0))
    (hlim : bs.length ≤ 140737488355328) (hH : H.length = 8) (hch : oh + 8 ≤ ch.length) (hAt : (ch.drop oh).take 8 = ints .u64 H)
    (hbv : ∀ p, b.a = some p → bs ≠ [] → p.block < w.heap.size) (hbh : (∀ p, b.a = some p → p.block ≠ gh) ∨ bs.length < 2 * blk h) (hr : RdS .u8 w b bs) (hb : Bk eh w gh ch) (hT : Rd w ⟨0, 0, none⟩ (ints .u64 C)) :
    ∃ w', (if narrowB h = true then digest_narrow K (some ⟨gh, oh, none⟩) b w else digest_wide K (some ⟨gh, oh, none⟩) b w) = some ((), w') ∧ Bk eh w' gh (seg ch oh (ints .u64 (compsH h C (bs.length / blk h) H bs))) ∧ Upd (· = gh) w w' := by
  unfold compsH
  unfold blk at *
  cases hn : narrowB h with
  | true =>
    rw [hn] at hbh
    simp only [if_true] at hbh ⊢
    exact narrow_ok hK hC hg3 hlim hH hch hAt hbv (hbh.imp id fun h => by omega) hr hb hT
  | false =>
    rw [hn] at hbh
    simp only [Bool.false_eq_true, if_false] at hbh ⊢
    exact wide_ok hK hC hg3 hin hlim hH hch hAt hbv (hbh.imp id fun h => by omega) hr hb hT

theorem inD {l : List Int} (h : ∀ x ∈ l, InK .u8 x) (i : Nat) : InK .u8 (l.getD i 0) := by
  by_cases hi : i < l.length
  · rw [List.getD_eq_getElem?_getD, List.getElem?_eq_getElem hi]; exact h _ (List.getElem_mem hi)
  · rw [List.getD_eq_getElem?_getD, List.getElem?_eq_none (by omega)]; exact ⟨by decide, by decide⟩

theorem over_in {l ys : List Int} {o : Nat} (h : ∀ x ∈ l, InK .u8 x) (h2 : ∀ x ∈ ys, InK .u8 x) : ∀ x ∈ over l o ys, InK .u8 x := by
  intro x hx
  unfold over at hx
  simp only [List.mem_append] at hx
  rcases hx with (hx | hx) | hx
  · exact h x (List.mem_of_mem_take hx)
  · exact h2 x hx
  · exact h x (List.mem_of_mem_drop hx)

/-- A digest in the midst lies in a block. -/
structure StAt (w : World) (e : TypeId) (g o : Nat) (cs0 : List Value) (h : Int) (cnt : Nat) (H half : List Int) : Prop where
  bk : Bk e w g (seg cs0 o (stCells h cnt H half))
  room : o + 142 ≤ cs0.length
  words : H.length = 8
  len : half.length = 128
  inn : ∀ x ∈ half, InK .u8 x

theorem StAt.upd {w w' : World} {e : TypeId} {g o : Nat} {cs0 : List Value} {h : Int} {cnt : Nat} {H half : List Int} {S : Nat → Prop} (s : StAt w e g o cs0 h cnt H half) (u : Upd S w w') (hn : ¬ S g) : StAt w' e g o cs0 h cnt H half :=
  ⟨s.bk.upd u hn, s.room, s.words, s.len, s.inn⟩
theorem StAt.drew {w : World} {e : TypeId} {g o : Nat} {cs0 : List Value} {h : Int} {cnt : Nat} {H half : List Int} (s : StAt w e g o cs0 h cnt H half) : StAt w.drew e g o cs0 h cnt H half := ⟨s.bk.drew, s.room, s.words, s.len, s.inn⟩

theorem StAt.ld {w : World} {e : TypeId} {g o : Nat} {cs0 : List Value} {h : Int} {cnt : Nat} {H half : List Int} (s : StAt w e g o cs0 h cnt H half) (hk : known h = true) :
    ldI .i64 ⟨g, o + 1, none⟩ w = some ((blk h : Nat) : Int) ∧ ldI .u64 ⟨g, o + 5, none⟩ w = some (cnt : Int) ∧ ldV ⟨g, o + 3, none⟩ w = some (.func (.func (if narrowB h = true then 37 else 38)) #[] #[]) := by
  obtain ⟨h1, h2, h3⟩ := st_block hk cnt H half
  exact ⟨s.bk.ldI ((st_get s.words s.len s.room (by decide)).trans h1), s.bk.ldI ((st_get s.words s.len s.room (by decide)).trans h2), s.bk.ldV ((st_get s.words s.len s.room (by decide)).trans h3)⟩

/-- its words, its half block -/
theorem StAt.at8 {w : World} {e : TypeId} {g o : Nat} {cs0 : List Value} {h : Int} {cnt : Nat} {H half : List Int} (s : StAt w e g o cs0 h cnt H half) : ((seg cs0 o (stCells h cnt H half)).drop (o + 6)).take 8 = ints .u64 H := by
  apply List.ext_getElem?
  intro i
  rw [List.getElem?_take]
  by_cases hi : i < 8
  · rw [if_pos hi, List.getElem?_drop, show o + 6 + i = o + (6 + i) by omega, st_get s.words s.len s.room (by omega)]
    unfold stCells
    rw [List.getElem?_append_right (by rw [kc_len]; omega), List.getElem?_append_right (by rw [kc_len]; simp; omega), List.getElem?_append_left (by rw [kc_len, ints_length, s.words]; simp; omega)]
    rw [kc_len]
    congr 1
    simp; omega
  · rw [if_neg hi, List.getElem?_eq_none (by rw [ints_length, s.words]; omega)]

theorem StAt.half_rd {w : World} {e : TypeId} {g o : Nat} {cs0 : List Value} {h : Int} {cnt : Nat} {H half : List Int} (s : StAt w e g o cs0 h cnt H half) {n : Nat} (hn : n ≤ 128) : RdS .u8 w ⟨some ⟨g, o + 14, none⟩, n, 128⟩ (half.take n) := by
  refine ⟨by simp [s.len]; omega, hn, .inr ⟨_, rfl, fun i v hv => ?_⟩⟩
  rw [add_lit, s.bk.cell, show o + 14 + i = o + (14 + i) by omega]
  have hi : i < n := by
    have := (List.getElem?_eq_some_iff.1 hv).1
    simp at this; omega
  rw [st_get s.words s.len s.room (by omega)]
  unfold stCells
  rw [List.getElem?_append_right (by rw [kc_len]; omega), List.getElem?_append_right (by rw [kc_len]; simp; omega), List.getElem?_append_right (by rw [kc_len, ints_length, s.words]; simp; omega)]
  rw [kc_len, ints_length, s.words]
  simp only [List.length_cons, List.length_nil]
  rw [← hv]
  simp only [ints, List.getElem?_map, List.getElem?_take, if_pos hi]
  congr 2
  omega

theorem StAt.count {w : World} {e : TypeId} {g o : Nat} {cs0 : List Value} {h : Int} {cnt : Nat} {H half : List Int} (s : StAt w e g o cs0 h cnt H half) (cnt' : Nat) :
    ∃ w', stC ⟨g, o + 5, none⟩ (.int .u64 (cnt' : Int)) w = some w' ∧ StAt w' e g o cs0 h cnt' H half ∧ Upd (· = g) w w' := by
  have hl := stCells_len h cnt s.words s.len
  have hr := s.room
  obtain ⟨w', s1, s2, s3⟩ := s.bk.stC (i := o + 5) (by rw [seg_length (by omega)]; omega) (.int .u64 (cnt' : Int))
  rw [seg_set (by omega) (by omega), stCells_count] at s2
  exact ⟨w', s1, ⟨s2, s.room, s.words, s.len, s.inn⟩, s3⟩

theorem StAt.cpy {w : World} {e : TypeId} {g o : Nat} {cs0 : List Value} {h : Int} {cnt : Nat} {H half : List Int} (s : StAt w e g o cs0 h cnt H half) {b : Sl} {ys : List Int} (hx : Src w b (ints .u8 ys)) (hy : ∀ x ∈ ys, InK .u8 x) {at_ dLen dCap : Nat} (hd : at_ + dLen ≤ 128) :
    ∃ w', Fw.cpy prog 22 22 (.slice (some ⟨g, o + 14 + at_, none⟩) dLen dCap) (.slice b.a b.len b.cap) w = some (((min b.len dLen : Nat) : Int), w') ∧ StAt w' e g o cs0 h cnt H (over half at_ (ys.take (min b.len dLen))) ∧ Upd (· = g) w w' := by
  have hl := stCells_len h cnt s.words s.len
  have hr := s.room
  have hbl : b.len = ys.length := by simpa using hx.len
  obtain ⟨w', c1, c2, c3⟩ := cpy_ok hx s.bk (o := o + 14 + at_) (dLen := dLen) (dCap := dCap) (by rw [seg_length (by omega)]; omega)
  have hml : (ys.take (min b.len dLen)).length ≤ dLen := by simp; omega
  rw [ints_take, show o + 14 + at_ = o + (14 + at_) by omega, seg_in (by omega) (by rw [ints_length, hl]; omega), stCells_half h cnt s.words (by rw [s.len]; omega)] at c2
  refine ⟨w', c1, ⟨c2, s.room, s.words, by rw [over_len (by rw [s.len]; omega)]; exact s.len, over_in s.inn fun x hx => hy x (List.mem_of_mem_take hx)⟩, c3⟩

theorem StAt.blocks {K : Nat} (hK : 18446744073709551616 ≤ K) {w : World} {e : TypeId} {g o : Nat} {cs0 : List Value} {h : Int} {cnt : Nat} {H half C : List Int} (s : StAt w e g o cs0 h cnt H half) (hC : C.length = 80) (hg3 : g ≠ 0) (hT : Rd w ⟨0, 0, none⟩ (ints .u64 C))
    {b : Sl} {bs : List Int} (hin : ∀ i, InK .u8 (bs.getD i 0)) (hlim : bs.length ≤ 140737488355328) (hbv : ∀ p, b.a = some p → bs ≠ [] → p.block < w.heap.size) (hbh : (∀ p, b.a = some p → p.block ≠ g) ∨ bs.length < 2 * blk h) (hr : RdS .u8 w b bs) :
    ∃ w', (if narrowB h = true then digest_narrow K (some ⟨g, o + 6, none⟩) b w else digest_wide K (some ⟨g, o + 6, none⟩) b w) = some ((), w') ∧ StAt w' e g o cs0 h cnt (compsH h C (bs.length / blk h) H bs) half ∧ Upd (· = g) w w' := by
  have hl := stCells_len h cnt s.words s.len
  have hrm := s.room
  obtain ⟨w', c1, c2, c3⟩ := blocks_ok hK h hC hg3 hin hlim s.words (oh := o + 6) (by rw [seg_length (by omega)]; omega) s.at8 hbv hbh hr s.bk hT
  have hcl := compsH_len h C (bs.length / blk h) H bs s.words
  rw [seg_in (by omega) (by rw [ints_length, hcl, hl]; decide), stCells_words h cnt s.words hcl] at c2
  exact ⟨w', c1, ⟨c2, s.room, hcl, s.len, s.inn⟩, c3⟩

end Go.Sh

/- A digest in the midst is fed: take of package digest, whole. -/
set_option linter.unusedVariables false
namespace Go.Sh
open Go.Fw Go.Sha Go.RowKit Go.Proofs.Tryd

theorem sla_some {p : Addr} {lo m : Nat} (h : m ≠ lo) : sla (some p) lo m 1 = some (p.add lo) := by simp [sla, h]

/-- the rest of a slice -/
theorem src_sub {w : World} {s : Sl} {vs : List Value} (h : Src w s vs) {lo : Nat} (h1 : lo ≤ vs.length) : Src w ⟨sla s.a lo s.cap 1, s.len - lo, s.cap - lo⟩ (vs.drop lo) := by
  have hl := h.len
  have hc := h.cap
  refine ⟨by simp; omega, by show s.len - lo ≤ s.cap - lo; omega, ?_, fun v hv => h.one v (List.mem_of_mem_drop hv)⟩
  rcases h.rd with ⟨a1, a2, a3⟩ | ⟨p, a1, a2⟩
  · left
    refine ⟨by simp [sla, a1], by show s.cap - lo = 0; omega, by rw [a3]; simp⟩
  · right
    by_cases hm : s.cap = lo
    · refine ⟨p, by simp [sla, a1, hm], fun i v hv => ?_⟩
      have : vs.drop lo = [] := List.drop_eq_nil_of_le (by omega)
      rw [this] at hv; simp at hv
    · refine ⟨p.add lo, by rw [a1, sla_some hm], fun i v hv => ?_⟩
      rw [add_add]
      rw [List.getElem?_drop] at hv
      exact a2 _ _ hv

theorem sla_blk {a : Option Addr} {lo m : Nat} {q : Addr} (h : sla a lo m 1 = some q) : ∃ p, a = some p ∧ q.block = p.block := by
  unfold sla at h
  split at h
  · exact ⟨q, h, rfl⟩
  · cases ha : a with
    | none => rw [ha] at h; simp at h
    | some p => rw [ha] at h; simp at h; exact ⟨p, rfl, by rw [← h]; unfold Addr.add; split <;> rfl⟩

theorem src_updW {S : Nat → Prop} {w w' : World} {s : Sl} {xs : List Int} (h : Src w s (ints .u8 xs)) (u : Upd S w w') (hn : ∀ p, s.a = some p → xs ≠ [] → ¬ S p.block) : Src w' s (ints .u8 xs) :=
  ⟨h.len, h.cap, h.rd.imp id fun ⟨p, hp, hr⟩ => ⟨p, hp, hr.upd u fun hne => hn p hp fun e => hne (by rw [e]; rfl)⟩, h.one⟩

/-- the last part of take: whole blocks, what is left -/
theorem take_rest {K : Nat} (hK : 18446744073709551616 ≤ K) {w : World} {e : TypeId} {g o : Nat} {cs0 : List Value} {h : Int} (hk : known h = true) {cnt : Nat} {H half C H0 xs : List Int} (s : StAt w e g o cs0 h cnt H half) (f : Fed h C H0 xs H half) (hz : xs.length % blk h = 0)
    (hC : C.length = 80) (hg3 : g ≠ 0) (hT : Rd w ⟨0, 0, none⟩ (ints .u64 C)) {b : Sl} {ys : List Int} (hy : ∀ x ∈ ys, InK .u8 x) (hlim : ys.length ≤ 140737488355328) (hx : Src w b (ints .u8 ys)) (hbg : ∀ p, b.a = some p → ys ≠ [] → p.block ≠ g) (hbv : ∀ p, b.a = some p → ys ≠ [] → p.block < w.heap.size)
    (rest : Option (Unit × World)) :
    ∃ w' H' half', ((ldI .i64 ⟨g, o + 1, none⟩ w.drew).bind fun v_29 => if v_29 ≠ 0 then ((ldI .i64 ⟨g, o + 1, none⟩ w.drew).bind fun v_30 =>
        if (0 : Int) ≤ (IntKind.i64.wrap ((IntKind.i64.wrap (Int.tdiv ((b.len : Nat) : Int) v_29)) * v_30)) ∧ (IntKind.i64.wrap ((IntKind.i64.wrap (Int.tdiv ((b.len : Nat) : Int) v_29)) * v_30)) ≤ ((b.cap : Nat) : Int) then ((ldV ⟨g, o + 3, none⟩ w.drew.drew).bind fun v_33 =>
        dyn (tab (digest_state_take_E K)) v_33 [(.pointer (some ⟨g, o + 6, none⟩)), (.slice (sla b.a 0 b.cap 1) ((Int.toNat (IntKind.i64.wrap ((IntKind.i64.wrap (Int.tdiv ((b.len : Nat) : Int) v_29)) * v_30))) - 0) (b.cap - 0))] w.drew.drew fun v_34 w_35 =>
        if (0 : Int) ≤ (IntKind.i64.wrap ((IntKind.i64.wrap (Int.tdiv ((b.len : Nat) : Int) v_29)) * v_30)) ∧ (IntKind.i64.wrap ((IntKind.i64.wrap (Int.tdiv ((b.len : Nat) : Int) v_29)) * v_30)) ≤ ((b.len : Nat) : Int) then
          (bnd (Fw.cpy prog 22 22 (.slice (sla (some ⟨g, o + 14, none⟩) 0 128 1) (128 - 0) (128 - 0)) (.slice (sla b.a (Int.toNat (IntKind.i64.wrap ((IntKind.i64.wrap (Int.tdiv ((b.len : Nat) : Int) v_29)) * v_30))) b.cap 1) (b.len - (Int.toNat (IntKind.i64.wrap ((IntKind.i64.wrap (Int.tdiv ((b.len : Nat) : Int) v_29)) * v_30)))) (b.cap - (Int.toNat (IntKind.i64.wrap ((IntKind.i64.wrap (Int.tdiv ((b.len : Nat) : Int) v_29)) * v_30))))) w_35.drew) fun s_37 w_38 => some ((), w_38)) else none) else none) else none) = some ((), w') ∧
      StAt w' e g o cs0 h cnt H' half' ∧ Fed h C H0 (xs ++ ys) H' half' ∧ Upd (· = g) w w' := by
  have hbp := blk_pos h
  have hble := blk_le h
  have hlen : b.len = ys.length := by simpa using hx.len
  have hcap := hx.cap
  obtain ⟨l1, l5, l3⟩ := s.drew.ld hk
  obtain ⟨m1, m5, m3⟩ := s.drew.drew.ld hk
  have hn : IntKind.i64.wrap ((IntKind.i64.wrap (Int.tdiv ((ys.length : Nat) : Int) ((blk h : Nat) : Int))) * ((blk h : Nat) : Int)) = ((ys.length / blk h * blk h : Nat) : Int) := by
    have hle : ys.length / blk h * blk h ≤ ys.length := Nat.div_mul_le_self _ _
    have hle2 : ys.length / blk h ≤ ys.length := Nat.div_le_self _ _
    rw [tdiv_nat, wn64 (by omega)]
    have : ((ys.length / blk h : Nat) : Int) * ((blk h : Nat) : Int) = ((ys.length / blk h * blk h : Nat) : Int) := by simp
    rw [this, wn64 (by omega)]
  have hle : ys.length / blk h * blk h ≤ ys.length := Nat.div_mul_le_self _ _
  have hne : ((blk h : Nat) : Int) ≠ 0 := by omega
  have hr := (hx.rds.drew.drew).sub (lo := 0) (hi := ys.length / blk h * blk h) (Nat.zero_le _) hle
  rw [List.drop_zero] at hr
  have hdl : (ys.take (ys.length / blk h * blk h)).length / blk h = ys.length / blk h := by
    rw [List.length_take, Nat.min_eq_left hle]; exact Nat.mul_div_cancel _ hbp
  obtain ⟨w1, c1, s1, u1⟩ := s.drew.drew.blocks hK hC hg3 (hT.upd (S := none_) (Upd.refl _ _).drew.drew fun _ => id) (b := ⟨sla b.a 0 b.cap 1, ys.length / blk h * blk h - 0, b.cap - 0⟩) (bs := ys.take (ys.length / blk h * blk h)) (inD fun x hx => hy x (List.mem_of_mem_take hx)) (by simp; omega)
    (fun p hp hne => by rw [show (⟨sla b.a 0 b.cap 1, ys.length / blk h * blk h - 0, b.cap - 0⟩ : Sl).a = b.a by simp] at hp; exact hbv p hp (fun e => hne (by rw [e, List.take_nil]))) (if h0 : ys = [] then .inr (by rw [h0]; simp; omega) else .inl fun p hp => by rw [show (⟨sla b.a 0 b.cap 1, ys.length / blk h * blk h - 0, b.cap - 0⟩ : Sl).a = b.a by simp] at hp; exact hbg p hp h0) hr
  rw [hdl] at s1
  have hx1 : Src w1.drew b (ints .u8 ys) := (src_updW (hx.upd0 ((Upd.refl none_ w).drew.drew)) u1 fun p hp hne e => hbg p hp hne e).upd0 (Upd.refl none_ w1).drew
  have hsub := src_sub hx1 (lo := ys.length / blk h * blk h) (by rw [ints_length]; exact hle)
  have hdr : (ints .u8 ys).drop (ys.length / blk h * blk h) = ints .u8 (ys.drop (ys.length / blk h * blk h)) := by simp [ints, List.map_drop]
  rw [hdr] at hsub
  have hym := Nat.mod_lt ys.length hbp
  have hya := Nat.div_add_mod ys.length (blk h)
  have hyc : blk h * (ys.length / blk h) = ys.length / blk h * blk h := Nat.mul_comm _ _
  obtain ⟨w2, c2, s2, u2⟩ := s1.drew.cpy hsub (fun x hx => hy x (List.mem_of_mem_drop hx)) (at_ := 0) (dLen := 128) (dCap := 128) (by decide)
  have hmin : min (b.len - ys.length / blk h * blk h) 128 = (ys.drop (ys.length / blk h * blk h)).length := by rw [List.length_drop, hlen]; omega
  have hfw := f.whole (ys := ys) hz
  have htk : (ys.drop (ys.length / blk h * blk h)).take (min (b.len - ys.length / blk h * blk h) 128) = ys.drop (ys.length / blk h * blk h) := by rw [hmin, List.take_length]
  have s2 : StAt w2 e g o cs0 h cnt (compsH h C (ys.length / blk h) H (ys.take (ys.length / blk h * blk h))) (over half 0 (ys.drop (ys.length / blk h * blk h))) := by
    have s2' := s2
    rw [show (⟨sla b.a (ys.length / blk h * blk h) b.cap 1, b.len - ys.length / blk h * blk h, b.cap - ys.length / blk h * blk h⟩ : Sl).len = b.len - ys.length / blk h * blk h from rfl, htk] at s2'
    exact s2'
  refine ⟨w2, _, _, ?_, s2, hfw, ((Upd.refl (· = g) w).drew.drew.trans' u1 fun _ _ e => e).drew.trans' u2 fun _ _ e => e⟩
  have k1 : (0 : Int) ≤ ((ys.length / blk h * blk h : Nat) : Int) ∧ ((ys.length / blk h * blk h : Nat) : Int) ≤ ((b.cap : Nat) : Int) := by omega
  have k2 : (0 : Int) ≤ ((ys.length / blk h * blk h : Nat) : Int) ∧ ((ys.length / blk h * blk h : Nat) : Int) ≤ ((ys.length : Nat) : Int) := by omega
  rw [l1, Option.bind_some, if_pos hne, Option.bind_some]
  simp only [hlen, hn]
  rw [if_pos k1, m3, Option.bind_some, Int.toNat_natCast]
  have hd := dyn_blocks K h (some ⟨g, o + 6, none⟩) ⟨sla b.a 0 b.cap 1, ys.length / blk h * blk h - 0, b.cap - 0⟩ w.drew.drew (β := Unit × World)
  have hd' := fun k => hd k
  rw [hd', c1, bnd_ok, if_pos k2]
  have c2' : Fw.cpy prog 22 22 (.slice (sla (some ⟨g, o + 14, none⟩) 0 128 1) (128 - 0) (128 - 0)) (.slice (sla b.a (ys.length / blk h * blk h) b.cap 1) (ys.length - ys.length / blk h * blk h) (b.cap - ys.length / blk h * blk h)) w1.drew = some (((min (ys.length - ys.length / blk h * blk h) 128 : Nat) : Int), w2) := by
    have := c2
    simp only [Nat.add_zero, hlen] at this
    rw [sla_zero]
    exact this
  rw [c2', bnd_ok]

/-- take: a part is fed. -/
theorem take_ok {K : Nat} (hK : 18446744073709551616 ≤ K) {w : World} {e : TypeId} {g o : Nat} {cs0 : List Value} {h : Int} (hk : known h = true) {H half C H0 xs : List Int} (s : StAt w e g o cs0 h xs.length H half) (f : Fed h C H0 xs H half)
    (hC : C.length = 80) (hg3 : g ≠ 0) (hT : Rd w ⟨0, 0, none⟩ (ints .u64 C)) {b : Sl} {ys : List Int} (hy : ∀ x ∈ ys, InK .u8 x) (hlim : xs.length + ys.length ≤ 140737488355328) (hx : Src w b (ints .u8 ys)) (hbg : ∀ p, b.a = some p → ys ≠ [] → p.block ≠ g) (hbv : ∀ p, b.a = some p → ys ≠ [] → p.block < w.heap.size) :
    ∃ w' H' half', digest_state_take K (some ⟨g, o, none⟩) b w = some ((), w') ∧ StAt w' e g o cs0 h (xs ++ ys).length H' half' ∧ Fed h C H0 (xs ++ ys) H' half' ∧ Upd (· = g) w w' := by
  have hbp := blk_pos h
  have hble := blk_le h
  have hlen : b.len = ys.length := by simpa using hx.len
  have hcap := hx.cap
  obtain ⟨l1, l5, l3⟩ := s.drew.ld hk
  have eb : IntKind.u64.wrap ((blk h : Nat) : Int) = ((blk h : Nat) : Int) := by rw [IntKind.wrap_u64]; omega
  have hne : ((blk h : Nat) : Int) ≠ 0 := by omega
  have el : IntKind.u64.wrap ((ys.length : Nat) : Int) = ((ys.length : Nat) : Int) := by rw [IntKind.wrap_u64]; omega
  have ec : IntKind.u64.wrap (((xs.length : Nat) : Int) + ((ys.length : Nat) : Int)) = (((xs ++ ys).length : Nat) : Int) := by rw [IntKind.wrap_u64, List.length_append]; omega
  have hat := Nat.mod_lt xs.length hbp
  have ea : IntKind.i64.wrap (Int.tmod ((xs.length : Nat) : Int) ((blk h : Nat) : Int)) = ((xs.length % blk h : Nat) : Int) := by rw [tmod_nat, wn64 (by omega)]
  obtain ⟨w1, c1, s1, u1⟩ := s.drew.count (xs ++ ys).length
  have u1' : Upd (· = g) w w1 := u1.predrew
  have hx1 := src_updW (hx.upd0 (Upd.refl none_ w).drew) u1 fun p hp hne e => hbg p hp hne e
  have hbv1 : ∀ p, b.a = some p → ys ≠ [] → p.block < w1.heap.size := fun p hp hne => by have := hbv p hp hne; have := u1'.size; omega
  have hT1 : Rd w1 ⟨0, 0, none⟩ (ints .u64 C) := hT.upd u1' fun _ e => hg3 e.symm
  unfold digest_state_take
  simp only [Option.bind_some, add_lit, Nat.add_zero]
  rw [l5, Option.bind_some, l1, Option.bind_some, eb, if_pos hne, Option.bind_some, hlen, el, ec, c1, Option.bind_some, ea]
  by_cases hz : xs.length % blk h = 0
  · -- nothing was held
    have hd : decide (((xs.length % blk h : Nat) : Int) > 0) = false := by rw [hz]; rfl
    have hs0 : digest_state_take_s0 K (some ⟨g, o, none⟩) b ((xs.length % blk h : Nat) : Int) false w1 = some (.norm (b, ()), w1) := by
      unfold digest_state_take_s0; rw [if_neg (by decide)]
    rw [hd, hs0, bnd_ok]
    obtain ⟨w2, H2, half2, r1, r2, r3, r4⟩ := take_rest hK hk s1 f hz hC hg3 hT1 hy (by omega) hx1 hbg hbv1 none
    exact ⟨w2, H2, half2, r1, r2, r3, u1'.trans' r4 fun _ _ e => e⟩
  · have hd : decide (((xs.length % blk h : Nat) : Int) > 0) = true := by simp; omega
    rw [hd]
    obtain ⟨k1, k5, k3⟩ := s1.drew.ld hk
    have hx1d := hx1.upd0 (Upd.refl none_ w1).drew
    obtain ⟨w2, c2, s2, u2⟩ := s1.drew.cpy hx1d hy (at_ := xs.length % blk h) (dLen := blk h - xs.length % blk h) (dCap := 128 - xs.length % blk h) (by omega)
    have a1 : (0 : Int) ≤ ((blk h : Nat) : Int) ∧ ((blk h : Nat) : Int) ≤ ((128 : Nat) : Int) := by omega
    have a2 : (0 : Int) ≤ ((xs.length % blk h : Nat) : Int) ∧ ((xs.length % blk h : Nat) : Int) ≤ ((blk h : Nat) : Int) := by omega
    have a3 : (0 : Int) ≤ ((min b.len (blk h - xs.length % blk h) : Nat) : Int) ∧ ((min b.len (blk h - xs.length % blk h) : Nat) : Int) ≤ ((b.len : Nat) : Int) := by omega
    have hsl : sla (some ⟨g, o + 14, none⟩) (xs.length % blk h) 128 1 = some ⟨g, o + 14 + xs.length % blk h, none⟩ := by rw [sla_some (by omega), add_lit]
    obtain ⟨m1, m5, m3⟩ := s2.ld hk
    have ew : IntKind.i64.wrap (((xs.length % blk h : Nat) : Int) + ((min b.len (blk h - xs.length % blk h) : Nat) : Int)) = ((xs.length % blk h + min b.len (blk h - xs.length % blk h) : Nat) : Int) := by rw [w64 (by omega) (by omega)]; rfl
    by_cases hlt : xs.length % blk h + ys.length < blk h
    · -- it stays less than a block
      have hmin : min b.len (blk h - xs.length % blk h) = ys.length := by rw [hlen]; omega
      rw [hmin, List.take_length] at s2
      have hlt' : decide (((xs.length % blk h + min b.len (blk h - xs.length % blk h) : Nat) : Int) < ((blk h : Nat) : Int)) = true := by rw [hmin]; simp; omega
      have hs0 : digest_state_take_s0 K (some ⟨g, o, none⟩) b ((xs.length % blk h : Nat) : Int) true w1 = some (.ret (), w2) := by
        unfold digest_state_take_s0
        rw [if_pos rfl]
        simp only [Option.bind_some, add_lit, Nat.add_zero]
        rw [k1, Option.bind_some, if_pos a1]
        simp only [Int.toNat_natCast]
        rw [if_pos a2, hsl, c2, bnd_ok, if_pos a3, m1, Option.bind_some, ew, hlt', if_pos rfl]
      rw [hs0, bnd_ok]
      exact ⟨w2, _, _, rfl, s2, f.less hlt, (u1'.drew.trans' u2 fun _ _ e => e)⟩
    · -- a block is filled
      have hmin : min b.len (blk h - xs.length % blk h) = blk h - xs.length % blk h := by rw [hlen]; omega
      have hlt' : decide (((xs.length % blk h + min b.len (blk h - xs.length % blk h) : Nat) : Int) < ((blk h : Nat) : Int)) = false := by rw [hmin]; simp; omega
      rw [hmin] at s2 c2 a3 ew
      have hyl : (ys.take (blk h - xs.length % blk h)).length = blk h - xs.length % blk h := by simp; omega
      have hfill := f.fill (ys := ys.take (blk h - xs.length % blk h)) (by rw [hyl]; omega)
      have hT2 : Rd w2.drew ⟨0, 0, none⟩ (ints .u64 C) := (hT1.upd ((Upd.refl (· = g) w1).drew.trans' u2 fun _ _ e => e) fun _ e => hg3 e.symm).upd (S := none_) (Upd.refl _ _).drew fun _ => id
      have hhalf := s2.drew.half_rd (n := blk h) hble
      have hol := s2.len
      obtain ⟨n1, n5, n3⟩ := s2.drew.ld hk
      obtain ⟨w3, c3, s3, u3⟩ := s2.drew.blocks hK hC hg3 hT2 (b := ⟨some ⟨g, o + 14, none⟩, blk h, 128⟩) (bs := (over half (xs.length % blk h) (ys.take (blk h - xs.length % blk h))).take (blk h)) (inD fun x hx => s2.inn x (List.mem_of_mem_take hx)) (by simp; omega)
        (fun p hp _=>by have e1 : p = ⟨g, o + 14, none⟩ := by simpa using hp.symm
                        rw [e1]; exact s2.drew.bk.lt) (.inr (by rw [List.length_take]; omega)) hhalf
      have hone : ((over half (xs.length % blk h) (ys.take (blk h - xs.length % blk h))).take (blk h)).length / blk h = 1 := by
        rw [List.length_take, hol, Nat.min_eq_left hble]; exact Nat.div_self hbp
      rw [hone] at s3
      have hs0 : digest_state_take_s0 K (some ⟨g, o, none⟩) b ((xs.length % blk h : Nat) : Int) true w1 =
          some (.norm (⟨sla b.a (blk h - xs.length % blk h) b.cap 1, b.len - (blk h - xs.length % blk h), b.cap - (blk h - xs.length % blk h)⟩, ()), w3) := by
        unfold digest_state_take_s0
        rw [if_pos rfl]
        simp only [Option.bind_some, add_lit, Nat.add_zero]
        rw [k1, Option.bind_some, if_pos a1]
        simp only [Int.toNat_natCast]
        rw [if_pos a2, hsl, c2, bnd_ok, if_pos a3, m1, Option.bind_some, ew]
        rw [hmin] at hlt'
        rw [hlt', if_neg (by decide), n3, Option.bind_some, n1, Option.bind_some, if_pos a1]
        have hd := dyn_blocks K h (some ⟨g, o + 6, none⟩) ⟨some ⟨g, o + 14, none⟩, blk h, 128⟩ w2.drew (β := Out (Sl × Unit) Unit × World)
        simp only [sla_zero, Int.toNat_natCast, Nat.sub_zero]
        rw [hd, c3, bnd_ok]
      have hmod : (xs ++ ys.take (blk h - xs.length % blk h)).length % blk h = 0 := by
        rw [List.length_append, hyl]
        have h1 := Nat.div_add_mod xs.length (blk h)
        have h2 : xs.length + (blk h - xs.length % blk h) = (xs.length / blk h + 1) * blk h := by rw [Nat.succ_mul, Nat.mul_comm]; omega
        rw [h2]; exact Nat.mul_mod_left _ _
      have u13 : Upd (· = g) w1 w3 := ((Upd.refl (· = g) w1).drew.trans' u2 fun _ _ e => e).drew.trans' u3 fun _ _ e => e
      have hx3 := src_sub (src_updW hx1 u13 fun p hp hne e => hbg p hp hne e) (lo := blk h - xs.length % blk h) (by rw [ints_length]; omega)
      have hdr : (ints .u8 ys).drop (blk h - xs.length % blk h) = ints .u8 (ys.drop (blk h - xs.length % blk h)) := by simp [ints, List.map_drop]
      rw [hdr] at hx3
      obtain ⟨w4, H4, half4, r1, r2, r3, r4⟩ := take_rest hK hk s3 hfill hmod hC hg3 (hT1.upd u13 fun _ e => hg3 e.symm) (fun x hx => hy x (List.mem_of_mem_drop hx)) (by simp; omega) hx3
        (fun q hq hne => by obtain ⟨p, hp, e1⟩ := sla_blk hq; rw [e1]; exact hbg p hp (fun e => hne (by rw [e]; simp))) (fun q hq hne => by obtain ⟨p, hp, e1⟩ := sla_blk hq; rw [e1]; have := hbv1 p hp (fun e => hne (by rw [e]; simp)); have := u13.size; omega) none
      rw [List.append_assoc, List.take_append_drop] at r3
      rw [hs0, bnd_ok]
      exact ⟨w4, H4, half4, r1, r2, r3, (u1'.trans' u13 fun _ _ e => e).trans' r4 fun _ _ e => e⟩

end Go.Sh

/- A digest is told: big, end of package digest; the document's Sum. -/
set_option linter.unusedVariables false
namespace Go.Sh
open Go.Fw Go.Sha Go.RowKit Go.Proofs.Tryd

/-- the bytes of a word, the great ones first -/
def bigB (x : Int) : Nat → List Int
  | 0 => []
  | n + 1 => IntKind.u8.wrap (Int.fdiv x (2 ^ (8 * n))) :: bigB x n

theorem bigB_len (x : Int) : ∀ n, (bigB x n).length = n
  | 0 => rfl
  | n + 1 => by simp [bigB, bigB_len x n]

/-- one byte is appended -/
theorem push1 {w : World} {s : Sl} {xs : List Int} (x : Int) {B : Nat} (ho : OwnS 5 w s (ints .u8 xs)) (hs : s.len + 1 ≤ 140737488355328) (hB : B ≤ w.heap.size) (hf : Fresh B s) :
    ∃ w1 s2 w2, bldS prog 22 1 #[(0, (.int .u8 x))] w = some (⟨some ⟨w.heap.size, 0, none⟩, 1, 1⟩, w1) ∧ apd prog 22 22 (.slice s.a s.len s.cap) (.slice (some ⟨w.heap.size, 0, none⟩) 1 1) w1 = some (s2, w2) ∧
      OwnS 5 w2 s2 (ints .u8 (xs ++ [x])) ∧ s2.len = s.len + 1 ∧ Below B w w2 ∧ Fresh B s2 := by
  obtain ⟨w1, h1, o1, u1, z1⟩ := bldS1_ok sliceB (.int .u8 x) rfl w
  obtain ⟨s2, w2, h2, l2, o2, u2, b2⟩ := apd_ok sliceB (ho.upd0 u1) (o1.src (by simp [Value.oneCell'])) (by show (s.len + 1) * 1 ≤ _; omega)
  have bl1 : Below B w w1 := u1.below hB fun _ _ => id
  have bl2 : Below B w w2 := below_upd bl1 u2 (by omega) fun k hk e => by have := hf k e; omega
  refine ⟨w1, s2, w2, h1, h2, by simpa using o2, l2, bl2, ?_⟩
  intro k hk
  rcases b2 with e | e
  · exact hf k (e ▸ hk)
  · rw [e] at hk; have := Option.some.inj hk; omega

theorem big_loop (K B : Nat) (x : Int) : ∀ (m n : Nat) (w : World) (s : Sl) (xs : List Int), m ≤ 8 → m < n → OwnS 5 w s (ints .u8 xs) → s.len + m ≤ 140737488355328 → B ≤ w.heap.size → Fresh B s →
    ∃ s' w', digest_big_l0 K n s x ((m : Int) - 1) w = some ((s', ()), w') ∧ OwnS 5 w' s' (ints .u8 (xs ++ bigB x m)) ∧ Below B w w' ∧ Fresh B s' := by
  intro m
  induction m with
  | zero =>
    intro n w s xs hm hn ho hs hB hf
    obtain ⟨n, rfl⟩ : ∃ k, n = k + 1 := ⟨n - 1, by omega⟩
    refine ⟨s, w, ?_, by simpa [bigB] using ho, Below.refl B w, hf⟩
    show digest_big_l0_b K (digest_big_l0 K n) s x (((0 : Nat) : Int) - 1) w = _
    simp [digest_big_l0_b]
  | succ m ih =>
    intro n w s xs hm hn ho hs hB hf
    obtain ⟨n, rfl⟩ : ∃ k, n = k + 1 := ⟨n - 1, by omega⟩
    obtain ⟨w1, s2, w2, h1, h2, o2, l2, bl2, hf2⟩ := push1 (IntKind.u8.wrap (Int.fdiv x (2 ^ (8 * m)))) ho (by omega) hB hf
    obtain ⟨s3, w3, h3, o3, bl3, hf3⟩ := ih n w2 s2 _ (by omega) (by omega) o2 (by omega) (by have := bl2.size; omega) hf2
    refine ⟨s3, w3, ?_, by simpa [bigB] using o3, bl2.trans bl3, hf3⟩
    show digest_big_l0_b K (digest_big_l0 K n) s x (((m + 1 : Nat) : Int) - 1) w = _
    have e0 : (((m + 1 : Nat) : Int) - 1) = (m : Int) := by omega
    have hd : decide ((m : Int) ≥ 0) = true := by simp
    have e8 : IntKind.i64.wrap (8 * (m : Int)) = ((8 * m : Nat) : Int) := by rw [w64 (by omega) (by omega)]; omega
    have e1 : IntKind.i64.wrap ((m : Int) - 1) = (m : Int) - 1 := w64 (by omega) (by omega)
    have hmin : min (8 * m) IntKind.u64.bits = 8 * m := Nat.min_eq_left (by simp only [IntKind.bits]; omega)
    unfold digest_big_l0_b
    rw [e0, hd, if_pos rfl, e8, if_pos (Int.natCast_nonneg _), Int.toNat_natCast, hmin, h1, bnd_ok]
    show bnd (apd prog 22 22 (.slice s.a s.len s.cap) (.slice (some ⟨w.heap.size, 0, none⟩) 1 1) w1) _ = _
    rw [h2, bnd_ok, e1, h3]

theorem big_ok {K : Nat} (hK : 18446744073709551616 ≤ K) {B : Nat} (x : Int) {m : Nat} (hm : m ≤ 8) {w : World} {s : Sl} {xs : List Int} (ho : OwnS 5 w s (ints .u8 xs)) (hs : s.len + m ≤ 140737488355328) (hB : B ≤ w.heap.size) (hf : Fresh B s) :
    ∃ s' w', digest_big K s x (m : Int) w = some ((s', ()), w') ∧ OwnS 5 w' s' (ints .u8 (xs ++ bigB x m)) ∧ Below B w w' ∧ Fresh B s' := by
  obtain ⟨s', w', h1, h2, h3, h4⟩ := big_loop K B x m K w s xs hm (by omega) ho hs hB hf
  refine ⟨s', w', ?_, h2, h3, h4⟩
  have e1 : IntKind.i64.wrap ((m : Int) - 1) = (m : Int) - 1 := w64 (by omega) (by omega)
  unfold digest_big
  rw [e1, h1, bnd_ok]

/-- the zeros behind the mark, as many as it takes till a whole number of blocks comes out -/
def padZ (b m len : Nat) : Nat := (b - (len + 1 + m) % b) % b

theorem padZ_spec {b m len j : Nat} (hb : b = 64 ∨ b = 128) (hj : j ≤ padZ b m len) : (len % b + (1 + j) + m) % b = 0 ↔ j = padZ b m len := by
  unfold padZ at *
  rcases hb with rfl | rfl <;> omega

theorem padZ_lt {b m len : Nat} (hb : b = 64 ∨ b = 128) : padZ b m len < b := by
  unfold padZ
  rcases hb with rfl | rfl <;> omega

theorem padZ_whole {b m len : Nat} (hb : b = 64 ∨ b = 128) : (len + 1 + padZ b m len + m) % b = 0 := by
  unfold padZ
  rcases hb with rfl | rfl <;> omega

/-- bytes of a digest's word -/
def wordB (h : Int) : Nat := if narrowB h = true then 4 else 8
theorem wordB_blk (h : Int) : (wordB h = 4 ∧ blk h = 64) ∨ (wordB h = 8 ∧ blk h = 128) := by unfold wordB blk; split <;> simp

theorem st_word {h : Int} (hk : known h = true) (cnt : Nat) (H half : List Int) : (stCells h cnt H half)[2]? = some (.int .i64 ((wordB h : Nat) : Int)) ∧ (stCells h cnt H half)[0]? = some (.int .i64 (h / 8)) := by
  rcases known_cases hk with e | e | e | e <;> subst e <;> exact ⟨rfl, rfl⟩

theorem StAt.ld2 {w : World} {e : TypeId} {g o : Nat} {cs0 : List Value} {h : Int} {cnt : Nat} {H half : List Int} (s : StAt w e g o cs0 h cnt H half) (hk : known h = true) :
    ldI .i64 ⟨g, o + 2, none⟩ w = some ((wordB h : Nat) : Int) ∧ ldI .i64 ⟨g, o + 0, none⟩ w = some (h / 8) := by
  obtain ⟨h1, h2⟩ := st_word hk cnt H half
  exact ⟨s.bk.ldI ((st_get s.words s.len s.room (by decide)).trans h1), s.bk.ldI ((st_get s.words s.len s.room (by decide)).trans h2)⟩

theorem end_l0 (K : Nat) {e : TypeId} {g : Nat} {cs0 : List Value} {h : Int} (hk : known h = true) {cnt : Nat} (hcnt : cnt ≤ 140737488355328) {H half : List Int} {bits3 : Int} {pad4 : Addr} :
    ∀ (d j n : Nat) (w : World), j + d = padZ (blk h) (2 * wordB h) cnt → d < n → StAt w e g 0 cs0 h cnt H half →
      ∃ w', digest_state_end_l0 K n ⟨g, 0, none⟩ bits3 pad4 ((1 + j : Nat) : Int) w = some ((((1 + padZ (blk h) (2 * wordB h) cnt : Nat) : Int), ()), w') ∧ Upd none_ w w' := by
  have hbp := blk_pos h
  have hw := wordB_blk h
  have hbk : blk h = 64 ∨ blk h = 128 := known_blk hk
  have hzl := padZ_lt (m := 2 * wordB h) (len := cnt) hbk
  intro d
  induction d with
  | zero =>
    intro j n w hj hn s
    obtain ⟨n, rfl⟩ : ∃ m, n = m + 1 := ⟨n - 1, by omega⟩
    have hj : j = padZ (blk h) (2 * wordB h) cnt := by omega
    obtain ⟨l1, l5, l3⟩ := s.drew.ld hk
    obtain ⟨l2, l0⟩ := s.drew.ld2 hk
    simp only [Nat.zero_add] at l1 l2 l5
    have eb : IntKind.u64.wrap ((blk h : Nat) : Int) = ((blk h : Nat) : Int) := by rw [IntKind.wrap_u64]; omega
    have hne : ((blk h : Nat) : Int) ≠ 0 := by omega
    have hat := Nat.mod_lt cnt hbp
    have ea : IntKind.i64.wrap (Int.tmod (cnt : Int) ((blk h : Nat) : Int)) = ((cnt % blk h : Nat) : Int) := by rw [tmod_nat, wn64 (by omega)]
    have e2 : IntKind.i64.wrap (2 * ((wordB h : Nat) : Int)) = ((2 * wordB h : Nat) : Int) := by rw [w64 (by omega) (by omega)]; omega
    have e3 : IntKind.i64.wrap (((cnt % blk h : Nat) : Int) + ((1 + j : Nat) : Int)) = ((cnt % blk h + (1 + j) : Nat) : Int) := by rw [w64 (by omega) (by omega)]; omega
    have e4 : IntKind.i64.wrap (((cnt % blk h + (1 + j) : Nat) : Int) + ((2 * wordB h : Nat) : Int)) = ((cnt % blk h + (1 + j) + 2 * wordB h : Nat) : Int) := by rw [w64 (by omega) (by omega)]; omega
    have hz := (padZ_spec (m := 2 * wordB h) (len := cnt) (j := j) hbk (by omega)).2 hj
    refine ⟨w.drew, ?_, (Upd.refl none_ w).drew⟩
    show digest_state_end_l0_b K (digest_state_end_l0 K n) ⟨g, 0, none⟩ bits3 pad4 ((1 + j : Nat) : Int) w = _
    unfold digest_state_end_l0_b
    simp only [add_lit, Nat.zero_add, Nat.add_zero]
    rw [l5, Option.bind_some, l1, Option.bind_some, eb, if_pos hne, l2, Option.bind_some, Option.bind_some, if_pos hne, ea, e2, e3, e4, tmod_nat, hz]
    rw [if_neg (by simp), hj]
  | succ d ih =>
    intro j n w hj hn s
    obtain ⟨n, rfl⟩ : ∃ m, n = m + 1 := ⟨n - 1, by omega⟩
    obtain ⟨l1, l5, l3⟩ := s.drew.ld hk
    obtain ⟨l2, l0⟩ := s.drew.ld2 hk
    simp only [Nat.zero_add] at l1 l2 l5
    have eb : IntKind.u64.wrap ((blk h : Nat) : Int) = ((blk h : Nat) : Int) := by rw [IntKind.wrap_u64]; omega
    have hne : ((blk h : Nat) : Int) ≠ 0 := by omega
    have hat := Nat.mod_lt cnt hbp
    have ea : IntKind.i64.wrap (Int.tmod (cnt : Int) ((blk h : Nat) : Int)) = ((cnt % blk h : Nat) : Int) := by rw [tmod_nat, wn64 (by omega)]
    have e2 : IntKind.i64.wrap (2 * ((wordB h : Nat) : Int)) = ((2 * wordB h : Nat) : Int) := by rw [w64 (by omega) (by omega)]; omega
    have e3 : IntKind.i64.wrap (((cnt % blk h : Nat) : Int) + ((1 + j : Nat) : Int)) = ((cnt % blk h + (1 + j) : Nat) : Int) := by rw [w64 (by omega) (by omega)]; omega
    have e4 : IntKind.i64.wrap (((cnt % blk h + (1 + j) : Nat) : Int) + ((2 * wordB h : Nat) : Int)) = ((cnt % blk h + (1 + j) + 2 * wordB h : Nat) : Int) := by rw [w64 (by omega) (by omega)]; omega
    have hz : ¬ (cnt % blk h + (1 + j) + 2 * wordB h) % blk h = 0 := fun e0 => by
      have := (padZ_spec (m := 2 * wordB h) (len := cnt) (j := j) hbk (by omega)).1 e0
      omega
    have e1 : IntKind.i64.wrap (((1 + j : Nat) : Int) + 1) = ((1 + (j + 1) : Nat) : Int) := by rw [w64 (by omega) (by omega)]; omega
    obtain ⟨w1, h1, u1⟩ := ih (j + 1) n w.drew (by omega) (by omega) s.drew
    refine ⟨w1, ?_, u1.predrew⟩
    show digest_state_end_l0_b K (digest_state_end_l0 K n) ⟨g, 0, none⟩ bits3 pad4 ((1 + j : Nat) : Int) w = _
    have hnz : ((((cnt % blk h + (1 + j) + 2 * wordB h) % blk h : Nat) : Int) != 0) = true := by rw [bne_iff_ne]; exact fun e0 => hz (Int.natCast_eq_zero.1 e0)
    unfold digest_state_end_l0_b
    simp only [add_lit, Nat.zero_add, Nat.add_zero]
    rw [l5, Option.bind_some, l1, Option.bind_some, eb, if_pos hne, l2, Option.bind_some, Option.bind_some, if_pos hne, ea, e2, e3, e4, tmod_nat, hnz, if_pos rfl, e1, h1]

theorem seg_cons {cs vs : List Value} {o : Nat} (h : o + 1 + vs.length ≤ cs.length) (v : Value) : (seg cs (o + 1) vs).set o v = seg cs o (v :: vs) := by
  apply List.ext_getElem?
  intro i
  rw [List.getElem?_set, seg_length h, seg_get h, seg_get (by simp; omega)]
  simp only [List.length_cons]
  by_cases h1 : o = i
  · subst h1
    rw [if_pos rfl, if_pos (by omega), if_neg (by omega), if_pos (by omega)]
    simp
  · rw [if_neg h1]
    by_cases h2 : i < o
    · rw [if_pos (by omega), if_pos h2]
    · rw [if_neg (by omega), if_neg h2]
      by_cases h3 : i < o + 1 + vs.length
      · rw [if_pos h3, if_pos (by omega), show i - o = (i - (o + 1)) + 1 by omega]; rfl
      · rw [if_neg h3, if_neg (by omega)]

theorem end_l1 (K : Nat) {s1 : Addr} {bits : Int} {gp n0 : Nat} {ep : TypeId} {ps : List Value} (hps : ps.length = 256) (hn8 : 8 ≤ n0) (hn0 : n0 ≤ 256) :
    ∀ (d i n : Nat) (w : World), i + d = 8 → d < n → Bk ep w gp (seg ps (n0 - i) (ints .u8 (bigB bits i))) →
      ∃ w', digest_state_end_l1 K n s1 bits ⟨gp, 0, none⟩ (n0 : Int) (i : Int) w = some ((), w') ∧ Bk ep w' gp (seg ps (n0 - 8) (ints .u8 (bigB bits 8))) ∧ Upd (· = gp) w w' := by
  intro d
  induction d with
  | zero =>
    intro i n w hi hn hb
    obtain ⟨n, rfl⟩ : ∃ m, n = m + 1 := ⟨n - 1, by omega⟩
    have : i = 8 := by omega
    subst this
    refine ⟨w, ?_, hb, Upd.refl _ _⟩
    show digest_state_end_l1_b K (digest_state_end_l1 K n) s1 bits ⟨gp, 0, none⟩ (n0 : Int) ((8 : Nat) : Int) w = _
    simp [digest_state_end_l1_b]
  | succ d ih =>
    intro i n w hi hn hb
    obtain ⟨n, rfl⟩ : ∃ m, n = m + 1 := ⟨n - 1, by omega⟩
    have hd : decide ((i : Int) < 8) = true := by simp; omega
    have e1 : IntKind.i64.wrap ((i : Int) + 1) = ((i + 1 : Nat) : Int) := by rw [w64 (by omega) (by omega)]; rfl
    have e8 : IntKind.i64.wrap (8 * (i : Int)) = ((8 * i : Nat) : Int) := by rw [w64 (by omega) (by omega)]; omega
    have en : IntKind.i64.wrap ((n0 : Int) - 1) = ((n0 - 1 : Nat) : Int) := by rw [w64 (by omega) (by omega)]; omega
    have eni : IntKind.i64.wrap (((n0 - 1 : Nat) : Int) - (i : Int)) = ((n0 - (i + 1) : Nat) : Int) := by rw [w64 (by omega) (by omega)]; omega
    have hmin : min (8 * i) IntKind.u64.bits = 8 * i := Nat.min_eq_left (by simp only [IntKind.bits]; omega)
    have c0 : (0 : Int) ≤ ((n0 - (i + 1) : Nat) : Int) ∧ ((n0 - (i + 1) : Nat) : Int) < ((256 : Nat) : Int) := by omega
    have hbl := bigB_len bits i
    obtain ⟨w1, s1', s2, s3⟩ := hb.stC (i := n0 - (i + 1)) (by rw [seg_length (by rw [ints_length, hbl]; omega)]; omega) (.int .u8 (IntKind.u8.wrap (Int.fdiv bits (2 ^ (8 * i)))))
    have hst : (seg ps (n0 - i) (ints .u8 (bigB bits i))).set (n0 - (i + 1)) (.int .u8 (IntKind.u8.wrap (Int.fdiv bits (2 ^ (8 * i))))) = seg ps (n0 - (i + 1)) (ints .u8 (bigB bits (i + 1))) := by
      have := seg_cons (cs := ps) (vs := ints .u8 (bigB bits i)) (o := n0 - (i + 1)) (by rw [ints_length, hbl]; omega) (.int .u8 (IntKind.u8.wrap (Int.fdiv bits (2 ^ (8 * i)))))
      rw [show n0 - (i + 1) + 1 = n0 - i by omega] at this
      rw [this]; rfl
    rw [hst] at s2
    obtain ⟨w2, h1, h2, h3⟩ := ih (i + 1) n w1 (by omega) (by omega) s2
    refine ⟨w2, ?_, h2, s3.trans' h3 fun _ _ e => e⟩
    show digest_state_end_l1_b K (digest_state_end_l1 K n) s1 bits ⟨gp, 0, none⟩ (n0 : Int) (i : Int) w = _
    unfold digest_state_end_l1_b
    rw [hd, if_pos rfl, e8, if_pos (Int.natCast_nonneg _), en, eni, if_pos c0]
    simp only [Int.toNat_natCast, add_lit, Nat.mul_one, Nat.zero_add]
    rw [hmin, s1', Option.bind_some, e1, h1]

/-- the bytes of words -/
def outW (H : List Int) (m : Nat) : Nat → List Int
  | 0 => []
  | i + 1 => outW H m i ++ bigB (H.getD i 0) m

theorem outW_len (H : List Int) (m : Nat) : ∀ i, (outW H m i).length = i * m
  | 0 => by simp [outW]
  | i + 1 => by simp [outW, outW_len H m i, bigB_len, Nat.succ_mul]

theorem end_l2 {K : Nat} (hK : 18446744073709551616 ≤ K) (B : Nat) {e : TypeId} {g : Nat} {cs0 : List Value} {h : Int} (hk : known h = true) {cnt : Nat} {H half X : List Int} (hX : X.length = 8) (hgB : g < B) :
    ∀ (d i n : Nat) (w : World) (s : Sl), i + d = 8 → d < n → StAt w e g 0 cs0 h cnt H half → OwnS 5 w s (ints .u8 (outW X (wordB h) i)) → B ≤ w.heap.size → Fresh B s →
      ∃ s' w', digest_state_end_l2 K n ⟨g, 0, none⟩ s (ints .u64 X).toArray (i : Int) w = some ((s', ()), w') ∧ OwnS 5 w' s' (ints .u8 (outW X (wordB h) 8)) ∧ Below B w w' ∧ Fresh B s' := by
  have hw := wordB_blk h
  intro d
  induction d with
  | zero =>
    intro i n w s hi hn st ho hB hf
    obtain ⟨n, rfl⟩ : ∃ m, n = m + 1 := ⟨n - 1, by omega⟩
    have : i = 8 := by omega
    subst this
    refine ⟨s, w, ?_, ho, Below.refl B w, hf⟩
    show digest_state_end_l2_b K (digest_state_end_l2 K n) ⟨g, 0, none⟩ s (ints .u64 X).toArray ((8 : Nat) : Int) w = _
    simp [digest_state_end_l2_b]
  | succ d ih =>
    intro i n w s hi hn st ho hB hf
    obtain ⟨n, rfl⟩ : ∃ m, n = m + 1 := ⟨n - 1, by omega⟩
    have hd : decide ((i : Int) < 8) = true := by simp; omega
    have e1 : IntKind.i64.wrap ((i : Int) + 1) = ((i + 1 : Nat) : Int) := by rw [w64 (by omega) (by omega)]; rfl
    have c0 : (0 : Int) ≤ (i : Int) ∧ (i : Int) < ((8 : Nat) : Int) := by omega
    have hxi : i < X.length := by omega
    have hg : (ints .u64 X).toArray[i]? = some (.int .u64 (X.getD i 0)) := by
      rw [List.getElem?_toArray]; simp [ints, List.getD_eq_getElem?_getD, hxi]
    obtain ⟨l2, l0⟩ := st.ld2 hk
    simp only [Nat.zero_add] at l2
    have hsl : s.len = i * wordB h := by rw [ho.len, ints_length, outW_len]
    have him : i * wordB h ≤ 7 * 8 := Nat.mul_le_mul (by omega) (by omega)
    obtain ⟨s2, w2, h2, o2, bl2, f2⟩ := big_ok hK (X.getD i 0) (m := wordB h) (by omega) ho (by omega) hB hf
    obtain ⟨s3, w3, h3, o3, bl3, f3⟩ := ih (i + 1) n w2 s2 (by omega) (by omega) (st.upd (upd_of_below bl2) (by omega)) o2 (by have := bl2.size; omega) f2
    refine ⟨s3, w3, ?_, o3, bl2.trans bl3, f3⟩
    show digest_state_end_l2_b K (digest_state_end_l2 K n) ⟨g, 0, none⟩ s (ints .u64 X).toArray (i : Int) w = _
    unfold digest_state_end_l2_b
    rw [hd, if_pos rfl, if_pos c0]
    simp only [Int.toNat_natCast, Nat.mul_one]
    rw [hg, Option.bind_some]
    simp only [asI, if_true, Option.bind_some, add_lit, Nat.zero_add, Nat.add_zero]
    rw [l2, Option.bind_some, h2, bnd_ok, e1, h3]

/-- what is put behind what is digested -/
def pads (h : Int) (len : Nat) : List Int := [128] ++ List.replicate (padZ (blk h) (2 * wordB h) len + (2 * wordB h - 8)) 0 ++ bigB (IntKind.u64.wrap ((len : Int) * 8)) 8

theorem pads_len (h : Int) (len : Nat) : (pads h len).length = 1 + padZ (blk h) (2 * wordB h) len + 2 * wordB h := by
  have := wordB_blk h
  simp [pads, bigB_len]; omega

theorem pads_whole (h : Int) (hk : known h = true) (xs : List Int) : (xs ++ pads h xs.length).length % blk h = 0 := by
  rw [List.length_append, pads_len]
  have := padZ_whole (m := 2 * wordB h) (len := xs.length) (known_blk hk)
  rw [← this]; congr 1; omega

theorem bigB_in (x : Int) : ∀ n, ∀ y ∈ bigB x n, InK .u8 y
  | 0, y, hy => by simp [bigB] at hy
  | n + 1, y, hy => by
    simp only [bigB, List.mem_cons] at hy
    rcases hy with rfl | hy
    · rw [IntKind.wrap_u8]; exact ⟨by omega, by simp only [IntKind.bits]; omega⟩
    · exact bigB_in x n y hy

theorem pads_in (h : Int) (len : Nat) : ∀ y ∈ pads h len, InK .u8 y := by
  intro y hy
  unfold pads at hy
  simp only [List.mem_append, List.mem_cons, List.not_mem_nil, or_false, List.mem_replicate] at hy
  rcases hy with (rfl | ⟨_, rfl⟩) | hy
  · exact ⟨by decide, by decide⟩
  · exact ⟨by decide, by decide⟩
  · exact bigB_in _ 8 y hy

/-- the digest of bytes -/
def digestOf (h : Int) (C H0 xs : List Int) : List Int := (outW (compsH h C ((xs ++ pads h xs.length).length / blk h) H0 (xs ++ pads h xs.length)) (wordB h) 8).take (h / 8).toNat

/-- a slice as it is answered: of new memory, no room behind it -/
structure Ans (B : Nat) (w : World) (s : Sl) (zs : List Int) : Prop where
  ex : ∃ g cs, s.a = some ⟨g, 0, none⟩ ∧ B ≤ g ∧ Bk 5 w g cs ∧ cs.take zs.length = ints .u8 zs ∧ zs.length ≤ cs.length
  len : s.len = zs.length
  cap : s.cap = zs.length

end Go.Sh

/- A digest is told: end of package digest, whole. -/
set_option linter.unusedVariables false
namespace Go.Sh
open Go.Fw Go.Sha Go.RowKit Go.Proofs.Tryd

theorem mkS_ok (w : World) {c : Nat} (hc : c ≤ 281474976710656) :
    ∃ w', mkS prog 22 (.int .i64 0) (.int .i64 (c : Int)) w = some (⟨some ⟨w.heap.size, 0, none⟩, 0, c⟩, w') ∧ OwnS 5 w' ⟨some ⟨w.heap.size, 0, none⟩, 0, c⟩ [] ∧ Upd none_ w w' := by
  obtain ⟨i, hi, hsz, hz, hby⟩ := sliceB.info
  obtain ⟨w', hr, ho, hg⟩ := run_make_own (P := prog) w 0 22 5 i (.int .u8 0) 1 sliceB.ht hi hz hsz .i64 .i64 c (by rw [hby]; omega) (by simp only [maxLen]; omega) (Nat.zero_le _)
  obtain ⟨s, h1, h2, h3⟩ := OwnS.of_row ho
  have hs : s = ⟨some ⟨w.heap.size, 0, none⟩, 0, c⟩ := by
    cases s
    simp only [Value.slice.injEq] at h1
    simp [← h1.1, ← h1.2.1, ← h1.2.2]
  refine ⟨w', ?_, hs ▸ h3, (Upd.of_grown hg).mono fun k _ e => by cases e⟩
  unfold mkS
  rw [hr]

theorem seg_self {cs : List Value} : seg cs 0 cs = cs := by simp [seg]

theorem pads_cells (h : Int) (len : Nat) (hz : padZ (blk h) (2 * wordB h) len < 128) :
    (seg ((ints .u8 (List.replicate 256 0)).set 0 (.int .u8 128)) (1 + padZ (blk h) (2 * wordB h) len + 2 * wordB h - 8) (ints .u8 (bigB (IntKind.u64.wrap ((len : Int) * 8)) 8))).take (1 + padZ (blk h) (2 * wordB h) len + 2 * wordB h) = ints .u8 (pads h len) := by
  have hw := wordB_blk h
  obtain ⟨k, hk⟩ : ∃ k, padZ (blk h) (2 * wordB h) len + (2 * wordB h - 8) = k := ⟨_, rfl⟩
  have e0 : (ints .u8 (List.replicate 256 0)).set 0 (.int .u8 128) = ints .u8 (128 :: List.replicate 255 0) := by
    rw [ints_set, show (256 : Nat) = 255 + 1 from rfl, List.replicate_succ, List.set_cons_zero]
  have e1 : 1 + padZ (blk h) (2 * wordB h) len + 2 * wordB h - 8 = k + 1 := by omega
  have e2 : 1 + padZ (blk h) (2 * wordB h) len + 2 * wordB h = k + 1 + (ints .u8 (bigB (IntKind.u64.wrap ((len : Int) * 8)) 8)).length := by rw [ints_length, bigB_len]; omega
  rw [e0, e1, e2]
  unfold seg pads
  rw [hk, ints_take, List.take_succ_cons, List.take_replicate, Nat.min_eq_left (by omega), ← ints_append, List.take_append_of_le_length (by rw [ints_length, ints_length, List.length_append, List.length_cons, List.length_replicate]; omega), List.take_of_length_le (by rw [ints_length, ints_length, List.length_append, List.length_cons, List.length_replicate]; omega)]
  rfl

theorem end_ok {K : Nat} (hK : 18446744073709551616 ≤ K) {h : Int} (hk : known h = true) {H half C H0 xs : List Int} (f : Fed h C H0 xs H half) (hH : H.length = 8) (hhi : ∀ x ∈ half, InK .u8 x) (hC : C.length = 80) {w : World} (hT : Rd w ⟨0, 0, none⟩ (ints .u64 C)) (hlim : xs.length ≤ 1099511627776) :
    ∃ s w', digest_state_end K (stCells h xs.length H half).toArray w = some ((s, ()), w') ∧ Ans w.heap.size w' s (digestOf h C H0 xs) ∧ Upd none_ w w' := by
  have hGC : 0 < w.heap.size := hT.lt (fun e => by have := congrArg List.length e; simp [hC] at this)
  have hwb := wordB_blk h
  have hbk := known_blk hk
  have hzl := padZ_lt (m := 2 * wordB h) (len := xs.length) hbk
  obtain ⟨w1, n1, b1, u1, z1⟩ := newB_ok (stCells h xs.length H half).toArray 87 w
  have b1 : Bk 87 w1 w.heap.size (stCells h xs.length H half) := b1
  have hsl := stCells_len h xs.length hH f.len
  have st1 : StAt w1 87 w.heap.size 0 (stCells h xs.length H half) h xs.length H half := ⟨by rw [seg_self]; exact b1, by rw [hsl]; decide, hH, f.len, hhi⟩
  obtain ⟨l1, l5, l3⟩ := st1.ld hk
  obtain ⟨w2, n2, b2, u2, z2⟩ := newB_ok z96 96 w1
  have b2 : Bk 96 w2 w1.heap.size (ints .u8 (List.replicate 256 0)) := by
    have e : z96.toList = ints .u8 (List.replicate 256 0) := by unfold z96 ints; rw [Array.toList_replicate, List.map_replicate]
    rw [← e]; exact b2
  obtain ⟨w3, s3, b3, u3⟩ := b2.stC (i := 0) (by rw [ints_length, List.length_replicate]; decide) (.int .u8 128)
  have st3 := (st1.upd u2 id).upd u3 (by omega)
  obtain ⟨w4, h4, u4⟩ := end_l0 K hk (by omega) (bits3 := IntKind.u64.wrap (((xs.length : Nat) : Int) * 8)) (pad4 := ⟨w1.heap.size, 0, none⟩) (padZ (blk h) (2 * wordB h) xs.length) 0 K w3 (by omega) (by omega) st3
  have h4 : digest_state_end_l0 K K ⟨w.heap.size, 0, none⟩ (IntKind.u64.wrap (((xs.length : Nat) : Int) * 8)) ⟨w1.heap.size, 0, none⟩ 1 w3 = _ := h4
  have st4 := st3.upd u4 id
  have b4 := b3.upd0 u4
  obtain ⟨m2, m0⟩ := st4.ld2 hk
  have ew : IntKind.i64.wrap (2 * ((wordB h : Nat) : Int)) = ((2 * wordB h : Nat) : Int) := by rw [w64 (by omega) (by omega)]; omega
  have en : IntKind.i64.wrap (((1 + padZ (blk h) (2 * wordB h) xs.length : Nat) : Int) + ((2 * wordB h : Nat) : Int)) = ((1 + padZ (blk h) (2 * wordB h) xs.length + 2 * wordB h : Nat) : Int) := by rw [w64 (by omega) (by omega)]; omega
  have hps : ((ints .u8 (List.replicate 256 0)).set 0 (.int .u8 128)).length = 256 := by rw [List.length_set, ints_length, List.length_replicate]
  obtain ⟨w5, h5, b5, u5⟩ := end_l1 K (s1 := ⟨w.heap.size, 0, none⟩) (bits := IntKind.u64.wrap (((xs.length : Nat) : Int) * 8)) (gp := w1.heap.size) (n0 := 1 + padZ (blk h) (2 * wordB h) xs.length + 2 * wordB h) hps (by omega) (by omega) 8 0 K w4 rfl (by omega) (by
    show Bk 96 w4 w1.heap.size (seg _ _ [])
    rw [seg_nil]; exact b4)
  have h5 : digest_state_end_l1 K K ⟨w.heap.size, 0, none⟩ (IntKind.u64.wrap (((xs.length : Nat) : Int) * 8)) ⟨w1.heap.size, 0, none⟩ ((1 + padZ (blk h) (2 * wordB h) xs.length + 2 * wordB h : Nat) : Int) 0 w4 = _ := h5
  have st5 := st4.upd u5 (by omega)
  have hpc := pads_cells h xs.length (by omega)
  have hplen := pads_len h xs.length
  have q5 : Upd none_ w w5 := (((u1.and0 u2).trans' u3 fun k hk e => by omega).and0 u4).trans' u5 fun k hk e => by omega
  have hsrc : Src w5 ⟨some ⟨w1.heap.size, 0, none⟩, 1 + padZ (blk h) (2 * wordB h) xs.length + 2 * wordB h, 256⟩ (ints .u8 (pads h xs.length)) := by
    refine ⟨by rw [ints_length, hplen], (show 1 + padZ (blk h) (2 * wordB h) xs.length + 2 * wordB h ≤ 256 by omega), .inr ⟨_, rfl, b5.rd 0 _ fun i v hv => ?_⟩, ints_one⟩
    rw [← hpc, List.getElem?_take] at hv
    split at hv
    · rw [Nat.zero_add]; exact hv
    · cases hv
  obtain ⟨w6, H6, half6, h6, st6, f6, u6⟩ := take_ok hK hk st5 f hC (by omega) (hT.upd q5 fun _ => id) (pads_in h xs.length) (by rw [hplen]; omega) hsrc
    (fun p hp _ e=>by have e1 : p = ⟨w1.heap.size, 0, none⟩ := by simpa using hp.symm
                      rw [e1] at e; simp at e; omega)
    (fun p hp _=>by have e1 : p = ⟨w1.heap.size, 0, none⟩ := by simpa using hp.symm
                    rw [e1]; exact b5.lt)
  have q6 : Upd none_ w w6 := q5.trans' u6 fun k hk e => by omega
  obtain ⟨w7, h7, o7, u7⟩ := mkS_ok w6 (c := 64) (by decide)
  have h7 : mkS prog 22 (.int .i64 0) (.int .i64 64) w6 = _ := h7
  have st7 := st6.upd u7 id
  have lW := st7.bk.ldA (i := 6) (n := 8) (by rw [seg_length (by rw [stCells_len h _ st7.words st7.len]; exact st7.room)]; have := st7.room; omega)
  have h8 := st7.at8
  rw [Nat.zero_add] at h8
  rw [h8] at lW
  have hs7 := q6.size
  have hs76 := u7.size
  obtain ⟨s8, w8, h8', o8, bl8, f8⟩ := end_l2 hK w6.heap.size hk st7.words (by have := st6.bk.lt; exact this) 8 0 K w7 ⟨some ⟨w6.heap.size, 0, none⟩, 0, 64⟩ rfl (by omega) st7 (by simpa [outW] using o7) (by omega) (fun k hk => by simp [Sl.blk] at hk; omega)
  have h8' : digest_state_end_l2 K K ⟨w.heap.size, 0, none⟩ ⟨some ⟨w6.heap.size, 0, none⟩, 0, 64⟩ (ints .u64 H6).toArray 0 w7 = _ := h8'
  have st8 := st7.upd (upd_of_below bl8) (by have := st6.bk.lt; omega)
  obtain ⟨k2, k0⟩ := st8.ld2 hk
  have hol : s8.len = 8 * wordB h := by rw [o8.len, ints_length, outW_len]
  have hcap := o8.cap
  have hq : ∃ q : Nat, h / 8 = (q : Int) ∧ q ≤ 8 * wordB h ∧ 0 < q := by
    rcases known_cases hk with e | e | e | e <;> subst e
    · exact ⟨28, rfl, by decide, by decide⟩
    · exact ⟨32, rfl, by decide, by decide⟩
    · exact ⟨48, rfl, by decide, by decide⟩
    · exact ⟨64, rfl, by decide, by decide⟩
  obtain ⟨q, hq1, hq2, hq3⟩ := hq
  have hH6 : H6 = compsH h C ((xs ++ pads h xs.length).length / blk h) H0 (xs ++ pads h xs.length) := f6.words
  have hdg : digestOf h C H0 xs = (outW H6 (wordB h) 8).take q := by unfold digestOf; rw [← hH6, hq1]; rfl
  have hdl : (digestOf h C H0 xs).length = q := by rw [hdg, List.length_take, outW_len]; omega
  obtain ⟨g8, cs8, a8, bk8, _, _, hcl, htk⟩ := o8.bk (fun e => by have := congrArg List.length e; rw [ints_length, outW_len] at this; simp at this; omega)
  refine ⟨⟨some ⟨g8, 0, none⟩, q, q⟩, w8, ?_, ⟨⟨g8, cs8, rfl, by have := f8 g8 (by simp [Sl.blk, a8]); omega, bk8, ?_, by rw [hdl]; omega⟩, hdl.symm, hdl.symm⟩, (q6.and0 u7).trans' (upd_of_below bl8) fun k hk e => by omega⟩
  · unfold digest_state_end
    simp only [Nat.zero_add] at l5 m2 m0 k2 k0
    rw [n1, bnd_ok]
    simp only [add_lit, Nat.zero_add, Nat.add_zero, Nat.zero_mul, Nat.sub_zero]
    rw [l5, Option.bind_some, n2, bnd_ok]
    simp only [add_lit, Nat.zero_add, Nat.add_zero, Nat.zero_mul, Nat.sub_zero]
    rw [s3, Option.bind_some, h4, bnd_ok, m2, Option.bind_some]
    simp only [ew, en]
    rw [h5, bnd_ok, if_pos (by omega), Int.toNat_natCast]
    have e0 : sla (some ⟨w1.heap.size, 0, none⟩) 0 256 1 = some ⟨w1.heap.size, 0, none⟩ := by unfold sla; rw [if_neg (by decide)]; rfl
    rw [e0, h6, bnd_ok, h7, bnd_ok]
    have lW : ldA 8 ⟨w.heap.size, 6, none⟩ w7 = some (ints .u64 H6).toArray := lW
    rw [lW, Option.bind_some, h8', bnd_ok, k0, Option.bind_some]
    have e1 : sla s8.a 0 q 1 = s8.a := by
      rw [a8]; unfold sla; rw [if_neg (by omega)]; rfl
    rw [Option.bind_some, hq1, if_pos (by dsimp only; omega), Int.toNat_natCast, if_pos (by omega)]
    dsimp only
    rw [e1, a8]
  · rw [hdl, hdg, ← ints_take, ← htk, List.take_take, Nat.min_eq_left (by omega)]

end Go.Sh

/- What the helpers of the package cofferbook do: SpoilBytes. YtcfolhdacolbjaaDoor, Tryd, 22, 5 are filled in for a seat. -/
set_option linter.unusedVariables false
namespace Go.Sh
open Go.Fw Go.RowKit Go.Proofs.Tryd

/-- all of its elements are bytes -/
theorem Spoil0 (K : Nat) {s : Sl} : ∀ (d i n : Nat) (w : World) (xs : List Int), i + d = xs.length → xs.length ≤ 140737488355328 → d < n → Vw 5 w s (ints .u8 xs) →
    ∃ w' ys, book_SpoilBytes_l0 K n s (i : Int) w = some ((), w') ∧ Vw 5 w' s (ints .u8 ys) ∧ ys.length = xs.length ∧ Upd (fun k => s.blk = some k) w w' := by
  intro d
  induction d with
  | zero =>
    intro i n w xs hi hl hn hv
    obtain ⟨n, rfl⟩ : ∃ m, n = m + 1 := ⟨n - 1, by omega⟩
    refine ⟨w, xs, ?_, hv, rfl, Upd.refl _ _⟩
    have hd : decide ((i : Int) < ((s.len : Nat) : Int)) = false := by rw [hv.len, ints_length]; simp; omega
    show book_SpoilBytes_l0_b K (book_SpoilBytes_l0 K n) s (i : Int) w = _
    unfold book_SpoilBytes_l0_b
    rw [hd, if_neg (by decide)]
  | succ d ih =>
    intro i n w xs hi hl hn hv
    obtain ⟨n, rfl⟩ : ∃ m, n = m + 1 := ⟨n - 1, by omega⟩
    have hsl : s.len = xs.length := by rw [hv.len, ints_length]
    obtain ⟨p, hp, hpl⟩ := hv.rd.ld
    have l1 := hpl i (by omega)
    have hp : s.a = some p := hp (fun e => by rw [e] at hi; simp at hi)
    obtain ⟨q, w1, hq, hs, hv1, u1⟩ := hv.st (i := i) (by omega) (.int .u8 (bits .xor .u8 (xs[i]'(by omega)) 165))
    obtain rfl : p = q := Option.some.inj (hp.symm.trans hq)
    rw [ints_set_] at hv1
    obtain ⟨w2, ys, h2, hv2, hl2, u2⟩ := ih (i + 1) n w1 _ (by rw [List.length_set]; omega) (by rw [List.length_set]; omega) (by omega) hv1
    refine ⟨w2, ys, ?_, hv2, by rw [hl2, List.length_set], u1.trans' u2 fun _ _ e => e⟩
    have hd : decide ((i : Int) < ((s.len : Nat) : Int)) = true := by rw [hsl]; simp; omega
    have c : (0 : Int) ≤ (i : Int) ∧ (i : Int) < ((s.len : Nat) : Int) := by omega
    have e1 : IntKind.i64.wrap ((i : Int) + 1) = ((i + 1 : Nat) : Int) := by rw [w64 (by omega) (by omega)]; rfl
    show book_SpoilBytes_l0_b K (book_SpoilBytes_l0 K n) s (i : Int) w = _
    unfold book_SpoilBytes_l0_b
    rw [hd, if_pos rfl, hp, Option.bind_some, if_pos c, Int.toNat_natCast, Nat.mul_one, l1, Option.bind_some, Option.bind_some, if_pos c, hs, Option.bind_some, e1, h2]

/-- one byte behind it -/
theorem pushV {w : World} {s : Sl} {xs : List Int} (x : Int) (ho : Vw 5 w s (ints .u8 xs)) (hs : s.len + 1 ≤ 140737488355328) :
    ∃ w1 s2 w2, bldS prog 22 1 #[(0, (.int .u8 x))] w = some (⟨some ⟨w.heap.size, 0, none⟩, 1, 1⟩, w1) ∧ apd prog 22 22 (.slice s.a s.len s.cap) (.slice (some ⟨w.heap.size, 0, none⟩) 1 1) w1 = some (s2, w2) ∧
      Vw 5 w2 s2 (ints .u8 (xs ++ [x])) ∧ s2.len = s.len + 1 ∧ Upd (fun k => s.blk = some k) w w2 ∧ (∀ k, s2.blk = some k → s.blk = some k ∨ w.heap.size ≤ k) := by
  obtain ⟨w1, h1, o1, u1, z1⟩ := bldS1_ok sliceB (.int .u8 x) rfl w
  obtain ⟨s2, w2, h2, l2, o2, u2, b2⟩ := apd_vw sliceB (ho.upd0 u1) (o1.src (by simp [Value.oneCell'])) (by show (s.len + 1) * 1 ≤ _; omega)
  refine ⟨w1, s2, w2, h1, h2, by simpa using o2, l2, (u1.mono fun _ _ e => e.elim).trans' u2 fun _ _ e => e, fun k hk => (b2 k hk).imp id fun e => by omega⟩

theorem Spoil1 (K : Nat) : ∀ (d i n : Nat) (w : World) (s : Sl) (xs : List Int), i + d = 70 → xs.length + d ≤ 140737488355328 → d < n → Vw 5 w s (ints .u8 xs) →
    ∃ s' w' ys, book_SpoilBytes_l1 K n s (i : Int) w = some ((s', ()), w') ∧ Vw 5 w' s' (ints .u8 ys) ∧ ys.length = xs.length + d ∧ Upd (fun k => s.blk = some k) w w' ∧ (∀ k, s'.blk = some k → s.blk = some k ∨ w.heap.size ≤ k) := by
  intro d
  induction d with
  | zero =>
    intro i n w s xs hi hl hn hv
    obtain ⟨n, rfl⟩ : ∃ m, n = m + 1 := ⟨n - 1, by omega⟩
    have : i = 70 := by omega
    subst this
    refine ⟨s, w, xs, ?_, hv, rfl, Upd.refl _ _, fun _ => .inl⟩
    show book_SpoilBytes_l1_b K (book_SpoilBytes_l1 K n) s ((70 : Nat) : Int) w = _
    unfold book_SpoilBytes_l1_b
    rw [if_neg (by decide)]
  | succ d ih =>
    intro i n w s xs hi hl hn hv
    obtain ⟨n, rfl⟩ : ∃ m, n = m + 1 := ⟨n - 1, by omega⟩
    have hsl : s.len = xs.length := by rw [hv.len, ints_length]
    obtain ⟨w1, s2, w2, h1, h2, o2, l2, u2, b2⟩ := pushV (IntKind.u8.wrap (IntKind.i64.wrap ((IntKind.i64.wrap (7 * (i : Int))) + 3))) hv (by omega)
    obtain ⟨s3, w3, ys, h3, o3, l3, u3, b3⟩ := ih (i + 1) n w2 s2 _ (by omega) (by rw [List.length_append, List.length_singleton]; omega) (by omega) o2
    refine ⟨s3, w3, ys, ?_, o3, by rw [l3, List.length_append, List.length_singleton]; omega, u2.trans' u3 fun k hk e => (b2 k e).elim id fun e => by omega, fun k hk => ?_⟩
    · have hd : decide ((i : Int) < 70) = true := by simp; omega
      have e1 : IntKind.i64.wrap ((i : Int) + 1) = ((i + 1 : Nat) : Int) := by rw [w64 (by omega) (by omega)]; rfl
      show book_SpoilBytes_l1_b K (book_SpoilBytes_l1 K n) s (i : Int) w = _
      unfold book_SpoilBytes_l1_b
      rw [hd, if_pos rfl, h1, bnd_ok, h2, bnd_ok, e1, h3]
    · rcases b3 k hk with e | e
      · exact b2 k e
      · exact .inr (by have := u2.size; omega)

theorem SpoilBytes_ok {K : Nat} (hK : 18446744073709551616 ≤ K) {s : Sl} {xs : List Int} {w : World} (hv : Vw 5 w s (ints .u8 xs)) (hl : xs.length ≤ 140737488351232) :
    ∃ w', book_SpoilBytes K s w = some ((), w') ∧ Upd (fun k => s.blk = some k) w w' := by
  obtain ⟨w1, ys, h1, v1, l1, u1⟩ := Spoil0 K xs.length 0 K w xs (by omega) (by omega) (by omega) hv
  have h1 : book_SpoilBytes_l0 K K s 0 w = _ := h1
  have hsl : s.len = xs.length := by rw [hv.len, ints_length]
  obtain ⟨w2, s2, w3, h2, h3, v3, l3, u3, b3⟩ := pushV 1 v1 (by omega)
  obtain ⟨s4, w4, zs, h4, v4, l4, u4, b4⟩ := Spoil1 K 70 0 K w3 s2 _ (by omega) (by rw [List.length_append, List.length_singleton]; omega) (by omega) v3
  have h4 : book_SpoilBytes_l1 K K s2 0 w3 = _ := h4
  rw [List.length_append, List.length_singleton] at l4
  have hl4 : s4.len = xs.length + 71 := by rw [v4.len, ints_length]; omega
  obtain ⟨p, w5, hp, h5, v5, u5⟩ := v4.st (i := xs.length + 70) (by omega) (.int .u8 77)
  have e1 : IntKind.i64.wrap (((s4.len : Nat) : Int) - 1) = ((xs.length + 70 : Nat) : Int) := by rw [hl4, w64 (by omega) (by omega)]; omega
  have c : (0 : Int) ≤ ((xs.length + 70 : Nat) : Int) ∧ ((xs.length + 70 : Nat) : Int) < ((s4.len : Nat) : Int) := by omega
  refine ⟨w5, ?_, ?_⟩
  · unfold book_SpoilBytes
    rw [h1, bnd_ok, h2, bnd_ok, h3, bnd_ok, h4, bnd_ok]
    dsimp only
    rw [hp, Option.bind_some, e1, if_pos c, Int.toNat_natCast, Nat.mul_one, h5, Option.bind_some]
  · have q3 : Upd (fun k => s.blk = some k) w w3 := u1.trans' u3 fun _ _ e => e
    have hz := u1.size
    have q4 : Upd (fun k => s.blk = some k) w w4 := q3.trans' u4 fun k hk e => (b3 k e).elim id fun e => by omega
    have hz3 := u3.size
    refine q4.trans' u5 fun k hk e => ?_
    rcases b4 k e with e | e
    · rcases b3 k e with e | e
      · exact e
      · omega
    · omega

end Go.Sh

/- A digest begins: begin and New of package digest. -/
set_option linter.unusedVariables false
namespace Go.Sh
open Go.Fw Go.Sha Go.RowKit Go.Proofs.Tryd

theorem first_none (K : Nat) {h : Int} (hk : known h = false) {a2 : Addr} :
    ∀ (d i n : Nat) (w : World), i + d = 8 → d < n → digest_first_l0 K n h a2 (i : Int) w = some ((), w) := by
  intro d
  have q : (h == 224) = false ∧ (h == 256) = false ∧ (h == 384) = false ∧ (h == 512) = false := by
    simp [known] at hk ⊢; omega
  induction d with
  | zero =>
    intro i n w hi hn
    obtain ⟨n, rfl⟩ : ∃ m, n = m + 1 := ⟨n - 1, by omega⟩
    have : i = 8 := by omega
    subst this
    show digest_first_l0_b K (digest_first_l0 K n) h a2 ((8 : Nat) : Int) w = _
    unfold digest_first_l0_b
    rw [if_neg (by decide)]
  | succ d ih =>
    intro i n w hi hn
    obtain ⟨n, rfl⟩ : ∃ m, n = m + 1 := ⟨n - 1, by omega⟩
    have hd : decide ((i : Int) < 8) = true := by simp; omega
    have e1 : IntKind.i64.wrap ((i : Int) + 1) = ((i + 1 : Nat) : Int) := by rw [w64 (by omega) (by omega)]; rfl
    show digest_first_l0_b K (digest_first_l0 K n) h a2 (i : Int) w = _
    unfold digest_first_l0_b
    rw [hd, if_pos rfl, q.1, if_neg (by decide), q.2.1, if_neg (by decide), q.2.2.1, if_neg (by decide), q.2.2.2, if_neg (by decide), e1]
    exact ih (i + 1) n w (by omega) (by omega)

theorem firstH_none {h : Int} (hk : known h = false) (S : List Int) : firstH S h = List.replicate 8 0 := by
  have q : h ≠ 224 ∧ h ≠ 256 ∧ h ≠ 384 ∧ h ≠ 512 := by simp [known] at hk; omega
  unfold firstH
  refine List.eq_replicate_iff.2 ⟨by simp, fun b hb => ?_⟩
  obtain ⟨i, _, rfl⟩ := List.mem_map.1 hb
  unfold fw1
  rw [if_neg q.1, if_neg q.2.1, if_neg q.2.2.1, if_neg q.2.2.2]

theorem first_any {K : Nat} (hK : 18446744073709551616 ≤ K) (h : Int) {S : List Int} (hS : S.length = 16) (hin : ∀ i, InK .u64 (S.getD i 0)) {w : World} (hT : Rd w ⟨3, 0, none⟩ (ints .u64 S)) :
    ∃ w', digest_first K h w = some (((ints .u64 (firstH S h)).toArray, ()), w') ∧ Upd none_ w w' := by
  cases hk : known h with
  | true => exact first_ok hK hk hS hin hT
  | false =>
    obtain ⟨w1, n1, b1, u1, z1⟩ := newB_ok z75 75 w
    have b1 : Bk 75 w1 w.heap.size z75.toList := b1
    have h3 := first_none K hk (a2 := ⟨w.heap.size, 0, none⟩) 8 0 K w1 rfl (by omega)
    have h3 : digest_first_l0 K K h ⟨w.heap.size, 0, none⟩ 0 w1 = _ := h3
    have hl8 : (ints .u64 (firstH S h)).length = 8 := by rw [ints_length, firstH_len]
    have ez : z75.toList = ints .u64 (firstH S h) := by rw [firstH_none hk]; rfl
    rw [ez] at b1
    have l3 := b1.ldA (i := 0) (n := 8) (by rw [hl8]; decide)
    rw [List.drop_zero, List.take_of_length_le (by rw [hl8]; decide)] at l3
    obtain ⟨w4, a1, a2, a3, a4⟩ := lay' b1 (vs := ints .u64 (firstH S h)) rfl ints_one
    rw [hl8] at a4
    refine ⟨w4, ?_, u1.trans' a3 fun k hk e => by omega⟩
    unfold digest_first
    rw [n1, bnd_ok, h3, bnd_ok, l3, Option.bind_some, if_pos (by rw [List.size_toArray, hl8]), a1, Option.bind_some, a4, Option.bind_some]

theorem built87 (a b c d : Value) (h : Int) (x0 x1 x2 x3 x4 x5 x6 x7 : Int) :
    prog.built 87 [(0, .agg #[a, b, c, d]), (1, .int .i64 h), (3, .agg #[.int .u64 x0, .int .u64 x1, .int .u64 x2, .int .u64 x3, .int .u64 x4, .int .u64 x5, .int .u64 x6, .int .u64 x7])] =
      some (([a, b, c, d] ++ ([.int .i64 h, .int .u64 0] ++ ([.int .u64 x0, .int .u64 x1, .int .u64 x2, .int .u64 x3, .int .u64 x4, .int .u64 x5, .int .u64 x6, .int .u64 x7] ++ List.replicate 128 (.int .u8 0))) : List Value).toArray) := by kernel_rfl

theorem sameK_self {β : Type} (v : Value) (k : Option β) : sameK v v k = k := by unfold sameK; rw [if_pos rfl]

theorem list8 {α : Type} {l : List α} (h : l.length = 8) : ∃ a b c d e f g i, l = [a, b, c, d, e, f, g, i] := by
  match l, h with
  | [a, b, c, d, e, f, g, i], _ => exact ⟨a, b, c, d, e, f, g, i, rfl⟩

theorem list4 {α : Type} {l : List α} (h : l.length = 4) : ∃ a b c d, l = [a, b, c, d] := by
  match l, h with
  | [a, b, c, d], _ => exact ⟨a, b, c, d, rfl⟩

theorem begin_built (h : Int) {H : List Int} (hH : H.length = 8) :
    prog.built 87 [(0, (.agg (kc h).toArray)), (1, (.int .i64 h)), (3, (.agg (ints .u64 H).toArray))] = some (stCells h 0 H (List.replicate 128 0)).toArray := by
  obtain ⟨a, b, c, d, e4⟩ := list4 (kc_len h)
  obtain ⟨x0, x1, x2, x3, x4, x5, x6, x7, rfl⟩ := list8 hH
  unfold stCells
  rw [e4]
  refine (built87 a b c d h x0 x1 x2 x3 x4 x5 x6 x7).trans ?_
  rw [show ints .u8 (List.replicate 128 0) = List.replicate 128 (.int .u8 0) from List.map_replicate]
  rfl

theorem stCells_one (h : Int) (cnt : Nat) (H half : List Int) : ∀ v ∈ stCells h cnt H half, v.oneCell' = true := by
  intro v hv
  unfold stCells at hv
  simp only [List.mem_append, List.mem_cons, List.not_mem_nil, or_false] at hv
  rcases hv with hv | (rfl | rfl) | hv | hv
  · exact kc_one h v hv
  · rfl
  · rfl
  · exact ints_one v hv
  · exact ints_one v hv

abbrev half0 : List Int := List.replicate 128 0

theorem begin_ok {K : Nat} (hK : 18446744073709551616 ≤ K) (h : Int) {S : List Int} (hS : S.length = 16) (hin : ∀ i, InK .u64 (S.getD i 0)) {w : World} (hT : Rd w ⟨3, 0, none⟩ (ints .u64 S)) :
    ∃ w', digest_begin K h w = some (((stCells h 0 (firstH S h) half0).toArray, known h, ()), w') ∧ Upd none_ w w' := by
  obtain ⟨w1, n1, b1, u1, z1⟩ := newB_ok z87 87 w
  have b1 : Bk 87 w1 w.heap.size z87.toList := b1
  obtain ⟨w2, h2, u2⟩ := kindOf_ok h w1
  obtain ⟨w3, n3, b3, u3, z3⟩ := newB_ok z56 56 w2
  have b3 : Bk 56 w3 w2.heap.size z56.toList := b3
  obtain ⟨w4, a1, a2, a3, a4⟩ := lay b3 (vs := kc h) (by rw [kc_len]; rfl) (kc_one h)
  rw [kc_len] at a4
  have q4 : Upd none_ w w4 := ((u1.and0 u2).and0 u3).trans' a3 fun k hk e => by have := (u1.and0 u2).size; omega
  have q4d : Upd none_ w w4.drew := q4.drew
  obtain ⟨w5, h5, u5⟩ := first_any hK h hS hin (hT.upd q4d fun _ => id)
  have l5 := (a2.drew.upd0 u5).ldA (i := 0) (n := 4) (by rw [kc_len]; decide)
  rw [List.drop_zero, List.take_of_length_le (by rw [kc_len]; decide)] at l5
  have b5 : Bk 87 w5 w.heap.size z87.toList := ((((b1.upd0 u2).upd0 u3).upd a3 (by have := u2.size; omega)).drew).upd0 u5
  obtain ⟨w6, c1, c2, c3, c4⟩ := lay b5 (vs := stCells h 0 (firstH S h) half0) (by rw [stCells_len h 0 (firstH_len S h) (List.length_replicate ..)]; rfl) (stCells_one _ _ _ _)
  rw [stCells_len h 0 (firstH_len S h) (List.length_replicate ..)] at c4
  refine ⟨w6, ?_, (q4d.and0 u5).trans' c3 fun k hk e => by omega⟩
  unfold digest_begin
  rw [n1, bnd_ok, h2, bnd_ok, n3, bnd_ok]
  dsimp only
  have a4d : ldA 4 ⟨w2.heap.size, 0, none⟩ w4.drew = some (kc h).toArray := a4
  rw [if_pos (by rw [List.size_toArray, kc_len]), a1, Option.bind_some, a4d, Option.bind_some, h5, bnd_ok, l5, Option.bind_some, sameK_self, begin_built h (firstH_len S h), Option.bind_some,
    if_pos (by rw [List.size_toArray, stCells_len h 0 (firstH_len S h) (List.length_replicate ..)]), c1, Option.bind_some, c4, Option.bind_some]

theorem built99 (cs : List Value) (hc : cs.length = 142) : prog.built 91 [(0, (.agg cs.toArray))] = some cs.toArray :=
  built_one (P := prog) (t := 91) (it := t91) (f := { name := "state", type := 87, offset := 0, embedded := true, tag := "", pkgPath := "coffer/digest", byteOffset := 0 }) (z := .agg z87) (by kernel_rfl) (by kernel_rfl) (by kernel_rfl) (i := t87) (by kernel_rfl) rfl (by rw [hc]; kernel_rfl) (by kernel_rfl)

/-- A stream that was begun here: its parts, all of them. -/
theorem New_ok {K : Nat} (hK : 18446744073709551616 ≤ K) (h : Int) {S : List Int} (hS : S.length = 16) (hin : ∀ i, InK .u64 (S.getD i 0)) {w : World} (hT : Rd w ⟨3, 0, none⟩ (ints .u64 S)) :
    ∃ w' g, digest_New K h w = some (((if known h = true then some ⟨g, 0, none⟩ else none), (if known h = true then 0 else 10), ()), w') ∧ Upd none_ w w' ∧ w.heap.size ≤ g ∧
      (known h = true → Bk 91 w' g (stCells h 0 (firstH S h) half0)) := by
  obtain ⟨w1, h1, u1⟩ := begin_ok hK h hS hin hT
  obtain ⟨w2, n2, b2, u2, z2⟩ := newB_ok z87 87 w1
  have hcl := stCells_len h 0 (firstH_len S h) (List.length_replicate (n := 128) (a := (0 : Int)))
  obtain ⟨w3, c1, c2, c3, c4⟩ := lay b2 (vs := stCells h 0 (firstH S h) half0) (by rw [hcl]; rfl) (stCells_one _ _ _ _)
  have q3 : Upd none_ w w3 := (u1.and0 u2).trans' c3 fun k hk e => by have h1 := u1.size; have e : k = w1.heap.size := e; omega
  rw [hcl] at c4
  have hs1 := u1.size
  have hs3 := q3.size
  unfold digest_New
  rw [h1, bnd_ok, n2, bnd_ok]
  dsimp only
  rw [if_pos (by rw [List.size_toArray, hcl]), c1, Option.bind_some]
  cases hk : known h with
  | true =>
    obtain ⟨w4, n4, b4, u4, z4⟩ := newB_ok (stCells h 0 (firstH S h) half0).toArray 91 w3
    refine ⟨w4, w3.heap.size, ?_, q3.and0 u4, by omega, fun _ => b4⟩
    rw [if_neg (by decide), c4, Option.bind_some, built99 _ hcl, Option.bind_some, n4, bnd_ok]
    rfl
  | false =>
    refine ⟨w3, w.heap.size, ?_, q3, Nat.le_refl _, fun e => by cases e⟩
    rw [if_pos (by decide)]
    rfl

end Go.Sh

/- Parts: a slice of slices of bytes: how many bytes they are, joined, lent. -/
set_option linter.unusedVariables false
namespace Go.Sh
open Go.Fw Go.Sha Go.RowKit Go.Proofs.Tryd

abbrev slV (s : Sl) : Value := .slice s.a s.len s.cap
abbrev nilS : Sl := ⟨none, 0, 0⟩

theorem ldS_rd {w : World} {p : Addr} {ss : List Sl} (h : Rd w p (ss.map slV)) {i : Nat} (hi : i < ss.length) : ldS (p.add i) w = some (ss.getD i nilS) := by
  have := h i (slV (ss.getD i nilS)) (by simp [List.getD_eq_getElem?_getD, hi])
  simp [ldS, this, asS, slV]

/-- A slice of slices of bytes; all that it leads to lies in blocks of Q. -/
structure Parts (w : World) (s : Sl) (xss : List (List Int)) (Q : Nat → Prop) : Prop where
  len : s.len = xss.length
  cap : s.len ≤ s.cap
  inn : ∀ xs ∈ xss, ∀ x ∈ xs, InK .u8 x
  lens : ∀ xs ∈ xss, xs.length ≤ 140737488351232
  many : xss.length * 24 ≤ 140737488351232
  rd : xss = [] ∨ ∃ (p : Addr) (ss : List Sl), s.a = some p ∧ ss.length = xss.length ∧ Q p.block ∧ Rd w p (ss.map slV) ∧
    ∀ i, i < xss.length → Src w (ss.getD i nilS) (ints .u8 (xss.getD i [])) ∧ ∀ q, (ss.getD i nilS).a = some q → xss.getD i [] ≠ [] → Q q.block ∧ q.block < w.heap.size

theorem Parts.upd {w w' : World} {s : Sl} {xss : List (List Int)} {Q S : Nat → Prop} (h : Parts w s xss Q) (u : Upd S w w') (hn : ∀ k, Q k → ¬ S k) : Parts w' s xss Q :=
  ⟨h.len, h.cap, h.inn, h.lens, h.many, h.rd.imp id fun ⟨p, ss, h1, h2, h3, h4, h5⟩ => ⟨p, ss, h1, h2, h3, h4.upd u fun _ => hn _ h3,
    fun i hi => ⟨src_updW (h5 i hi).1 u fun q hq hne => hn _ ((h5 i hi).2 q hq hne).1, fun q hq hne => ⟨((h5 i hi).2 q hq hne).1, Nat.lt_of_lt_of_le ((h5 i hi).2 q hq hne).2 u.size⟩⟩⟩⟩
theorem Parts.upd0 {w w' : World} {s : Sl} {xss : List (List Int)} {Q : Nat → Prop} (h : Parts w s xss Q) (u : Upd none_ w w') : Parts w' s xss Q := h.upd u fun _ _ => id
theorem Parts.mono {w : World} {s : Sl} {xss : List (List Int)} {Q R : Nat → Prop} (h : Parts w s xss Q) (hn : ∀ k, Q k → R k) : Parts w s xss R :=
  ⟨h.len, h.cap, h.inn, h.lens, h.many, h.rd.imp id fun ⟨p, ss, h1, h2, h3, h4, h5⟩ => ⟨p, ss, h1, h2, hn _ h3, h4, fun i hi => ⟨(h5 i hi).1, fun q hq hne => ⟨hn _ ((h5 i hi).2 q hq hne).1, ((h5 i hi).2 q hq hne).2⟩⟩⟩⟩

/-- A slice of slices of bytes that came in: of its empty parts nothing is known but that. -/
structure PartsW (w : World) (s : Sl) (xss : List (List Int)) (Q : Nat → Prop) : Prop where
  len : s.len = xss.length
  cap : s.len ≤ s.cap
  inn : ∀ xs ∈ xss, ∀ x ∈ xs, InK .u8 x
  lens : ∀ xs ∈ xss, xs.length ≤ 140737488351232
  many : xss.length * 24 ≤ 140737488351232
  rd : xss = [] ∨ ∃ (p : Addr) (ss : List Sl), s.a = some p ∧ ss.length = xss.length ∧ Q p.block ∧ Rd w p (ss.map slV) ∧
    ∀ i, i < xss.length → Src w (ss.getD i nilS) (ints .u8 (xss.getD i [])) ∧ ∀ q, (ss.getD i nilS).a = some q → xss.getD i [] ≠ [] → Q q.block

theorem src_upd {S : Nat → Prop} {w w' : World} {s : Sl} {vs : List Value} (h : Src w s vs) (u : Upd S w w') (hn : ∀ p, s.a = some p → vs ≠ [] → ¬ S p.block) : Src w' s vs :=
  ⟨h.len, h.cap, h.rd.imp id fun ⟨p, hp, hr⟩ => ⟨p, hp, hr.upd u fun hne => hn p hp hne⟩, h.one⟩

theorem ints_ne {κ : IntKind} {xs : List Int} (h : ints κ xs ≠ []) : xs ≠ [] := fun e => h (by rw [e]; rfl)

theorem PartsW.upd {w w' : World} {s : Sl} {xss : List (List Int)} {Q S : Nat → Prop} (h : PartsW w s xss Q) (u : Upd S w w') (hn : ∀ k, Q k → ¬ S k) : PartsW w' s xss Q :=
  ⟨h.len, h.cap, h.inn, h.lens, h.many, h.rd.imp id fun ⟨p, ss, h1, h2, h3, h4, h5⟩ => ⟨p, ss, h1, h2, h3, h4.upd u fun _ => hn _ h3,
    fun i hi => ⟨src_upd (h5 i hi).1 u fun q hq hne => hn _ ((h5 i hi).2 q hq (ints_ne hne)), (h5 i hi).2⟩⟩⟩
theorem PartsW.upd0 {w w' : World} {s : Sl} {xss : List (List Int)} {Q : Nat → Prop} (h : PartsW w s xss Q) (u : Upd none_ w w') : PartsW w' s xss Q := h.upd u fun _ _ => id
theorem Parts.weak {w : World} {s : Sl} {xss : List (List Int)} {Q : Nat → Prop} (h : Parts w s xss Q) : PartsW w s xss Q :=
  ⟨h.len, h.cap, h.inn, h.lens, h.many, h.rd.imp id fun ⟨p, ss, h1, h2, h3, h4, h5⟩ => ⟨p, ss, h1, h2, h3, h4, fun i hi => ⟨(h5 i hi).1, fun q hq hne => ((h5 i hi).2 q hq hne).1⟩⟩⟩

theorem PartsW.at {w : World} {s : Sl} {xss : List (List Int)} {Q : Nat → Prop} (h : PartsW w s xss Q) {i : Nat} (hi : i < xss.length) :
    ∃ p t, s.a = some p ∧ ldS (p.add i) w = some t ∧ Src w t (ints .u8 (xss.getD i [])) ∧ t.len = (xss.getD i []).length ∧ (xss.getD i []).length ≤ 140737488351232 ∧ ∀ x ∈ xss.getD i [], InK .u8 x := by
  rcases h.rd with e | ⟨p, ss, h1, h2, h3, h4, h5⟩
  · rw [e] at hi; simp at hi
  · have hm : xss.getD i [] ∈ xss := by rw [List.getD_eq_getElem?_getD, List.getElem?_eq_getElem hi]; exact List.getElem_mem hi
    have hs := (h5 i hi).1
    exact ⟨p, _, h1, ldS_rd h4 (by omega), hs, by rw [hs.len, ints_length], h.lens _ hm, h.inn _ hm⟩

/-- the part at i -/
theorem Parts.at {w : World} {s : Sl} {xss : List (List Int)} {Q : Nat → Prop} (h : Parts w s xss Q) {i : Nat} (hi : i < xss.length) :
    ∃ p t, s.a = some p ∧ ldS (p.add i) w = some t ∧ Src w t (ints .u8 (xss.getD i [])) ∧ (∀ q, t.a = some q → xss.getD i [] ≠ [] → Q q.block ∧ q.block < w.heap.size) ∧ t.len = (xss.getD i []).length ∧ (xss.getD i []).length ≤ 140737488351232 ∧ ∀ x ∈ xss.getD i [], InK .u8 x := by
  rcases h.rd with e | ⟨p, ss, h1, h2, h3, h4, h5⟩
  · rw [e] at hi; simp at hi
  · have hm : xss.getD i [] ∈ xss := by rw [List.getD_eq_getElem?_getD, List.getElem?_eq_getElem hi]; exact List.getElem_mem hi
    have hs := (h5 i hi).1
    exact ⟨p, _, h1, ldS_rd h4 (by omega), hs, (h5 i hi).2, by rw [hs.len, ints_length], h.lens _ hm, h.inn _ hm⟩

theorem drop_getD {α : Type} {l : List α} {i : Nat} (hi : i < l.length) (d : α) : l.drop i = l.getD i d :: l.drop (i + 1) := by
  rw [List.drop_eq_getElem_cons hi, List.getD_eq_getElem?_getD, List.getElem?_eq_getElem hi]; rfl

/-- how many bytes they are, or more than MaxFed -/
def totB (acc : Nat) : List (List Int) → Nat
  | [] => acc
  | xs :: r => if acc + xs.length > 33554432 then acc + xs.length else totB (acc + xs.length) r

theorem totB_le : ∀ (xss : List (List Int)) (acc : Nat), acc ≤ 33554432 → (totB acc xss ≤ 33554432 ↔ acc + xss.flatten.length ≤ 33554432) ∧ (totB acc xss ≤ 33554432 → totB acc xss = acc + xss.flatten.length)
  | [], acc, h => by simp [totB, h]
  | xs :: r, acc, h => by
    unfold totB
    rw [List.flatten_cons, List.length_append]
    split
    · constructor
      · constructor <;> intro _ <;> omega
      · intro _; omega
    · have := totB_le r (acc + xs.length) (by omega)
      rw [← Nat.add_assoc]; exact this

theorem totB_lt : ∀ (xss : List (List Int)) (acc : Nat), acc ≤ 33554432 → (∀ xs ∈ xss, xs.length ≤ 140737488351232) → totB acc xss ≤ 140737521905664
  | [], acc, h, _ => by simp only [totB]; omega
  | xs :: r, acc, h, hl => by
    have h0 := hl xs (List.mem_cons_self ..)
    unfold totB
    split
    · omega
    · exact totB_lt r _ (by omega) fun x hx => hl x (List.mem_cons_of_mem _ hx)

theorem total_loop (K : Nat) {s : Sl} {xss : List (List Int)} {Q : Nat → Prop} {w : World} (h : Parts w s xss Q) :
    ∀ (d i n acc : Nat), i + d = xss.length → d < n → acc ≤ 33554432 → digest_total_l0 K n (acc : Int) s ((s.len : Nat) : Int) (i : Int) w = some (.norm (((totB acc (xss.drop i) : Nat) : Int), ())) := by
  intro d
  have hm := h.many
  induction d with
  | zero =>
    intro i n acc hi hn ha
    obtain ⟨n, rfl⟩ : ∃ m, n = m + 1 := ⟨n - 1, by omega⟩
    have hd : decide ((i : Int) < ((s.len : Nat) : Int)) = false := by rw [h.len]; simp; omega
    show digest_total_l0_b K w (fun a b c d => digest_total_l0 K n a b c d w) (acc : Int) s ((s.len : Nat) : Int) (i : Int) = _
    unfold digest_total_l0_b
    rw [hd, if_neg (by decide), List.drop_eq_nil_of_le (by omega)]
    rfl
  | succ d ih =>
    intro i n acc hi hn ha
    obtain ⟨n, rfl⟩ : ∃ m, n = m + 1 := ⟨n - 1, by omega⟩
    have hd : decide ((i : Int) < ((s.len : Nat) : Int)) = true := by rw [h.len]; simp; omega
    obtain ⟨p, t, h1, h2, h3, h4, h5, h6, h7⟩ := h.at (i := i) (by omega)
    have c : (0 : Int) ≤ (i : Int) ∧ (i : Int) < ((s.len : Nat) : Int) := by rw [h.len]; omega
    have e1 : IntKind.i64.wrap ((i : Int) + 1) = ((i + 1 : Nat) : Int) := by rw [w64 (by omega) (by omega)]; rfl
    have e2 : IntKind.i64.wrap ((acc : Int) + (((xss.getD i []).length : Nat) : Int)) = ((acc + (xss.getD i []).length : Nat) : Int) := by rw [w64 (by omega) (by omega)]; rfl
    show digest_total_l0_b K w (fun a b c d => digest_total_l0 K n a b c d w) (acc : Int) s ((s.len : Nat) : Int) (i : Int) = _
    unfold digest_total_l0_b
    rw [hd, if_pos rfl, h1, Option.bind_some, if_pos c, Int.toNat_natCast, Nat.mul_one, h2, Option.bind_some, h5, e2, e1, drop_getD (by omega) []]
    unfold totB
    by_cases hb : acc + (xss.getD i []).length > 33554432
    · have hd2 : decide (((acc + (xss.getD i []).length : Nat) : Int) > 33554432) = true := by simp only [decide_eq_true_eq]; omega
      rw [hd2, if_pos rfl, if_pos hb]
    · have hd2 : decide (((acc + (xss.getD i []).length : Nat) : Int) > 33554432) = false := by simp only [decide_eq_false_iff_not]; omega
      rw [hd2, if_neg (by decide), if_neg hb]
      exact ih (i + 1) n _ (by omega) (by omega) (by omega)

theorem total_ok {K : Nat} (hK : 18446744073709551616 ≤ K) {s : Sl} {xss : List (List Int)} {Q : Nat → Prop} {w : World} (h : Parts w s xss Q) :
    digest_total K s w = some (((totB 0 xss : Nat) : Int), ()) := by
  have hm := h.many
  have hl := total_loop K h xss.length 0 K 0 (by omega) (by omega) (by omega)
  rw [List.drop_zero] at hl
  have hl : digest_total_l0 K K 0 s ((s.len : Nat) : Int) 0 w = _ := hl
  unfold digest_total
  rw [hl, Option.bind_some]

/-- joined, up to some length -/
def jn (acc : List Int) : List (List Int) → List Int
  | [] => acc
  | xs :: r => if acc.length ≤ 65536 then jn (acc ++ xs) r else acc

theorem jn_big (xss : List (List Int)) (acc : List Int) (h : ¬ acc.length ≤ 65536) : jn acc xss = acc := by
  cases xss with
  | nil => rfl
  | cons x r => unfold jn; rw [if_neg h]

theorem jn_le : ∀ (xss : List (List Int)) (acc : List Int), (jn acc xss).length ≤ 65536 → jn acc xss = acc ++ xss.flatten
  | [], acc, h => by simp [jn]
  | xs :: r, acc, h => by
    unfold jn at h ⊢
    split at h
    · rename_i hc
      rw [if_pos hc, jn_le r _ h]; simp
    · omega

end Go.Sh

/- Sum of package digest: Write and Sum of a stream, whole. -/
set_option linter.unusedVariables false
namespace Go.Sh
open Go.Fw Go.Sha Go.RowKit Go.Proofs.Tryd

/-- The tables of the program. -/
structure Tabs (w : World) (C S : List Int) : Prop where
  cl : C.length = 80
  sl : S.length = 16
  sin : ∀ i, InK .u64 (S.getD i 0)
  gc : Rd w ⟨0, 0, none⟩ (ints .u64 C)
  gs : Rd w ⟨3, 0, none⟩ (ints .u64 S)

theorem Tabs.upd {w w' : World} {C S : List Int} {X : Nat → Prop} (t : Tabs w C S) (u : Upd X w w') (hn : ∀ k, k < 4 → ¬ X k) : Tabs w' C S :=
  ⟨t.cl, t.sl, t.sin, t.gc.upd u fun _ => hn _ (by decide), t.gs.upd u fun _ => hn _ (by decide)⟩
theorem Tabs.upd0 {w w' : World} {C S : List Int} (t : Tabs w C S) (u : Upd none_ w w') : Tabs w' C S := t.upd u fun _ _ => id
theorem Tabs.drew {w : World} {C S : List Int} (t : Tabs w C S) : Tabs w.drew C S := t.upd0 (Upd.refl _ _).drew
theorem Tabs.lt {w : World} {C S : List Int} (t : Tabs w C S) : 4 ≤ w.heap.size := by
  have := t.gs.lt (fun e => by have := congrArg List.length e; simp [t.sl] at this)
  have : 3 < w.heap.size := this
  omega

/-- The tables of the program and of the document's answer. -/
structure TabsR (w : World) (C S : List Int) : Prop where
  to : Tabs w C S
  rc : Rd w ⟨2, 0, none⟩ (ints .u64 C)
  rs : Rd w ⟨1, 0, none⟩ (ints .u64 S)

theorem TabsR.upd {w w' : World} {C S : List Int} {X : Nat → Prop} (t : TabsR w C S) (u : Upd X w w') (hn : ∀ k, k < 4 → ¬ X k) : TabsR w' C S :=
  ⟨t.to.upd u hn, t.rc.upd u fun _ => hn _ (by decide), t.rs.upd u fun _ => hn _ (by decide)⟩
theorem TabsR.upd0 {w w' : World} {C S : List Int} (t : TabsR w C S) (u : Upd none_ w w') : TabsR w' C S := t.upd u fun _ _ => id
theorem TabsR.lt {w : World} {C S : List Int} (t : TabsR w C S) : 4 ≤ w.heap.size := t.to.lt

/-- the digest of bytes; nothing of no such digest -/
def sumOf (C S : List Int) (h : Int) (xs : List Int) : List Int := if known h = true then digestOf h C (firstH S h) xs else []

theorem Write_loop {K : Nat} (hK : 18446744073709551616 ≤ K) {e : TypeId} {g : Nat} {cs0 : List Value} {h : Int} (hk : known h = true) {C H0 : List Int} (hC : C.length = 80) (hgC : g ≠ 0) {s : Sl} {xss : List (List Int)} {Q : Nat → Prop} (hQ : ¬ Q g) :
    ∀ (d i n : Nat) (w : World) (xs H half : List Int), i + d = xss.length → d < n → StAt w e g 0 cs0 h xs.length H half → Fed h C H0 xs H half → Rd w ⟨0, 0, none⟩ (ints .u64 C) → Parts w s xss Q → xs.length + (xss.drop i).flatten.length ≤ 140737488355328 →
      ∃ w' H' half', digest_Stream_Write_l0 K n (some ⟨g, 0, none⟩) s ((s.len : Nat) : Int) (i : Int) w = some ((), w') ∧ StAt w' e g 0 cs0 h (xs ++ (xss.drop i).flatten).length H' half' ∧ Fed h C H0 (xs ++ (xss.drop i).flatten) H' half' ∧ Upd (· = g) w w' := by
  intro d
  induction d with
  | zero =>
    intro i n w xs H half hi hn st f hT hp hl
    obtain ⟨n, rfl⟩ : ∃ m, n = m + 1 := ⟨n - 1, by omega⟩
    have hd : decide ((i : Int) < ((s.len : Nat) : Int)) = false := by rw [hp.len]; simp; omega
    have e0 : xs ++ (xss.drop i).flatten = xs := by rw [List.drop_eq_nil_of_le (by omega)]; simp
    refine ⟨w, H, half, ?_, by rw [e0]; exact st, by rw [e0]; exact f, Upd.refl _ _⟩
    show digest_Stream_Write_l0_b K (digest_Stream_Write_l0 K n) (some ⟨g, 0, none⟩) s ((s.len : Nat) : Int) (i : Int) w = _
    unfold digest_Stream_Write_l0_b
    rw [hd, if_neg (by decide)]
  | succ d ih =>
    intro i n w xs H half hi hn st f hT hp hl
    obtain ⟨n, rfl⟩ : ∃ m, n = m + 1 := ⟨n - 1, by omega⟩
    have hm := hp.many
    have hd : decide ((i : Int) < ((s.len : Nat) : Int)) = true := by rw [hp.len]; simp; omega
    obtain ⟨p, t, h1, h2, h3, h4, h5, h6, h7⟩ := hp.at (i := i) (by omega)
    have c : (0 : Int) ≤ (i : Int) ∧ (i : Int) < ((s.len : Nat) : Int) := by rw [hp.len]; omega
    have e1 : IntKind.i64.wrap ((i : Int) + 1) = ((i + 1 : Nat) : Int) := by rw [w64 (by omega) (by omega)]; rfl
    have hdr : (xss.drop i).flatten = xss.getD i [] ++ (xss.drop (i + 1)).flatten := by rw [drop_getD (by omega) [], List.flatten_cons]
    rw [hdr, List.length_append] at hl
    obtain ⟨w1, H1, half1, a1, a2, a3, a4⟩ := take_ok hK hk st f hC hgC hT h7 (by omega) h3 (fun q hq hne e => hQ (e ▸ (h4 q hq hne).1)) (fun q hq hne => (h4 q hq hne).2)
    obtain ⟨w2, H2, half2, b1, b2, b3, b4⟩ := ih (i + 1) n w1 (xs ++ xss.getD i []) H1 half1 (by omega) (by omega) a2 a3 (hT.upd a4 fun _ e => hgC e.symm) (hp.upd a4 fun k hk e => hQ (e ▸ hk)) (by rw [List.length_append]; omega)
    rw [List.append_assoc, ← hdr] at b2 b3
    refine ⟨w2, H2, half2, ?_, b2, b3, a4.trans' b4 fun _ _ e => e⟩
    show digest_Stream_Write_l0_b K (digest_Stream_Write_l0 K n) (some ⟨g, 0, none⟩) s ((s.len : Nat) : Int) (i : Int) w = _
    unfold digest_Stream_Write_l0_b
    rw [hd, if_pos rfl, h1, Option.bind_some, if_pos c, Int.toNat_natCast, Nat.mul_one, h2, Option.bind_some, Option.bind_some, add_lit, Nat.add_zero, a1, bnd_ok, e1, b1]

theorem tot_wrap {xss : List (List Int)} (hl : ∀ xs ∈ xss, xs.length ≤ 140737488351232) {n : Nat} (hn : n ≤ 33554432) : IntKind.u64.wrap ((n : Int) + IntKind.u64.wrap ((totB 0 xss : Nat) : Int)) = ((n + totB 0 xss : Nat) : Int) := by
  have := totB_lt xss 0 (by omega) hl
  rw [IntKind.wrap_u64, IntKind.wrap_u64]; omega

theorem Write_ok {K : Nat} (hK : 18446744073709551616 ≤ K) {w : World} {e : TypeId} {g : Nat} {cs0 : List Value} {h : Int} (hk : known h = true) {C H0 xs H half : List Int} (hC : C.length = 80) (hgC : g ≠ 0) (st : StAt w e g 0 cs0 h xs.length H half) (f : Fed h C H0 xs H half)
    (hT : Rd w ⟨0, 0, none⟩ (ints .u64 C)) {s : Sl} {xss : List (List Int)} {Q : Nat → Prop} (hQ : ¬ Q g) (hp : Parts w s xss Q) (hl : xs.length + xss.flatten.length ≤ 33554432) :
    ∃ w' H' half', digest_Stream_Write K (some ⟨g, 0, none⟩) s w = some ((0, ()), w') ∧ StAt w' e g 0 cs0 h (xs ++ xss.flatten).length H' half' ∧ Fed h C H0 (xs ++ xss.flatten) H' half' ∧ Upd (· = g) w w' := by
  obtain ⟨l1, l5, l3⟩ := st.drew.ld hk
  have hpd := hp.upd0 (Upd.refl none_ w).drew
  have ht := total_ok hK hpd
  obtain ⟨w2, H2, half2, b1, b2, b3, b4⟩ := Write_loop hK hk hC hgC hQ xss.length 0 K w.drew xs H half (by omega) (by have := hp.many; omega) st.drew f (hT.upd (S := none_) (Upd.refl _ _).drew fun _ => id) hpd (by rw [List.drop_zero]; omega)
  rw [List.drop_zero] at b2 b3
  have b1 : digest_Stream_Write_l0 K K (some ⟨g, 0, none⟩) s ((s.len : Nat) : Int) 0 w.drew = _ := b1
  have htl := totB_le xss 0 (by omega)
  have h1 : totB 0 xss ≤ 33554432 := htl.1.2 (by omega)
  have h2 := htl.2 h1
  have hd : decide (((xs.length + totB 0 xss : Nat) : Int) > 33554432) = false := by simp only [decide_eq_false_iff_not]; omega
  refine ⟨w2, H2, half2, ?_, b2, b3, b4.predrew⟩
  unfold digest_Stream_Write
  rw [if_neg (by simp), Option.bind_some, add_lit, add_lit, l5, Option.bind_some, ht, Option.bind_some]
  dsimp only
  rw [tot_wrap hp.lens (by omega), hd, if_neg (by decide), b1, bnd_ok]

theorem Write_long {K : Nat} (hK : 18446744073709551616 ≤ K) {w : World} {e : TypeId} {g : Nat} {cs0 : List Value} {h : Int} (hk : known h = true) {n : Nat} {H half : List Int} (st : StAt w e g 0 cs0 h n H half) (hn : n ≤ 33554432)
    {s : Sl} {xss : List (List Int)} {Q : Nat → Prop} (hp : Parts w s xss Q) (hl : ¬ n + xss.flatten.length ≤ 33554432) :
    digest_Stream_Write K (some ⟨g, 0, none⟩) s w = some ((4, ()), w.drew) := by
  obtain ⟨l1, l5, l3⟩ := st.drew.ld hk
  have ht := total_ok hK (hp.upd0 (Upd.refl none_ w).drew)
  have htl := totB_le xss 0 (by omega)
  have h1 : ¬ n + totB 0 xss ≤ 33554432 := fun e => by have := htl.2 (by omega); omega
  have hd : decide (((n + totB 0 xss : Nat) : Int) > 33554432) = true := by simp only [decide_eq_true_eq]; omega
  unfold digest_Stream_Write
  rw [if_neg (by simp), Option.bind_some, add_lit, add_lit, l5, Option.bind_some, ht, Option.bind_some]
  dsimp only
  rw [tot_wrap hp.lens hn, hd, if_pos rfl]

theorem Ans.mono {B B' : Nat} {w : World} {s : Sl} {zs : List Int} (h : Ans B w s zs) (hb : B' ≤ B) : Ans B' w s zs := by
  obtain ⟨⟨g, cs, h1, h2, h3⟩, h4, h5⟩ := h
  exact ⟨⟨g, cs, h1, by omega, h3⟩, h4, h5⟩
theorem Ans.upd {B : Nat} {w w' : World} {s : Sl} {zs : List Int} {X : Nat → Prop} (h : Ans B w s zs) (u : Upd X w w') (hn : ∀ k, s.blk = some k → ¬ X k) : Ans B w' s zs := by
  obtain ⟨⟨g, cs, h1, h2, h3, h6⟩, h4, h5⟩ := h
  exact ⟨⟨g, cs, h1, h2, h3.upd u (hn g (by simp [Sl.blk, h1])), h6⟩, h4, h5⟩
theorem Ans.upd0 {B : Nat} {w w' : World} {s : Sl} {zs : List Int} (h : Ans B w s zs) (u : Upd none_ w w') : Ans B w' s zs := h.upd u fun _ _ => id
theorem Ans.src {B : Nat} {w : World} {s : Sl} {zs : List Int} (h : Ans B w s zs) : Src w s (ints .u8 zs) := by
  obtain ⟨⟨g, cs, h1, h2, h3, h4, h5⟩, h6, h7⟩ := h
  refine ⟨by rw [ints_length]; exact h6, by omega, .inr ⟨_, h1, h3.rd 0 _ fun i v hv => ?_⟩, ints_one⟩
  rw [← h4, List.getElem?_take] at hv
  split at hv
  · rw [Nat.zero_add]; exact hv
  · cases hv
theorem Ans.rd {B : Nat} {w : World} {s : Sl} {zs : List Int} (h : Ans B w s zs) : RdS .u8 w s zs := h.src.rds
theorem Ans.vw {B : Nat} {w : World} {s : Sl} {zs : List Int} (h : Ans B w s zs) (hm : zs.length ≤ 65536) : Vw 5 w s (ints .u8 zs) := by
  obtain ⟨⟨g, cs, h1, h2, h3, h4, h5⟩, h6, h7⟩ := h
  refine ⟨by rw [ints_length]; exact h6.symm, .inr ⟨g, 0, cs, h1, h3, by omega, by simp only [maxLen]; omega, by omega, ?_⟩⟩
  rw [List.drop_zero, h6]; exact h4
theorem Ans.fresh {B : Nat} {w : World} {s : Sl} {zs : List Int} (h : Ans B w s zs) : Fresh B s := by
  obtain ⟨⟨g, cs, h1, h2, h3⟩, _⟩ := h
  intro k hk
  simp [Sl.blk, h1] at hk; omega
theorem Ans.lt {B : Nat} {w : World} {s : Sl} {zs : List Int} (h : Ans B w s zs) {k : Nat} (hk : s.blk = some k) : k < w.heap.size := by
  obtain ⟨⟨g, cs, h1, h2, h3, _⟩, _⟩ := h
  simp [Sl.blk, h1] at hk; have := h3.lt; omega

theorem StreamSum_ok {K : Nat} (hK : 18446744073709551616 ≤ K) {w : World} {e : TypeId} {g : Nat} {cs0 : List Value} {h : Int} (hk : known h = true) {C H0 xs H half : List Int} (hC : C.length = 80) (st : StAt w e g 0 cs0 h xs.length H half) (f : Fed h C H0 xs H half)
    (hT : Rd w ⟨0, 0, none⟩ (ints .u64 C)) (hl : xs.length ≤ 1099511627776) :
    ∃ s' w', digest_Stream_Sum K (some ⟨g, 0, none⟩) w = some ((s', ()), w') ∧ Ans w.heap.size w' s' (digestOf h C H0 xs) ∧ Upd none_ w w' := by
  have hsl := stCells_len h xs.length st.words st.len
  have hrm := st.room
  have lA := st.bk.ldA (i := 0) (n := 142) (by rw [seg_length (by omega)]; omega)
  have e0 : ((seg cs0 0 (stCells h xs.length H half)).drop 0).take 142 = stCells h xs.length H half := by
    unfold seg
    rw [List.drop_zero, List.take_zero, List.nil_append, List.take_append_of_le_length (by omega), List.take_of_length_le (by omega)]
  rw [e0] at lA
  obtain ⟨s', w', h1, h2, h3⟩ := end_ok hK hk f st.words st.inn hC hT hl
  refine ⟨s', w', ?_, h2, h3⟩
  unfold digest_Stream_Sum
  rw [if_neg (by simp), Option.bind_some, add_lit, lA, Option.bind_some, h1, bnd_ok]

theorem half0_in : ∀ x ∈ half0, InK .u8 x := by
  intro x hx
  rw [(List.mem_replicate.1 hx).2]; exact ⟨by decide, by decide⟩

/-- a stream that was begun here -/
theorem New_st {K : Nat} (hK : 18446744073709551616 ≤ K) {h : Int} (hk : known h = true) {C S : List Int} {w : World} (T : Tabs w C S) :
    ∃ w' g, digest_New K h w = some ((some ⟨g, 0, none⟩, 0, ()), w') ∧ Upd none_ w w' ∧ w.heap.size ≤ g ∧ StAt w' 91 g 0 (stCells h 0 (firstH S h) half0) h ([] : List Int).length (firstH S h) half0 ∧ Fed h C (firstH S h) [] (firstH S h) half0 := by
  obtain ⟨w1, g, h1, h2, h3, h4⟩ := New_ok hK h T.sl T.sin T.gs
  rw [if_pos hk, if_pos hk] at h1
  refine ⟨w1, g, h1, h2, h3, ⟨?_, by rw [stCells_len h 0 (firstH_len S h) (List.length_replicate ..)]; decide, firstH_len S h, List.length_replicate .., half0_in⟩, Fed.start ..⟩
  have : seg (stCells h 0 (firstH S h) half0) 0 (stCells h ([] : List Int).length (firstH S h) half0) = stCells h 0 (firstH S h) half0 := seg_self
  rw [this]; exact h4 hk

theorem Sum_ok {K : Nat} (hK : 18446744073709551616 ≤ K) {h : Int} (hk : known h = true) {C S : List Int} {w : World} (T : Tabs w C S) {s : Sl} {xss : List (List Int)} {Q : Nat → Prop} (hp : Parts w s xss Q) (hQ : ∀ k, Q k → k < w.heap.size) (hl : xss.flatten.length ≤ 33554432) :
    ∃ s' w', digest_Sum K h s w = some ((s', 0, ()), w') ∧ Ans w.heap.size w' s' (digestOf h C (firstH S h) xss.flatten) ∧ Upd none_ w w' := by
  have h4 := T.lt
  obtain ⟨w1, g, h1, u1, hg, st, f⟩ := New_st hK hk T
  have T1 := T.upd0 u1
  obtain ⟨w2, H2, half2, h2, st2, f2, u2⟩ := Write_ok hK hk T.cl (by omega) st f T1.gc (fun e => by have := hQ g e; omega) (hp.upd0 u1) (by simpa using hl)
  have T2 := T1.upd u2 (fun k hk e => by omega)
  rw [List.nil_append] at st2 f2
  obtain ⟨s3, w3, h3, a3, u3⟩ := StreamSum_ok hK hk T.cl st2 f2 T2.gc (by omega)
  have hs1 := u1.size
  have hs2 := u2.size
  refine ⟨s3, w3, ?_, a3.mono (by omega), (u1.trans' u2 fun k hk e => by omega).and0 u3⟩
  unfold digest_Sum digest_Sum_s0
  rw [h1, bnd_ok]
  dsimp only
  rw [if_pos (by decide), h2, bnd_ok, bnd_ok]
  dsimp only
  rw [if_neg (by decide), h3, bnd_ok]

theorem Sum_none {K : Nat} (hK : 18446744073709551616 ≤ K) {h : Int} (hk : known h = false) {C S : List Int} {w : World} (T : Tabs w C S) (s : Sl) :
    ∃ w', digest_Sum K h s w = some ((⟨none, 0, 0⟩, 10, ()), w') ∧ Upd none_ w w' := by
  obtain ⟨w1, g, h1, h2, h3, h4⟩ := New_ok hK h T.sl T.sin T.gs
  rw [hk, if_neg (by decide), if_neg (by decide)] at h1
  refine ⟨w1, ?_, h2⟩
  unfold digest_Sum digest_Sum_s0
  rw [h1, bnd_ok]
  dsimp only
  rw [if_neg (by decide), bnd_ok]
  dsimp only
  rw [if_pos (by decide)]

end Go.Sh

/- The document's answer's Sum, whole: it is the digest that the program tells. -/
set_option linter.unusedVariables false
namespace Go.Sh
open Go.Fw Go.Sha Go.RowKit Go.Proofs.Tryd

theorem padZ_iff {b len j : Nat} (hb : b = 64 ∨ b = 128) (hj : j ≤ padZ b (b / 8) len) : (len + 1 + j + b / 8) % b = 0 ↔ j = padZ b (b / 8) len := by
  unfold padZ at *
  rcases hb with rfl | rfl <;> omega

theorem laid_l0 (K B : Nat) {b0 : Sl} {bk : Nat} (hb : bk = 64 ∨ bk = 128) {len0 : Nat} (hl0 : len0 ≤ 1099511627776) {zs : List Int} (hz : zs.length = len0 + 1) :
    ∀ (d j n : Nat) (w : World) (p : Sl), j + d = padZ bk (bk / 8) len0 → d < n → OwnS 5 w p (ints .u8 (zs ++ List.replicate j 0)) → B ≤ w.heap.size → Fresh B p →
      ∃ p' w', ref01_laid_l0 K n b0 (bk : Int) p w = some ((p', ()), w') ∧ OwnS 5 w' p' (ints .u8 (zs ++ List.replicate (padZ bk (bk / 8) len0) 0)) ∧ Below B w w' ∧ Fresh B p' := by
  have hzl := padZ_lt (m := bk / 8) (len := len0) hb
  have hbk : bk ≤ 128 := by omega
  have e0 : IntKind.i64.wrap (Int.tdiv (bk : Int) 8) = ((bk / 8 : Nat) : Int) := by rw [show (8 : Int) = ((8 : Nat) : Int) from rfl, tdiv_nat, wn64 (by omega)]
  intro d
  induction d with
  | zero =>
    intro j n w p hj hn ho hB hf
    obtain ⟨n, rfl⟩ : ∃ m, n = m + 1 := ⟨n - 1, by omega⟩
    have hpl : p.len = len0 + 1 + j := by rw [ho.len, ints_length, List.length_append, List.length_replicate]; omega
    have e1 : IntKind.i64.wrap (((p.len : Nat) : Int) + ((bk / 8 : Nat) : Int)) = ((len0 + 1 + j + bk / 8 : Nat) : Int) := by rw [hpl, w64 (by omega) (by omega)]; omega
    have hd : (Int.tmod ((len0 + 1 + j + bk / 8 : Nat) : Int) (bk : Int) != 0) = false := by
      rw [tmod_nat]
      have := (padZ_iff hb (by omega)).2 (show j = padZ bk (bk / 8) len0 by omega)
      rw [this]; rfl
    refine ⟨p, w, ?_, by rw [show padZ bk (bk / 8) len0 = j by omega]; exact ho, Below.refl B w, hf⟩
    show ref01_laid_l0_b K (ref01_laid_l0 K n) b0 (bk : Int) p w = _
    unfold ref01_laid_l0_b
    rw [if_pos (by omega), e0, e1, hd, if_neg (by decide)]
  | succ d ih =>
    intro j n w p hj hn ho hB hf
    obtain ⟨n, rfl⟩ : ∃ m, n = m + 1 := ⟨n - 1, by omega⟩
    have hpl : p.len = len0 + 1 + j := by rw [ho.len, ints_length, List.length_append, List.length_replicate]; omega
    have e1 : IntKind.i64.wrap (((p.len : Nat) : Int) + ((bk / 8 : Nat) : Int)) = ((len0 + 1 + j + bk / 8 : Nat) : Int) := by rw [hpl, w64 (by omega) (by omega)]; omega
    have hd : (Int.tmod ((len0 + 1 + j + bk / 8 : Nat) : Int) (bk : Int) != 0) = true := by
      rw [tmod_nat]
      have := (padZ_iff hb (show j ≤ padZ bk (bk / 8) len0 by omega)).1
      simp only [bne_iff_ne, ne_eq]
      intro e
      have := this (by omega)
      omega
    obtain ⟨w1, s2, w2, h1, h2, o2, l2, bl2, hf2⟩ := push1 0 ho (by omega) hB hf
    have er : zs ++ List.replicate j 0 ++ [(0 : Int)] = zs ++ List.replicate (j + 1) 0 := by rw [List.append_assoc, List.replicate_succ']
    rw [er] at o2
    obtain ⟨s3, w3, h3, o3, bl3, hf3⟩ := ih (j + 1) n w2 s2 (by omega) (by omega) o2 (by have := bl2.size; omega) hf2
    refine ⟨s3, w3, ?_, o3, bl2.trans bl3, hf3⟩
    show ref01_laid_l0_b K (ref01_laid_l0 K n) b0 (bk : Int) p w = _
    unfold ref01_laid_l0_b
    rw [if_pos (by omega), e0, e1, hd, if_pos rfl, h1, bnd_ok]
    show bnd (apd prog 22 22 (.slice p.a p.len p.cap) (.slice (some ⟨w.heap.size, 0, none⟩) 1 1) w1) _ = _
    rw [h2, bnd_ok, h3]

/-- the number of bits, in so many bytes -/
def tailB (x : Int) : Nat → List Int
  | 0 => []
  | n + 1 => (if n ≥ 8 then 0 else IntKind.u8.wrap (Int.fdiv x (2 ^ (8 * n)))) :: tailB x n

theorem tailB_len (x : Int) : ∀ n, (tailB x n).length = n
  | 0 => rfl
  | n + 1 => by simp [tailB, tailB_len x n]
theorem tailB_8 (x : Int) : tailB x 8 = bigB x 8 := rfl
theorem tailB_16 (x : Int) : tailB x 16 = List.replicate 8 0 ++ bigB x 8 := rfl

theorem laid_l1 (K B : Nat) {bits : Int} : ∀ (m n : Nat) (w : World) (p : Sl) (xs : List Int), m ≤ 16 → m < n → OwnS 5 w p (ints .u8 xs) → p.len + m ≤ 140737488355328 → B ≤ w.heap.size → Fresh B p →
    ∃ p' w', ref01_laid_l1 K n p bits ((m : Int) - 1) w = some ((p', ()), w') ∧ OwnS 5 w' p' (ints .u8 (xs ++ tailB bits m)) ∧ Below B w w' ∧ Fresh B p' := by
  intro m
  induction m with
  | zero =>
    intro n w s xs hm hn ho hs hB hf
    obtain ⟨n, rfl⟩ : ∃ k, n = k + 1 := ⟨n - 1, by omega⟩
    refine ⟨s, w, ?_, by simpa [tailB] using ho, Below.refl B w, hf⟩
    show ref01_laid_l1_b K (ref01_laid_l1 K n) s bits (((0 : Nat) : Int) - 1) w = _
    simp [ref01_laid_l1_b]
  | succ m ih =>
    intro n w s xs hm hn ho hs hB hf
    obtain ⟨n, rfl⟩ : ∃ k, n = k + 1 := ⟨n - 1, by omega⟩
    have e0 : (((m + 1 : Nat) : Int) - 1) = (m : Int) := by omega
    have hd : decide ((m : Int) ≥ 0) = true := by simp
    have e8 : IntKind.u64.wrap (IntKind.i64.wrap (8 * (m : Int))) = ((8 * m : Nat) : Int) := by rw [w64 (by omega) (by omega), IntKind.wrap_u64]; omega
    have e1 : IntKind.i64.wrap ((m : Int) - 1) = (m : Int) - 1 := w64 (by omega) (by omega)
    obtain ⟨w1, s2, w2, h1, h2, o2, l2, bl2, hf2⟩ := push1 (if m ≥ 8 then 0 else IntKind.u8.wrap (Int.fdiv bits (2 ^ (8 * m)))) ho (by omega) hB hf
    obtain ⟨s3, w3, h3, o3, bl3, hf3⟩ := ih n w2 s2 _ (by omega) (by omega) o2 (by omega) (by have := bl2.size; omega) hf2
    refine ⟨s3, w3, ?_, by simpa [tailB] using o3, bl2.trans bl3, hf3⟩
    show ref01_laid_l1_b K (ref01_laid_l1 K n) s bits (((m + 1 : Nat) : Int) - 1) w = _
    unfold ref01_laid_l1_b
    rw [e0, hd, if_pos rfl]
    by_cases h8 : m ≥ 8
    · have hd8 : decide ((m : Int) ≥ 8) = true := by simp; omega
      rw [if_pos h8] at h1
      rw [hd8, if_pos rfl, h1, bnd_ok]
      show bnd (apd prog 22 22 (.slice s.a s.len s.cap) (.slice (some ⟨w.heap.size, 0, none⟩) 1 1) w1) _ = _
      rw [h2, bnd_ok, e1, h3]
    · have hd8 : decide ((m : Int) ≥ 8) = false := by simp; omega
      have hmin : min (8 * m) IntKind.u64.bits = 8 * m := Nat.min_eq_left (by simp only [IntKind.bits]; omega)
      rw [if_neg h8] at h1
      rw [hd8, if_neg (by decide), e8, if_pos (Int.natCast_nonneg _), Int.toNat_natCast, hmin, h1, bnd_ok]
      show bnd (apd prog 22 22 (.slice s.a s.len s.cap) (.slice (some ⟨w.heap.size, 0, none⟩) 1 1) w1) _ = _
      rw [h2, bnd_ok, e1, h3]

theorem laid_ok {K : Nat} (hK : 18446744073709551616 ≤ K) {h : Int} (hk : known h = true) {w : World} {b : Sl} {xs : List Int} (hx : Src w b (ints .u8 xs)) (hl : xs.length ≤ 1099511627776) :
    ∃ p w', ref01_laid K b ((blk h : Nat) : Int) w = some ((p, ()), w') ∧ OwnS 5 w' p (ints .u8 (xs ++ pads h xs.length)) ∧ Upd none_ w w' ∧ Fresh w.heap.size p := by
  have hbl : b.len = xs.length := by rw [hx.len, ints_length]
  have hbk := known_blk hk
  have hwb := wordB_blk h
  have hzl := padZ_lt (m := blk h / 8) (len := xs.length) hbk
  obtain ⟨s1, w1, h1, l1, o1, u1, f1⟩ := apd_ok sliceB (OwnS.nil 5 w) hx (by show (0 + b.len) * 1 ≤ _; omega)
  rw [List.nil_append] at o1
  have h1 : apd prog 22 22 (.slice none 0 0) (.slice b.a b.len b.cap) w = some (s1, w1) := h1
  have u1' : Upd none_ w w1 := u1.mono fun k _ e => by cases e
  have hf1 : Fresh w.heap.size s1 := by
    intro k hk
    rcases f1 with e | e
    · rw [e] at hk; cases hk
    · rw [e] at hk; have := Option.some.inj hk; omega
  have l1 : s1.len = xs.length := by rw [o1.len, ints_length]
  obtain ⟨w2, s3, w3, h2, h3, o3, l3, bl3, hf3⟩ := push1 128 o1 (by omega) u1'.size hf1
  have hz : (xs ++ [(128 : Int)]).length = xs.length + 1 := by simp
  obtain ⟨s4, w4, h4, o4, bl4, hf4⟩ := laid_l0 K w.heap.size (b0 := b) hbk hl hz (padZ (blk h) (blk h / 8) xs.length) 0 K w3 s3 (by omega) (by omega) (by simpa using o3) (by have := bl3.size; have := u1'.size; omega) hf3
  have l4 : s4.len = xs.length + 1 + padZ (blk h) (blk h / 8) xs.length := by rw [o4.len, ints_length, List.length_append, List.length_replicate, hz]
  obtain ⟨s5, w5, h5, o5, bl5, hf5⟩ := laid_l1 K w.heap.size (bits := IntKind.u64.wrap (((xs.length : Nat) : Int) * 8)) (blk h / 8) K w4 s4 _ (by omega) (by omega) o4 (by omega) (by have := bl3.size; have := u1'.size; have := bl4.size; omega) hf4
  have b1 : Below w.heap.size w w1 := u1'.below (Nat.le_refl _) fun _ _ => id
  refine ⟨s5, w5, ?_, ?_, Upd.of_below (((b1.trans bl3).trans bl4).trans bl5), hf5⟩
  · have ed : IntKind.i64.wrap (Int.tdiv ((blk h : Nat) : Int) 8) = ((blk h / 8 : Nat) : Int) := by rw [show (8 : Int) = ((8 : Nat) : Int) from rfl, tdiv_nat, wn64 (by omega)]
    have em : IntKind.i64.wrap (((blk h / 8 : Nat) : Int) - 1) = ((blk h / 8 : Nat) : Int) - 1 := w64 (by omega) (by omega)
    have el : IntKind.u64.wrap ((b.len : Nat) : Int) = ((xs.length : Nat) : Int) := by rw [hbl, IntKind.wrap_u64]; omega
    unfold ref01_laid
    rw [h1, bnd_ok, h2, bnd_ok]
    dsimp only
    rw [h3, bnd_ok, h4, bnd_ok, ed, em, el, h5, bnd_ok]
  · have e8 : 2 * wordB h = blk h / 8 := by omega
    have : xs ++ pads h xs.length = xs ++ [128] ++ List.replicate (padZ (blk h) (blk h / 8) xs.length) 0 ++ tailB (IntKind.u64.wrap (((xs.length : Nat) : Int) * 8)) (blk h / 8) := by
      unfold pads
      rw [e8]
      rcases hbk with e | e <;> rw [e]
      · rw [show 64 / 8 = 8 from rfl, tailB_8]; simp [List.append_assoc]
      · rw [show 128 / 8 = 16 from rfl, tailB_16, show 16 - 8 = 8 from rfl, ← List.replicate_append_replicate]
        simp [List.append_assoc]
    rw [this]; exact o5

theorem refWide_l1 {K : Nat} (hK : 18446744073709551616 ≤ K) {p : Sl} {bs C : List Int} (hin : ∀ x ∈ bs, InK .u8 x) (hC : C.length = 80) {gh : Nat} (hgR : gh ≠ 2) (hlim : bs.length ≤ 140737488355328) {m0 : Nat} (hbs : bs.length = 128 * m0)
    (hpb : ∀ q, p.a = some q → q.block ≠ gh) {e : TypeId} :
    ∀ (m j n : Nat) (w : World) (V : List Int), m + j = m0 → m < n → V.length = 8 → (∀ q, p.a = some q → q.block < w.heap.size) → RdS .u8 w p bs → Bk e w gh (ints .u64 V) → Rd w ⟨2, 0, none⟩ (ints .u64 C) →
      ∃ w', ref01_Sum_l1 K n ⟨gh, 0, none⟩ p ((128 * j : Nat) : Int) w = some ((), w') ∧ Bk e w' gh (ints .u64 (comps64 C m V (bs.drop (128 * j)))) ∧ Upd (· = gh) w w' := by
  intro m
  induction m with
  | zero =>
    intro j n w V hj hn hV hpl hr hb hT
    obtain ⟨n, rfl⟩ : ∃ m, n = m + 1 := ⟨n - 1, by omega⟩
    refine ⟨w, ?_, hb, Upd.refl _ _⟩
    have hd : decide ((((128 * j : Nat)) : Int) < ((p.len : Nat) : Int)) = false := by rw [hr.len, hbs]; simp; omega
    show ref01_Sum_l1_b K (ref01_Sum_l1 K n) ⟨gh, 0, none⟩ p ((128 * j : Nat) : Int) w = _
    unfold ref01_Sum_l1_b
    rw [hd, if_neg (by decide)]
  | succ m ih =>
    intro j n w V hj hn hV hpl hr hb hT
    obtain ⟨n, rfl⟩ : ∃ m, n = m + 1 := ⟨n - 1, by omega⟩
    have hd : decide ((((128 * j : Nat)) : Int) < ((p.len : Nat) : Int)) = true := by rw [hr.len, hbs]; simp; omega
    have hpl2 := hr.len
    have hpc := hr.cap
    have e1 : IntKind.i64.wrap (((128 * j : Nat) : Int) + 128) = ((128 * (j + 1) : Nat) : Int) := by rw [w64 (by omega) (by omega)]; omega
    have c1 : (0 : Int) ≤ ((128 * (j + 1) : Nat) : Int) ∧ ((128 * (j + 1) : Nat) : Int) ≤ ((p.cap : Nat) : Int) := by omega
    have c2 : (0 : Int) ≤ ((128 * j : Nat) : Int) ∧ ((128 * j : Nat) : Int) ≤ ((128 * (j + 1) : Nat) : Int) := by omega
    have hsub := hr.drew.sub (lo := 128 * j) (hi := 128 * (j + 1)) (by omega) (by omega)
    have hl1 : ((bs.take (128 * (j + 1))).drop (128 * j)).length = 128 := by simp; omega
    have lA := hb.drew.ldA (i := 0) (n := 8) (by rw [ints_length, hV]; decide)
    rw [List.drop_zero, List.take_of_length_le (by rw [ints_length, hV]; decide)] at lA
    obtain ⟨w1, t1, u1⟩ := taken64_ok hK (V := V) (inD fun x hx => hin x (List.mem_of_mem_take (List.mem_of_mem_drop hx))) hl1 hV hC (fun q hq => by obtain ⟨r, hr1, hr2⟩ := sla_blk hq; have := hpl r hr1; rw [hr2]; exact this) hsub (hT.upd (S := none_) (Upd.refl _ _).drew fun _ => id)
    have hcl := comp64_len C V ((bs.take (128 * (j + 1))).drop (128 * j))
    obtain ⟨w2, s2, b2, u2⟩ := (hb.drew.upd0 u1).stA (o := 0) (vs := (ints .u64 (comp64 C V ((bs.take (128 * (j + 1))).drop (128 * j)))).toArray) (by rw [List.size_toArray, ints_length, ints_length, hcl, hV]; decide) (by simpa using ints_one)
    have b2 : Bk e w2 gh (ints .u64 (comp64 C V ((bs.take (128 * (j + 1))).drop (128 * j)))) := by
      have hs : seg (ints .u64 V) 0 (ints .u64 (comp64 C V ((bs.take (128 * (j + 1))).drop (128 * j)))) = ints .u64 (comp64 C V ((bs.take (128 * (j + 1))).drop (128 * j))) := seg_all (by rw [ints_length, ints_length, hcl, hV])
      rw [← hs]; exact b2
    have u12 : Upd (· = gh) w w2 := ((Upd.refl (· = gh) w).drew.and0 u1).trans' u2 fun _ _ e => e
    obtain ⟨w3, h3, b3, u3⟩ := ih (j + 1) n w2 _ (by omega) (by omega) hcl (fun q hq => by have := hpl q hq; have := u12.size; omega) (hr.upd u12 fun q hq => hpb q hq) b2 (hT.upd u12 fun _ e => hgR e.symm)
    have ec : comps64 C m (comp64 C V ((bs.take (128 * (j + 1))).drop (128 * j))) (bs.drop (128 * (j + 1))) = comps64 C (m + 1) V (bs.drop (128 * j)) := by
      have hf := compH_front 512 C V (bs.drop (128 * j)) 128 (by decide)
      have e5 : compH 512 C = comp64 C := by funext a b; rfl
      rw [e5] at hf
      show _ = comps64 C m (comp64 C V (bs.drop (128 * j))) ((bs.drop (128 * j)).drop 128)
      rw [List.drop_take, show 128 * (j + 1) - 128 * j = 128 by omega, hf, List.drop_drop, show 128 * j + 128 = 128 * (j + 1) by omega]
    rw [ec] at b3
    refine ⟨w3, ?_, b3, u12.trans' u3 fun _ _ e => e⟩
    show ref01_Sum_l1_b K (ref01_Sum_l1 K n) ⟨gh, 0, none⟩ p ((128 * j : Nat) : Int) w = _
    unfold ref01_Sum_l1_b
    rw [hd, if_pos rfl, e1, if_pos c1]
    simp only [Int.toNat_natCast]
    rw [if_pos c2, lA, Option.bind_some, t1, bnd_ok, if_pos (by rw [List.size_toArray, ints_length, hcl]), s2, Option.bind_some, h3]

theorem outW_take (H : List Int) (m : Nat) : ∀ k i, i ≤ k → (outW H m k).take (i * m) = outW H m i
  | 0, i, h => by have : i = 0 := by omega
                  subst this; simp [outW]
  | k + 1, i, h => by
    by_cases hk : i = k + 1
    · subst hk; rw [List.take_of_length_le (by rw [outW_len]; exact Nat.le_refl _)]
    · show ((outW H m k ++ bigB (H.getD k 0) m).take (i * m)) = _
      rw [List.take_append_of_le_length (by rw [outW_len]; exact Nat.mul_le_mul_right _ (by omega)), outW_take H m k i (by omega)]

theorem refOut_l3 (K B : Nat) {h : Int} {H : List Int} {gh : Nat} {e : TypeId} (hH : H.length = 8) (hgB : gh < B) {m0 i q : Nat} (hi : i < 8) (hq : sizeOfH h = (q : Int)) (hq2 : q ≤ 64) {n8 : Int} :
    ∀ (m n : Nat) (w : World) (s : Sl) (xs : List Int), m ≤ 8 → m < n → Bk e w gh (ints .u64 H) → OwnS 5 w s (ints .u8 xs) → xs.length + m ≤ q → B ≤ w.heap.size → Fresh B s →
      ∃ s' w', ref01_Sum_l3 K n h ⟨gh, 0, none⟩ n8 s (i : Int) ((m : Int) - 1) w = some ((s', ()), w') ∧ OwnS 5 w' s' (ints .u8 (xs ++ bigB (H.getD i 0) m)) ∧ Below B w w' ∧ Fresh B s' := by
  intro m
  induction m with
  | zero =>
    intro n w s xs hm hn hb ho hl hB hf
    obtain ⟨n, rfl⟩ : ∃ k, n = k + 1 := ⟨n - 1, by omega⟩
    refine ⟨s, w, ?_, by simpa [bigB] using ho, Below.refl B w, hf⟩
    show ref01_Sum_l3_b K (ref01_Sum_l3 K n) h ⟨gh, 0, none⟩ n8 s (i : Int) (((0 : Nat) : Int) - 1) w = _
    simp [ref01_Sum_l3_b, ref01_Sum_s4]
  | succ m ih =>
    intro n w s xs hm hn hb ho hl hB hf
    obtain ⟨n, rfl⟩ : ∃ k, n = k + 1 := ⟨n - 1, by omega⟩
    have hsl : s.len = xs.length := by rw [ho.len, ints_length]
    have e0 : (((m + 1 : Nat) : Int) - 1) = (m : Int) := by omega
    have hd : decide ((m : Int) ≥ 0) = true := by simp
    have hd2 : decide (((s.len : Nat) : Int) < (q : Int)) = true := by rw [hsl]; simp; omega
    have e8 : IntKind.u64.wrap (IntKind.i64.wrap (8 * (m : Int))) = ((8 * m : Nat) : Int) := by rw [w64 (by omega) (by omega), IntKind.wrap_u64]; omega
    have e1 : IntKind.i64.wrap ((m : Int) - 1) = (m : Int) - 1 := w64 (by omega) (by omega)
    have hmin : min (8 * m) IntKind.u64.bits = 8 * m := Nat.min_eq_left (by simp only [IntKind.bits]; omega)
    have c : (0 : Int) ≤ (i : Int) ∧ (i : Int) < ((8 : Nat) : Int) := by omega
    have lI : ldI .u64 ⟨gh, i, none⟩ w = some (H.getD i 0) := hb.ldI (by rw [ints_get (by omega)]; simp [List.getD_eq_getElem?_getD, show i < H.length by omega])
    obtain ⟨w1, s2, w2, h1, h2, o2, l2, bl2, hf2⟩ := push1 (IntKind.u8.wrap (Int.fdiv (H.getD i 0) (2 ^ (8 * m)))) ho (by omega) hB hf
    obtain ⟨s3, w3, h3, o3, bl3, hf3⟩ := ih n w2 s2 _ (by omega) (by omega) (hb.upd (upd_of_below bl2) (by omega)) o2 (by rw [List.length_append, List.length_singleton]; omega) (by have := bl2.size; omega) hf2
    refine ⟨s3, w3, ?_, by simpa [bigB] using o3, bl2.trans bl3, hf3⟩
    show ref01_Sum_l3_b K (ref01_Sum_l3 K n) h ⟨gh, 0, none⟩ n8 s (i : Int) (((m + 1 : Nat) : Int) - 1) w = _
    unfold ref01_Sum_l3_b ref01_Sum_s4
    rw [e0, hd, if_pos rfl, refSize_ok, Option.bind_some, hq, hd2, bnd_ok]
    dsimp only
    rw [if_pos rfl, if_pos c]
    simp only [Int.toNat_natCast, add_lit, Nat.mul_one, Nat.zero_add]
    rw [lI, Option.bind_some, e8, if_pos (Int.natCast_nonneg _), Int.toNat_natCast, hmin, h1, bnd_ok]
    dsimp only
    rw [h2, bnd_ok, e1, h3]

theorem refOut_l2 {K : Nat} (hK : 18446744073709551616 ≤ K) (B : Nat) {h : Int} {H : List Int} {gh : Nat} {e : TypeId} (hH : H.length = 8) (hgB : gh < B) {m0 i0 : Nat} (hm : 0 < m0) (hm8 : m0 ≤ 8) (hq : sizeOfH h = ((i0 * m0 : Nat) : Int)) (hi0 : i0 ≤ 8) (hq2 : i0 * m0 ≤ 64) :
    ∀ (d i n : Nat) (w : World) (s : Sl), i + d = i0 → d < n → Bk e w gh (ints .u64 H) → OwnS 5 w s (ints .u8 (outW H m0 i)) → B ≤ w.heap.size → Fresh B s →
      ∃ s' w', ref01_Sum_l2 K n h ⟨gh, 0, none⟩ (m0 : Int) s (i : Int) w = some ((s', ()), w') ∧ OwnS 5 w' s' (ints .u8 (outW H m0 i0)) ∧ Below B w w' ∧ Fresh B s' := by
  intro d
  induction d with
  | zero =>
    intro i n w s hi hn hb ho hB hf
    obtain ⟨n, rfl⟩ : ∃ k, n = k + 1 := ⟨n - 1, by omega⟩
    have hsl : s.len = i * m0 := by rw [ho.len, ints_length, outW_len]
    have hii : i = i0 := by omega
    subst hii
    have hd : decide (((s.len : Nat) : Int) < ((i * m0 : Nat) : Int)) = false := by rw [hsl]; simp
    refine ⟨s, w, ?_, ho, Below.refl B w, hf⟩
    show ref01_Sum_l2_b K (ref01_Sum_l2 K n) h ⟨gh, 0, none⟩ (m0 : Int) s (i : Int) w = _
    unfold ref01_Sum_l2_b
    rw [refSize_ok, Option.bind_some, hq, hd, if_neg (by decide)]
  | succ d ih =>
    intro i n w s hi hn hb ho hB hf
    obtain ⟨n, rfl⟩ : ∃ k, n = k + 1 := ⟨n - 1, by omega⟩
    have hsl : s.len = i * m0 := by rw [ho.len, ints_length, outW_len]
    have hlt : i * m0 + m0 ≤ i0 * m0 := by rw [← Nat.succ_mul]; exact Nat.mul_le_mul_right _ (by omega)
    have hd : decide (((s.len : Nat) : Int) < ((i0 * m0 : Nat) : Int)) = true := by rw [hsl]; simp only [decide_eq_true_eq]; omega
    have em : IntKind.i64.wrap ((m0 : Int) - 1) = (m0 : Int) - 1 := w64 (by omega) (by omega)
    have e1 : IntKind.i64.wrap ((i : Int) + 1) = ((i + 1 : Nat) : Int) := by rw [w64 (by omega) (by omega)]; rfl
    obtain ⟨s2, w2, h2, o2, bl2, hf2⟩ := refOut_l3 K B (h := h) hH hgB (m0 := m0) (i := i) (by omega) hq hq2 (n8 := (m0 : Int)) m0 K w s _ hm8 (by omega) hb ho (by rw [outW_len]; omega) hB hf
    obtain ⟨s3, w3, h3, o3, bl3, hf3⟩ := ih (i + 1) n w2 s2 (by omega) (by omega) (hb.upd (upd_of_below bl2) (by omega)) o2 (by have := bl2.size; omega) hf2
    refine ⟨s3, w3, ?_, o3, bl2.trans bl3, hf3⟩
    show ref01_Sum_l2_b K (ref01_Sum_l2 K n) h ⟨gh, 0, none⟩ (m0 : Int) s (i : Int) w = _
    unfold ref01_Sum_l2_b
    rw [refSize_ok, Option.bind_some, hq, hd, if_pos rfl, em, h2, bnd_ok, e1, h3]

theorem refSum_ok {K : Nat} (hK : 18446744073709551616 ≤ K) {h : Int} {C S : List Int} {w : World} (T : TabsR w C S) {b : Sl} {xs : List Int} (hx : Src w b (ints .u8 xs)) (hin : ∀ x ∈ xs, InK .u8 x) (hl : xs.length ≤ 1099511627776) :
    ∃ s' w', ref01_Sum K h b w = some ((s', ()), w') ∧ OwnS 5 w' s' (ints .u8 (sumOf C S h xs)) ∧ Upd none_ w w' ∧ Fresh w.heap.size s' := by
  unfold sumOf
  cases hk : known h with
  | false =>
    have hb0 : blockOfH h = 0 := by
      have q : h ≠ 224 ∧ h ≠ 256 ∧ h ≠ 384 ∧ h ≠ 512 := by simp [known] at hk; omega
      unfold blockOfH
      rw [if_neg (by omega), if_neg (by omega)]
    refine ⟨⟨none, 0, 0⟩, w, ?_, by simpa using OwnS.nil 5 w, Upd.refl _ _, fun k hk => by cases hk⟩
    unfold ref01_Sum
    rw [refBlock_ok, Option.bind_some, hb0]
    rfl
  | true =>
    have hb0 : blockOfH h = ((blk h : Nat) : Int) := by rcases known_cases hk with e | e | e | e <;> subst e <;> rfl
    have hbk := known_blk hk
    have hwb := wordB_blk h
    have hbp := blk_pos h
    obtain ⟨i0, hi0, hi8⟩ : ∃ i0 : Nat, sizeOfH h = ((i0 * wordB h : Nat) : Int) ∧ i0 ≤ 8 := by
      rcases known_cases hk with e | e | e | e <;> subst e
      · exact ⟨7, rfl, by decide⟩
      · exact ⟨8, rfl, by decide⟩
      · exact ⟨6, rfl, by decide⟩
      · exact ⟨8, rfl, by decide⟩
    have hsz : h / 8 = ((i0 * wordB h : Nat) : Int) := by rw [← hi0]; unfold sizeOfH; rw [if_pos hk]
    have hq2 : i0 * wordB h ≤ 64 := by
      have : i0 * wordB h ≤ 8 * 8 := Nat.mul_le_mul hi8 (by omega)
      omega
    obtain ⟨w1, h1, u1⟩ := refFirst_ok hK hk T.to.sl T.rs
    obtain ⟨w2, n2, b2, u2, z2⟩ := newB_ok z75 75 w1
    have b2 : Bk 75 w2 w1.heap.size z75.toList := b2
    have hfl : (ints .u64 (firstH S h)).length = 8 := by rw [ints_length, firstH_len]
    obtain ⟨w3, s3, b3, u3, _⟩ := lay' b2 (vs := ints .u64 (firstH S h)) (by rw [hfl]; rfl) ints_one
    have hz1 := u1.size
    have q3 : Upd none_ w w3 := (u1.and0 u2).trans' u3 fun k hk e => by omega
    have hz3 : w.heap.size ≤ w3.heap.size := q3.size
    have hxs3 := hx.upd0 q3
    obtain ⟨p, w4, h4, o4, u4, f4⟩ := laid_ok hK hk hxs3 hl
    have hlen := pads_len h xs.length
    have hzl := padZ_lt (m := 2 * wordB h) (len := xs.length) hbk
    have hin2 : ∀ x ∈ xs ++ pads h xs.length, InK .u8 x := fun x hx => (List.mem_append.1 hx).elim (hin x) (pads_in h _ x)
    have hpb : ∀ q, p.a = some q → q.block ≠ w1.heap.size := fun q hq e => by have := f4 q.block (by simp [Sl.blk, hq]); have := b3.lt; omega
    have hpl : ∀ q, p.a = some q → q.block < w4.heap.size := fun q hq => o4.lt (by simp [Sl.blk, hq])
    have b4 := b3.upd0 u4
    have T4 := T.upd0 (q3.and0 u4)
    have h4T := T.lt
    -- the words behind all blocks
    have key : ∃ w5, ref01_Sum_s0 K ⟨w1.heap.size, 0, none⟩ p ((IntKind.i64.wrap (Int.tdiv ((blk h : Nat) : Int) 16)) == 4) w4 = some ((), w5) ∧
        Bk 75 w5 w1.heap.size (ints .u64 (compsH h C ((xs ++ pads h xs.length).length / blk h) (firstH S h) (xs ++ pads h xs.length))) ∧ Upd (· = w1.heap.size) w4 w5 := by
      have hwhole := pads_whole h hk xs
      have hdm := Nat.div_add_mod (xs ++ pads h xs.length).length (blk h)
      obtain ⟨M, hM⟩ : ∃ M, (xs ++ pads h xs.length).length / blk h = M := ⟨_, rfl⟩
      rw [hwhole, hM, Nat.add_zero] at hdm
      rw [hM]
      have hlt : (xs ++ pads h xs.length).length ≤ 140737488355328 := by rw [List.length_append, hlen]; omega
      rcases hbk with e | e
      · have hn : narrowB h = true := by unfold blk at e; split at e <;> simp_all
        have hd : ((IntKind.i64.wrap (Int.tdiv ((blk h : Nat) : Int) 16)) == 4) = true := by rw [e]; rfl
        rw [e] at hdm
        obtain ⟨m, rfl⟩ : ∃ m, M = m + 1 := ⟨M - 1, by
          have : 0 < (xs ++ pads h xs.length).length := by rw [List.length_append, hlen]; omega
          omega⟩
        have lA := b4.ldA (i := 0) (n := 8) (by rw [hfl]; decide)
        rw [List.drop_zero, List.take_of_length_le (by rw [hfl]; decide)] at lA
        obtain ⟨w5, h5, u5⟩ := refNarrow_ok hK T.to.cl (firstH_len S h) hlt hdm.symm hpl o4.rd T4.rc
        have hcl := comps32_len C (m + 1) (firstH S h) (xs ++ pads h xs.length) (firstH_len S h)
        obtain ⟨w6, s6, b6, u6, _⟩ := lay' (b4.upd0 u5) (vs := ints .u64 (comps32 C (m + 1) (firstH S h) (xs ++ pads h xs.length))) (by rw [hfl, ints_length, hcl]) ints_one
        refine ⟨w6, ?_, ?_, (u5.mono fun _ _ e => e.elim).trans' u6 fun _ _ e => e⟩
        · unfold ref01_Sum_s0
          rw [hd, if_pos rfl, lA, Option.bind_some, h5, bnd_ok, if_pos (by rw [List.size_toArray, ints_length, hcl]), s6, Option.bind_some]
        · have : compsH h C (m + 1) (firstH S h) (xs ++ pads h xs.length) = comps32 C (m + 1) (firstH S h) (xs ++ pads h xs.length) := by unfold compsH; rw [if_pos hn]
          rw [this]; exact b6
      · have hn : ¬ narrowB h = true := by unfold blk at e; split at e <;> simp_all
        have hd : ((IntKind.i64.wrap (Int.tdiv ((blk h : Nat) : Int) 16)) == 4) = false := by rw [e]; rfl
        rw [e] at hdm
        obtain ⟨w5, h5, b5, u5⟩ := refWide_l1 hK hin2 T.to.cl (gh := w1.heap.size) (by omega) hlt hdm.symm hpb M 0 K w4 (firstH S h) (by omega) (by omega) (firstH_len S h) hpl o4.rd b4 T4.rc
        have h5 : ref01_Sum_l1 K K ⟨w1.heap.size, 0, none⟩ p 0 w4 = _ := h5
        rw [Nat.mul_zero, List.drop_zero] at b5
        refine ⟨w5, ?_, ?_, u5⟩
        · unfold ref01_Sum_s0
          rw [hd, if_neg (by decide), h5, bnd_ok]
        · have : compsH h C M (firstH S h) (xs ++ pads h xs.length) = comps64 C M (firstH S h) (xs ++ pads h xs.length) := by unfold compsH; rw [if_neg hn]
          rw [this]; exact b5
    obtain ⟨w5, h5, b5, u5⟩ := key
    have hcl := compsH_len h C ((xs ++ pads h xs.length).length / blk h) (firstH S h) (xs ++ pads h xs.length) (firstH_len S h)
    have hg5 : w1.heap.size < w5.heap.size := b5.lt
    obtain ⟨s6, w6, h6, o6, bl6, f6⟩ := refOut_l2 hK w5.heap.size hcl hg5 (by omega) (by omega) hi0 hi8 hq2 i0 0 K w5 ⟨none, 0, 0⟩ (by omega) (by omega) b5 (by simpa [outW] using OwnS.nil 5 w5) (Nat.le_refl _) (fun k hk => by cases hk)
    have h6 : ref01_Sum_l2 K K h ⟨w1.heap.size, 0, none⟩ ((wordB h : Nat) : Int) ⟨none, 0, 0⟩ 0 w5 = _ := h6
    have q5 : Upd none_ w w5 := (q3.and0 u4).trans' u5 fun k hk e => by omega
    have hz5 := q5.size
    refine ⟨s6, w6, ?_, ?_, q5.and0 (Upd.of_below bl6), fun k hk => by have := f6 k hk; omega⟩
    · have en : IntKind.i64.wrap (Int.tdiv ((blk h : Nat) : Int) 16) = ((wordB h : Nat) : Int) := by
        rw [show (16 : Int) = ((16 : Nat) : Int) from rfl, tdiv_nat, wn64 (by omega)]; omega
      have hne : (((blk h : Nat) : Int) == 0) = false := by simp; omega
      unfold ref01_Sum
      rw [refBlock_ok, Option.bind_some, hb0]
      dsimp only
      rw [hne, if_neg (by decide), h1, bnd_ok, n2, bnd_ok]
      dsimp only
      rw [if_pos (by rw [List.size_toArray, hfl]), s3, Option.bind_some, h4, bnd_ok, h5, bnd_ok, en, h6, bnd_ok]
    · rw [if_pos rfl]
      unfold digestOf
      rw [hsz, Int.toNat_natCast, outW_take _ _ 8 i0 hi8]; exact o6

end Go.Sh

/- What is lent to the program: copies of parts with marks behind them, and what is left of them; nothing is lost. -/
set_option linter.unusedVariables false
namespace Go.Sh
open Go.Fw Go.Sha Go.RowKit Go.Proofs.Tryd

theorem sliceSS : OneSlice prog 68 22 (.slice none 0 0) 24 := ⟨by kernel_rfl, ⟨t22, by kernel_rfl, by kernel_rfl, by kernel_rfl, by kernel_rfl⟩, by decide, rfl, rfl⟩

/-- one of the copies -/
def LentOne (w : World) (B N : Nat) (l : Sl) (p : Sl × List Int) : Prop :=
  ∃ g cap, p.1 = ⟨some ⟨g, 0, none⟩, p.2.length, cap⟩ ∧ B ≤ g ∧ g < N ∧ l.blk ≠ some g ∧ OwnS 5 w ⟨some ⟨g, 0, none⟩, p.2.length + 70, cap⟩ (ints .u8 (p.2 ++ marks))

/-- the copies, in blocks from B on up to N -/
structure Lent (w : World) (B N : Nat) (l : Sl) (xss : List (List Int)) : Prop where
  ex : ∃ ps : List (Sl × List Int), ps.map Prod.snd = xss ∧ OwnS 22 w l (ps.map fun p => slV p.1) ∧ ∀ p ∈ ps, LentOne w B N l p
  fr : ∀ k, l.blk = some k → B ≤ k ∧ k < N
  nn : N ≤ w.heap.size

theorem Lent.upd {w w' : World} {B N : Nat} {l : Sl} {xss : List (List Int)} {X : Nat → Prop} (h : Lent w B N l xss) (u : Upd X w w') (hn : ∀ k, B ≤ k → k < N → ¬ X k) : Lent w' B N l xss := by
  obtain ⟨⟨ps, h1, h2, h3⟩, h4, h5⟩ := h
  refine ⟨⟨ps, h1, h2.upd u fun k hk => hn k (h4 k hk).1 (h4 k hk).2, fun p hp => ?_⟩, h4, Nat.le_trans h5 u.size⟩
  obtain ⟨g, cap, a1, a2, a3, a4, a5⟩ := h3 p hp
  exact ⟨g, cap, a1, a2, a3, a4, a5.upd u fun k hk => by simp [Sl.blk] at hk; subst hk; exact hn _ a2 a3⟩
theorem Lent.upd0 {w w' : World} {B N : Nat} {l : Sl} {xss : List (List Int)} (h : Lent w B N l xss) (u : Upd none_ w w') : Lent w' B N l xss := h.upd u fun _ _ _ => id

theorem take_succ_getD {α : Type} {l : List α} {i : Nat} (hi : i < l.length) (d : α) : l.take (i + 1) = l.take i ++ [l.getD i d] := by
  rw [List.take_add_one, List.getD_eq_getElem?_getD, List.getElem?_eq_getElem hi]; rfl

theorem LentOne.src {w : World} {B N : Nat} {l : Sl} {p : Sl × List Int} (h : LentOne w B N l p) : Src w p.1 (ints .u8 p.2) := by
  obtain ⟨g, cap, a1, a2, a3, a4, a5⟩ := h
  rw [a1]; exact (marked_front a5).src ints_one

theorem Lent.parts {w w0 : World} {B N : Nat} {l s : Sl} {xss : List (List Int)} {Q : Nat → Prop} (h : Lent w B N l xss) (hp : PartsW w0 s xss Q) : Parts w l xss fun k => B ≤ k ∧ k < N := by
  obtain ⟨⟨ps, a1, a2, a3⟩, a4, a5⟩ := h
  have hll : l.len = xss.length := by rw [a2.len, ← a1]; simp
  refine ⟨hll, a2.cap.1, hp.inn, hp.lens, hp.many, ?_⟩
  have hsrc := a2.src (fun v hv => by obtain ⟨x, _, rfl⟩ := List.mem_map.1 hv; rfl)
  rcases hsrc.rd with ⟨b1, b2, b3⟩ | ⟨p, b1, b2⟩
  · left
    have : ps = [] := by simpa using b3
    rw [← a1, this]; rfl
  · right
    refine ⟨p, ps.map Prod.fst, b1, by rw [← a1]; simp, a4 p.block (by simp [Sl.blk, b1]), by rw [List.map_map]; exact b2, fun i hi => ?_⟩
    have hi2 : i < ps.length := by rw [← a1] at hi; simpa using hi
    have e1 : (ps.map Prod.fst).getD i nilS = ps[i].1 := by simp [List.getD_eq_getElem?_getD, hi2]
    have e2 : xss.getD i [] = ps[i].2 := by rw [← a1]; simp [List.getD_eq_getElem?_getD, hi2]
    have h0 := a3 ps[i] (List.getElem_mem hi2)
    rw [e1, e2]
    refine ⟨h0.src, fun q hq _ => ?_⟩
    obtain ⟨g, cap, f1, f2, f3, f4, f5⟩ := h0
    rw [f1] at hq
    obtain rfl := Option.some.inj hq
    exact ⟨⟨f2, f3⟩, by show g < w.heap.size; omega⟩

theorem Lent.at {w : World} {B N : Nat} {l : Sl} {xss : List (List Int)} (h : Lent w B N l xss) {i : Nat} (hi : i < xss.length) :
    ∃ p g cap, l.a = some p ∧ l.len = xss.length ∧ ldS (p.add i) w = some ⟨some ⟨g, 0, none⟩, (xss.getD i []).length, cap⟩ ∧ B ≤ g ∧ g < N ∧ l.blk ≠ some g ∧ OwnS 5 w ⟨some ⟨g, 0, none⟩, (xss.getD i []).length + 70, cap⟩ (ints .u8 (xss.getD i [] ++ marks)) := by
  obtain ⟨⟨ps, a1, a2, a3⟩, a4, a5⟩ := h
  have hll : l.len = xss.length := by rw [a2.len, ← a1]; simp
  have hi2 : i < ps.length := by rw [← a1] at hi; simpa using hi
  have e2 : xss.getD i [] = ps[i].2 := by rw [← a1]; simp [List.getD_eq_getElem?_getD, hi2]
  obtain ⟨g, cap, f1, f2, f3, f4, f5⟩ := a3 ps[i] (List.getElem_mem hi2)
  have hsrc := a2.src (fun v hv => by obtain ⟨x, _, rfl⟩ := List.mem_map.1 hv; rfl)
  rcases hsrc.rd with ⟨b1, b2, b3⟩ | ⟨p, b1, b2⟩
  · have : ps = [] := by simpa using b3
    rw [this] at hi2; simp at hi2
  · rw [e2]
    refine ⟨p, g, cap, b1, hll, ?_, f2, f3, f4, f5⟩
    have := b2 i (slV ps[i].1) (by simp [hi2])
    rw [f1] at this
    simp [ldS, this, asS, slV]

/-- a list of one part -/
theorem one_part {w : World} {b : Sl} {xs : List Int} (hx : Src w b (ints .u8 xs)) (hin : ∀ x ∈ xs, InK .u8 x) (hl : xs.length ≤ 140737488351232) (hb : ∀ q, b.a = some q → xs ≠ [] → q.block < w.heap.size) :
    ∃ w', bldS prog 68 1 #[(0, (.slice b.a b.len b.cap))] w = some (⟨some ⟨w.heap.size, 0, none⟩, 1, 1⟩, w') ∧ Parts w' ⟨some ⟨w.heap.size, 0, none⟩, 1, 1⟩ [xs] (fun k => k < w'.heap.size) ∧ Upd none_ w w' := by
  obtain ⟨w2, c1, c2, c3, c4⟩ := bldS1_ok sliceSS (.slice b.a b.len b.cap) rfl w
  refine ⟨w2, c1, ⟨rfl, Nat.le_refl _, by simpa using hin, by simpa using hl, by simp, .inr ⟨_, [b], rfl, rfl, c2.lt (by simp [Sl.blk]), ?_, fun i hi => ?_⟩⟩, c3⟩
  · rcases (c2.src (by simp [Value.oneCell'])).rd with ⟨b1, _⟩ | ⟨p, b1, b2⟩
    · cases b1
    · obtain rfl := Option.some.inj b1; exact b2
  · have : i = 0 := by simp at hi; omega
    subst this
    exact ⟨hx.upd0 c3, fun q hq hne => by have := hb q hq hne; have := c3.size; exact ⟨by omega, by omega⟩⟩

theorem digestOf_len (h : Int) (C H0 xs : List Int) : (digestOf h C H0 xs).length ≤ 64 := by
  have := wordB_blk h
  unfold digestOf
  rw [List.length_take, outW_len]; omega
theorem digestOf_in (h : Int) (C H0 xs : List Int) : ∀ x ∈ digestOf h C H0 xs, InK .u8 x := by
  have key : ∀ (H : List Int) (m i : Nat), ∀ x ∈ outW H m i, InK .u8 x := by
    intro H m i
    induction i with
    | zero => intro x hx; simp [outW] at hx
    | succ i ih =>
      intro x hx
      simp only [outW, List.mem_append] at hx
      rcases hx with hx | hx
      · exact ih x hx
      · exact bigB_in _ m x hx
  intro x hx
  exact key _ _ _ x (List.mem_of_mem_take hx)
theorem sumOf_len (C S : List Int) (h : Int) (xs : List Int) : (sumOf C S h xs).length ≤ 64 := by
  unfold sumOf; split
  · exact digestOf_len ..
  · exact Nat.zero_le _
theorem sumOf_in (C S : List Int) (h : Int) (xs : List Int) : ∀ x ∈ sumOf C S h xs, InK .u8 x := by
  unfold sumOf; split
  · exact digestOf_in h C _ xs
  · intro x hx; simp at hx

/-- Sum, whatever the number -/
theorem Sum_any {K : Nat} (hK : 18446744073709551616 ≤ K) (h : Int) {C S : List Int} {w : World} (T : Tabs w C S) {s : Sl} {xss : List (List Int)} {Q : Nat → Prop} (hp : Parts w s xss Q) (hQ : ∀ k, Q k → k < w.heap.size) (hl : xss.flatten.length ≤ 33554432) :
    ∃ s' w', digest_Sum K h s w = some ((s', (if known h = true then 0 else 10), ()), w') ∧ Vw 5 w' s' (ints .u8 (sumOf C S h xss.flatten)) ∧ Fresh w.heap.size s' ∧ Upd none_ w w' := by
  cases hk : known h with
  | true =>
    obtain ⟨s', w', h1, h2, h3⟩ := Sum_ok hK hk T hp hQ hl
    refine ⟨s', w', h1, ?_, h2.fresh, h3⟩
    unfold sumOf
    rw [if_pos hk]
    exact h2.vw (Nat.le_trans (digestOf_len ..) (by decide))
  | false =>
    obtain ⟨w', h1, h3⟩ := Sum_none hK hk T s
    refine ⟨⟨none, 0, 0⟩, w', h1, ?_, (fun k hk => by cases hk), h3⟩
    unfold sumOf
    rw [hk, if_neg (by decide)]
    exact Vw.nil 5 w'

end Go.Sh

/- DigestSums: every Sum of any parts. -/
set_option linter.unusedVariables false
namespace Go.Sh
open Go.Fw Go.Sha Go.RowKit Go.Proofs.Tryd

theorem size_zero (h : Int) : (sizeOfH h == 0) = !known h := by
  unfold sizeOfH
  cases hk : known h with
  | false => rw [if_neg (by decide)]; rfl
  | true =>
    rw [if_pos rfl]
    rcases known_cases hk with e | e | e | e <;> subst e <;> rfl

theorem known256 : known 256 = true := rfl

theorem lt_of_blk {w : World} {s : Sl} (h : ∀ k, s.blk = some k → k < w.heap.size) : ∀ q, s.a = some q → q.block < w.heap.size := fun q hq => h q.block (by simp [Sl.blk, hq])

abbrev abcB : List Int := [97, 98, 99]
theorem abcB_in : ∀ x ∈ abcB, InK .u8 x := by
  intro x hx
  simp only [List.mem_cons, List.not_mem_nil, or_false] at hx
  rcases hx with rfl | rfl | rfl <;> exact ⟨by decide, by decide⟩

end Go.Sh

/- What a reading of a [][]byte gives. -/
set_option linter.unusedVariables false
namespace Go.Sh
open Go.Fw Go.Sha Go.RowKit Go.Proofs.Tryd Go.Deep Go.ChangeShapes Go.WideShapes

theorem weights_all {H : Type} {P : Program} {e : TypeId} : ∀ {ds : List (DataW H)} {d : DataW H}, d ∈ ds → ∀ n ∈ d.weights P e, n ∈ DataW.weightsAll P e ds
  | [], _, h, _, _ => by simp at h
  | d0 :: r, d, h, n, hn => by
    simp only [DataW.weightsAll, List.mem_append]
    rcases List.mem_cons.1 h with rfl | h
    · exact .inl hn
    · exact .inr (weights_all h n hn)

theorem wf_u8 {n : Int} (h : (Lit.int .u8 n).wf = true) : InK .u8 n := by
  have h2 : 0 ≤ n ∧ n ≤ 255 := by simpa [Lit.wf, IntKind.bits, IntKind.min, IntKind.max, IntKind.signed] using h
  exact ⟨h2.1, by have := h2.2; simp only [IntKind.bits]; omega⟩

theorem bytes_of_B : 1 ≤ prog.bytesOf 5 := of_decide_eq_true (by kernel_rfl)
theorem bytes_of_T : prog.bytesOf 22 = 24 := by kernel_rfl
theorem und_B : prog.underlying 5 = some (.int .u8) := by kernel_rfl
theorem cells_of_B : prog.cellsOf 5 = 1 := by kernel_rfl
theorem cells_of_T : prog.cellsOf 22 = 1 := by kernel_rfl

/-- what is in reach -/
theorem lits_len {H : Type} {κ : IntKind} {zs : List Int} {n : Nat} : (lits (H := H) κ (zs.take n)).length + (lits (H := H) κ (zs.drop n)).length = zs.length := by
  simp only [lits, List.length_map, List.length_take, List.length_drop]; omega

theorem open_parts {H : Type} {enc : TypeId × Value → H} {W : World} {d : DataW H} {p : List MemPlace} {a : Option Addr} {len cap : Nat} (h : DataW.Trod enc prog W 0 (fun _ => true) true 68 (.slice a len cap) d p) (hw : ∀ n ∈ d.weights prog 68, n ≤ reachBytes) :
    ∃ xss, PartsW W ⟨a, len, cap⟩ xss (fun k => k < W.heap.size) := by
  obtain ⟨fuel, hf⟩ := h
  rcases open_int_rows sliceSS.ht sliceB.ht und_B cells_of_T cells_of_B hf with ⟨hcs, hx⟩ | ⟨a', len', cap', A, L, C, Z, hcs, _, hl, hm, hx, hrows⟩
  · simp [Value.cells] at hcs
    obtain ⟨rfl, rfl, rfl⟩ := hcs
    exact ⟨[], rfl, Nat.le_refl _, by simp, by simp, by simp, .inl rfl⟩
  simp [Value.cells] at hcs
  obtain ⟨rfl, rfl, rfl⟩ := hcs
  simp only [Prod.mk.injEq] at hx
  obtain ⟨rfl, rfl⟩ := hx
  have hrb : reachBytes = 140737488351232 := rfl
  have hwt : ∀ n ∈ (len + (cap - len)) * 24 :: (DataW.weightsAll prog 22 ((List.range len).map fun r => intRow (H := H) .u8 (A r) (L r) (Z r))), n ≤ 140737488351232 := by
    intro n hn
    refine hw n ?_
    simp only [DataW.weights, sliceSS.ht, bytes_of_T, List.length_map, List.length_range]
    rcases List.mem_cons.1 hn with rfl | hn
    · exact List.mem_cons_self ..
    · exact List.mem_cons_of_mem _ (List.mem_append_left _ hn)
  have hcap := hwt _ (List.mem_cons_self ..)
  have hzl : ∀ r, r < len → (Z r).length ≤ 140737488351232 := by
    intro r hr
    obtain ⟨h1, h2, h3, h4, h5, h6, h7⟩ := hrows r (by omega)
    cases hA : A r with
    | none => have := h6 hA; omega
    | some x =>
      have hmem : intRow (H := H) .u8 (A r) (L r) (Z r) ∈ (List.range len).map fun r => intRow (H := H) .u8 (A r) (L r) (Z r) := List.mem_map.2 ⟨r, List.mem_range.2 hr, rfl⟩
      have := hwt ((Z r).length * prog.bytesOf 5) (List.mem_cons_of_mem _ (weights_all hmem _ (by
        rw [hA]
        simp only [intRow, DataW.weights, sliceB.ht, lits_len]
        exact List.mem_cons_self ..)))
      exact Nat.le_trans (Nat.le_mul_of_pos_right _ bytes_of_B) this
  have hg : ∀ r, r < len → ((List.range len).map fun r => (Z r).take (L r)).getD r [] = (Z r).take (L r) := fun r hr => by simp [List.getD_eq_getElem?_getD, hr]
  have hg2 : ∀ r, r < len → ((List.range len).map fun r => (⟨A r, L r, C r⟩ : Sl)).getD r nilS = ⟨A r, L r, C r⟩ := fun r hr => by simp [List.getD_eq_getElem?_getD, hr]
  refine ⟨(List.range len).map fun r => (Z r).take (L r), by simp, hl, ?_, ?_, by simp only [List.length_map, List.length_range]; omega, ?_⟩
  · intro xs hxs x hx
    obtain ⟨r, hr, rfl⟩ := List.mem_map.1 hxs
    obtain ⟨h1, h2, h3, h4, h5, h6, h7⟩ := hrows r (by have := List.mem_range.1 hr; omega)
    exact wf_u8 (h5 x (List.mem_of_mem_take hx))
  · intro xs hxs
    obtain ⟨r, hr, rfl⟩ := List.mem_map.1 hxs
    have := hzl r (List.mem_range.1 hr)
    simp; omega
  · by_cases h0 : len = 0
    · left; rw [h0]; rfl
    right
    refine ⟨a', (List.range len).map fun r => ⟨A r, L r, C r⟩, rfl, by simp, World.block_lt_of_cell? W _ (by have := (hrows 0 (by omega)).1; simpa [Addr.add] using this), ?_, fun i hi => ?_⟩
    · intro i v hv
      simp only [List.map_map, List.getElem?_map] at hv
      obtain ⟨r, hr, rfl⟩ := Option.map_eq_some_iff.1 hv
      rw [List.getElem?_range (by have := (List.getElem?_eq_some_iff.1 hr).1; simpa using this)] at hr
      obtain rfl := Option.some.inj hr
      have hi : i < len := by
        by_cases hi : i < len
        · exact hi
        · simp [List.getElem?_eq_none (show (List.range len).length ≤ i by simp; omega)] at hv
      exact (hrows i (by omega)).1
    · have hi : i < len := by simpa using hi
      rw [hg i hi, hg2 i hi]
      obtain ⟨h1, h2, h3, h4, h5, h6, h7⟩ := hrows i (by omega)
      have hrd : ∀ x, A i = some x → Rd W x (ints .u8 ((Z i).take (L i))) := by
        intro x hx j v hv
        have hj : j < L i ∧ j < (Z i).length := by
          have := (List.getElem?_eq_some_iff.1 hv).1
          simp at this; omega
        have := (h7 x hx).2 j (by omega)
        rw [this]
        simp only [ints, List.getElem?_map, List.getElem?_take, if_pos hj.1] at hv
        rw [List.getElem?_eq_getElem hj.2] at hv
        rw [List.getD_eq_getElem?_getD, List.getElem?_eq_getElem hj.2]
        exact hv
      refine ⟨⟨by simp; omega, h2, ?_, ints_one⟩, fun q hq hne => ?_⟩
      · cases hA : A i with
        | none => left; have := h6 hA; exact ⟨rfl, this, by rw [List.eq_nil_of_length_eq_zero (show ((Z i).take (L i)).length = 0 by simp; omega)]; rfl⟩
        | some x => right; exact ⟨x, rfl, hrd x hA⟩
      · exact (hrd q hq).lt (fun e => hne (by cases hz : (Z i).take (L i) with | nil => rfl | cons y r => rw [hz] at e; cases e))

/-- a slice of bytes that came in -/
structure BytesIn (W : World) (s : Sl) (xs : List Int) : Prop where
  src : Src W s (ints .u8 xs)
  inn : ∀ x ∈ xs, InK .u8 x
  len : xs.length ≤ 140737488351232
  cap : s.cap ≤ 140737488351232

theorem open_bytes_t {H : Type} {enc : TypeId × Value → H} {W : World} {x : DataW H × List MemPlace} {fuel : Nat} {cs : List Value} (hf : DataW.trod enc prog W 0 (fun _ => true) true fuel 22 cs = some x) (hw : ∀ n ∈ x.1.weights prog 22, n ≤ reachBytes) :
    ∃ s xs, cs = [slV s] ∧ BytesIn W s xs := by
  rcases open_ints sliceB.ht und_B cells_of_B hf with ⟨hcs, hy⟩ | ⟨a', len', cap', zs, hcs, hb', hl', hm', hz, hy, hcell, hwz⟩
  · exact ⟨nilS, [], hcs, ⟨rfl, Nat.le_refl _, .inl ⟨rfl, rfl, rfl⟩, ints_one⟩, by simp, by simp, by simp [nilS]⟩
  · have hz : zs.length = cap' := by simpa using hz
    have hzl : zs.length ≤ 140737488351232 := by
      have := hw (zs.length * prog.bytesOf 5) (by
        rw [hy]
        simp only [DataW.weights, sliceB.ht, lits_len]
        exact List.mem_cons_self ..)
      exact Nat.le_trans (Nat.le_mul_of_pos_right _ bytes_of_B) this
    refine ⟨⟨some a', len', cap'⟩, zs.take len', hcs, ⟨by simp; omega, hl', .inr ⟨a', rfl, fun j v hv => ?_⟩, ints_one⟩, fun x hx => wf_u8 (hwz x (List.mem_of_mem_take hx)), by simp; omega, by show cap' ≤ _; omega⟩
    have hj : j < len' ∧ j < zs.length := by
      have := (List.getElem?_eq_some_iff.1 hv).1
      simp at this; omega
    rw [hcell j hj.2]
    simp only [ints, List.getElem?_map, List.getElem?_take, if_pos hj.1] at hv
    rw [List.getElem?_eq_getElem hj.2] at hv
    rw [List.getD_eq_getElem?_getD, List.getElem?_eq_getElem hj.2]
    exact hv

theorem open_bytes {H : Type} {enc : TypeId × Value → H} {W : World} {d : DataW H} {p : List MemPlace} {a : Option Addr} {len cap : Nat} (h : DataW.Trod enc prog W 0 (fun _ => true) true 22 (.slice a len cap) d p) (hw : ∀ n ∈ d.weights prog 22, n ≤ reachBytes) :
    ∃ xs, BytesIn W ⟨a, len, cap⟩ xs := by
  obtain ⟨fuel, hf⟩ := h
  obtain ⟨s, xs, hcs, hb⟩ := open_bytes_t hf hw
  simp [Value.cells, slV] at hcs
  obtain ⟨rfl, rfl, rfl⟩ := hcs
  exact ⟨xs, hb⟩

end Go.Sh

/- What the rows lay of the package-level variables: the tables. -/
set_option linter.unusedVariables false
namespace Go.Sh
open Go.Fw Go.Sha Go.RowKit Go.Proofs.Tryd Go.Deep Go.ChangeShapes Go.WideShapes

def cubesC : List Int := [4794697086780616226, 8158064640168781261, 13096744586834688815, 16840607885511220156, 4131703408338449720, 6480981068601479193, 10538285296894168987, 12329834152419229976, 15566598209576043074, 1334009975649890238, 2608012711638119052, 6128411473006802146, 8268148722764581231, 9286055187155687089, 11230858885718282805, 13951009754708518548, 16472876342353939154, 17275323862435702243, 1135362057144423861, 2597628984639134821, 3308224258029322869, 5365058923640841347, 6679025012923562964, 8573033837759648693, 10970295158949994411, 12119686244451234320, 12683024718118986047, 13788192230050041572, 14330467153632333762, 15395433587784984357, 489312712824947311, 1452737877330783856, 2861767655752347644, 3322285676063803686, 5560940570517711597, 5996557281743188959, 7280758554555802590, 8532644243296465576, 9350256976987008742, 10552545826968843579, 11727347734174303076, 12113106623233404929, 14000437183269869457, 14369950271660146224, 15101387698204529176, 15463397548674623760, 17586052441742319658, 1182934255886127544, 1847814050463011016, 2177327727835720531, 2830643537854262169, 3796741975233480872, 4115178125766777443, 5681478168544905931, 6601373596472566643, 7507060721942968483, 8399075790359081724, 8693463985226723168, 9568029438360202098, 10144078919501101548, 10430055236837252648, 11840083180663258601, 13761210420658862357, 14299343276471374635, 14566680578165727644, 15097957966210449927, 16922976911328602910, 17689382322260857208, 500013540394364858, 748580250866718886, 1242879168328830382, 1977374033974150939, 2944078676154940804, 3659926193048069267, 4368137639120453308, 4836135668995329356, 5532061633213252278, 6448918945643986474, 6902733635092675308, 7801388544844847127]
def squaresS : List Int := [7640891576956012808, 13503953896175478587, 4354685564936845355, 11912009170470909681, 5840696475078001361, 11170449401992604703, 2270897969802886507, 6620516959819538809, 14680500436340154072, 7105036623409894663, 10473403895298186519, 1526699215303891257, 7436329637833083697, 10282925794625328401, 15784041429090275239, 5167115440072839076]

theorem tab_in {P : Program} {w : World} : ∀ {laid : List (String × DataW Unit)} {ps : List MemPlace}, DataW.LaidVars P w laid ps → ∀ {name : String} {k : IntKind} {zs : List Int} {g : Nat} {t e : TypeId} {n : Nat},
    (name, Lib.tabData k zs) ∈ laid → P.globalNamed name = some g → (P.globals[g]?).map (·.type) = some t → P.underlying t = some (.array n e) → P.underlying e = some (.int k) → P.cellsOf e = 1 → P.cellsOf t = n → Lib.TabIs P w name k zs
  | [], _, _, _, _, _, _, _, _, _, hm, _, _, _, _, _, _ => by simp at hm
  | x :: rest, ps, h, name, k, zs, g, t, e, n, hm, hg, hty, ht, he, hce, hct => by
    obtain ⟨g', t', cs, fuel, p, q, hg', ht', hvar, hd, h2, _⟩ := h
    rcases List.mem_cons.1 hm with rfl | hm
    · obtain rfl := Option.some.inj (hg.symm.trans hg')
      obtain rfl := Option.some.inj (hty.symm.trans ht')
      unfold Lib.TabIs
      rw [hvar, ← Lib.cells_of_tab ht he hce hct hd]
    · exact tab_in h2 hm hg hty ht he hce hct

theorem tab_rd {P : Program} {w : World} {name : String} {zs : List Int} {g : Nat} (h : Lib.TabIs P w name .u64 zs) (hg : P.globalNamed name = some g) : Rd w ⟨g, 0, none⟩ (ints .u64 zs) := by
  intro i v hv
  rw [add_lit, Nat.zero_add]
  have hi : i < zs.length := by have := (List.getElem?_eq_some_iff.1 hv).1; simpa using this
  rw [h.cell hg i hi]
  simp only [ints, List.getElem?_map, List.getElem?_eq_getElem hi] at hv
  rw [List.getD_eq_getElem?_getD, List.getElem?_eq_getElem hi]
  exact hv

theorem squares_in : ∀ i, InK .u64 (squaresS.getD i 0) := by
  have h : ∀ x ∈ squaresS, 0 ≤ x ∧ x < 18446744073709551616 := by decide +kernel
  intro i
  rw [List.getD_eq_getElem?_getD]
  cases hx : squaresS[i]? with
  | none => exact ⟨by decide, by decide⟩
  | some x => exact h x (List.mem_of_getElem? hx)

def laid2 : List (String × DataW Unit) := [("coffer/digest.cubes", Lib.tabData .u64 cubesC), ("coffer/digest.squares", Lib.tabData .u64 squaresS)]
def laid4 : List (String × DataW Unit) := [("coffer/cofferref01.cubes", Lib.tabData .u64 cubesC), ("coffer/cofferref01.squares", Lib.tabData .u64 squaresS), ("coffer/digest.cubes", Lib.tabData .u64 cubesC), ("coffer/digest.squares", Lib.tabData .u64 squaresS)]

theorem tabs2 {w : World} (h : laidMetH prog laid2 w) : Tabs w cubesC squaresS := by
  obtain ⟨ps, h, _⟩ : laidMet prog laid2 w := h
  exact ⟨rfl, rfl, squares_in,
    tab_rd (tab_in h (name := "coffer/digest.cubes") (zs := cubesC) (g := 0) (t := 83) (e := 74) (n := 80) (by simp [laid2]) (by kernel_rfl) (by kernel_rfl) (by kernel_rfl) (by kernel_rfl) (by kernel_rfl) (by kernel_rfl)) (by kernel_rfl),
    tab_rd (tab_in h (name := "coffer/digest.squares") (zs := squaresS) (g := 3) (t := 93) (e := 74) (n := 16) (by simp [laid2]) (by kernel_rfl) (by kernel_rfl) (by kernel_rfl) (by kernel_rfl) (by kernel_rfl) (by kernel_rfl)) (by kernel_rfl)⟩

theorem tabs4 {w : World} (h : laidMetH prog laid4 w) : TabsR w cubesC squaresS := by
  obtain ⟨ps, h, _⟩ : laidMet prog laid4 w := h
  exact ⟨⟨rfl, rfl, squares_in,
    tab_rd (tab_in h (name := "coffer/digest.cubes") (zs := cubesC) (g := 0) (t := 83) (e := 74) (n := 80) (by simp [laid4]) (by kernel_rfl) (by kernel_rfl) (by kernel_rfl) (by kernel_rfl) (by kernel_rfl) (by kernel_rfl)) (by kernel_rfl),
    tab_rd (tab_in h (name := "coffer/digest.squares") (zs := squaresS) (g := 3) (t := 93) (e := 74) (n := 16) (by simp [laid4]) (by kernel_rfl) (by kernel_rfl) (by kernel_rfl) (by kernel_rfl) (by kernel_rfl) (by kernel_rfl)) (by kernel_rfl)⟩,
    tab_rd (tab_in h (name := "coffer/cofferref01.cubes") (zs := cubesC) (g := 2) (t := 83) (e := 74) (n := 80) (by simp [laid4]) (by kernel_rfl) (by kernel_rfl) (by kernel_rfl) (by kernel_rfl) (by kernel_rfl) (by kernel_rfl)) (by kernel_rfl),
    tab_rd (tab_in h (name := "coffer/cofferref01.squares") (zs := squaresS) (g := 1) (t := 93) (e := 74) (n := 16) (by simp [laid4]) (by kernel_rfl) (by kernel_rfl) (by kernel_rfl) (by kernel_rfl) (by kernel_rfl) (by kernel_rfl)) (by kernel_rfl)⟩

end Go.Sh

/- Stripes: what is spread, what is added up; on lists of numbers. Nothing of a program stands here. -/
set_option maxRecDepth 100000
set_option linter.unusedVariables false
namespace Go.Shr

/-- D: the digest of piece number i; size: of so many bytes; xr: two bytes added -/
structure Ops where
  size : Nat
  D : Nat → List Int → List Int
  xr : Int → Int → Int

variable (O : Ops)

/-- all pieces, each by its digest -/
def sprG : Nat → Nat → List Int → List Int
  | 0, _, _ => []
  | f + 1, i, xs => if xs = [] then [] else (O.D i (xs.take O.size)).take (min O.size xs.length) ++ sprG f (i + 1) (xs.drop O.size)
def spread (xs : List Int) : List Int := sprG O xs.length 0 xs

theorem sprG_more (hs : 0 < O.size) : ∀ (f f' i : Nat) (xs : List Int), xs.length ≤ f → xs.length ≤ f' → sprG O f i xs = sprG O f' i xs
  | 0, 0, _, _, _, _ => rfl
  | 0, f' + 1, i, xs, h, _ => by
    have : xs = [] := List.eq_nil_of_length_eq_zero (by omega)
    subst this; simp [sprG]
  | f + 1, 0, i, xs, _, h => by
    have : xs = [] := List.eq_nil_of_length_eq_zero (by omega)
    subst this; simp [sprG]
  | f + 1, f' + 1, i, xs, h, h' => by
    unfold sprG
    by_cases c : xs = []
    · rw [if_pos c, if_pos c]
    · have hpos : 0 < xs.length := List.length_pos_iff.2 c
      rw [if_neg c, if_neg c, sprG_more hs f f' (i + 1) _ (by simp; omega) (by simp; omega)]

theorem sprG_length (hs : 0 < O.size) (hD : ∀ i ys, (O.D i ys).length = O.size) : ∀ (f i : Nat) (xs : List Int), xs.length ≤ f → (sprG O f i xs).length = xs.length
  | 0, i, xs, h => by
    have : xs = [] := List.eq_nil_of_length_eq_zero (by omega)
    subst this; rfl
  | f + 1, i, xs, h => by
    unfold sprG
    by_cases c : xs = []
    · rw [if_pos c, c]
    · have hpos : 0 < xs.length := List.length_pos_iff.2 c
      rw [if_neg c, List.length_append, List.length_take, hD, sprG_length hs hD f (i + 1) _ (by simp; omega), List.length_drop]
      omega
theorem spread_length (hs : 0 < O.size) (hD : ∀ i ys, (O.D i ys).length = O.size) (xs : List Int) : (spread O xs).length = xs.length := sprG_length O hs hD _ _ _ (Nat.le_refl _)

def addL : List Int → List Int → List Int
  | x :: xs, y :: ys => O.xr x y :: addL xs ys
  | xs, [] => xs
  | [], _ => []
theorem addL_length : ∀ xs ys : List Int, (addL O xs ys).length = xs.length
  | [], [] => rfl
  | [], _ :: _ => rfl
  | _ :: _, [] => rfl
  | x :: xs, y :: ys => by simp [addL, addL_length xs ys]

/-- c stripes of n bytes, one behind the other -/
def through (n : Nat) : Nat → List Int → List Int → List Int
  | 0, acc, _ => acc
  | c + 1, acc, xs => through n c (spread O (addL O acc (xs.take n))) (xs.drop n)
theorem through_length (hs : 0 < O.size) (hD : ∀ i ys, (O.D i ys).length = O.size) (n : Nat) : ∀ (c : Nat) (acc xs : List Int), (through O n c acc xs).length = acc.length
  | 0, _, _ => rfl
  | c + 1, acc, xs => by
    unfold through
    rw [through_length hs hD n c, spread_length O hs hD, addL_length]

/-- what the stripes ahead of the last one come to -/
def before (n : Nat) (xs : List Int) : List Int := through O n (xs.length / n) (List.replicate n 0) xs
def split (secret random : List Int) : List Int := random ++ addL O (before O secret.length random) secret
def merge (n : Nat) (m : List Int) : List Int := addL O (before O n (m.take (m.length - n))) (m.drop (m.length - n))

/-- what is asked of bytes and their sum -/
structure Good (P : Int → Prop) : Prop where
  inn : ∀ {x y}, P x → P y → P (O.xr x y)
  twice : ∀ {x y}, P x → P y → O.xr x (O.xr x y) = y
  assoc : ∀ {x y z}, P x → P y → P z → O.xr (O.xr x y) z = O.xr x (O.xr y z)

variable {O} {P : Int → Prop}

theorem addL_in (G : Good O P) : ∀ {xs ys : List Int}, (∀ x ∈ xs, P x) → (∀ y ∈ ys, P y) → ∀ x ∈ addL O xs ys, P x
  | [], [], _, _ => by simp [addL]
  | [], _ :: _, _, _ => by simp [addL]
  | x :: xs, [], h, _ => by simpa [addL] using h
  | x :: xs, y :: ys, h, h' => by
    intro z hz
    rcases List.mem_cons.1 hz with e | e
    · rw [e]; exact G.inn (h x (by simp)) (h' y (by simp))
    · exact addL_in G (fun a ha => h a (by simp [ha])) (fun a ha => h' a (by simp [ha])) z e

theorem addL_twice (G : Good O P) : ∀ {xs ys : List Int}, xs.length = ys.length → (∀ x ∈ xs, P x) → (∀ y ∈ ys, P y) → addL O xs (addL O xs ys) = ys
  | [], [], _, _, _ => rfl
  | [], _ :: _, h, _, _ => by simp at h
  | _ :: _, [], h, _, _ => by simp at h
  | x :: xs, y :: ys, h, hx, hy => by
    show O.xr x (O.xr x y) :: addL O xs (addL O xs ys) = y :: ys
    rw [G.twice (hx x (by simp)) (hy y (by simp)), addL_twice G (by simpa using h) (fun a ha => hx a (by simp [ha])) fun a ha => hy a (by simp [ha])]

theorem addL_assoc (G : Good O P) : ∀ {xs ys zs : List Int}, xs.length = ys.length → ys.length = zs.length → (∀ x ∈ xs, P x) → (∀ y ∈ ys, P y) → (∀ z ∈ zs, P z) → addL O (addL O xs ys) zs = addL O xs (addL O ys zs)
  | [], [], [], _, _, _, _, _ => rfl
  | x :: xs, y :: ys, z :: zs, h, h', hx, hy, hz => by
    show O.xr (O.xr x y) z :: addL O (addL O xs ys) zs = O.xr x (O.xr y z) :: addL O xs (addL O ys zs)
    rw [G.assoc (hx x (by simp)) (hy y (by simp)) (hz z (by simp)), addL_assoc G (by simpa using h) (by simpa using h') (fun a ha => hx a (by simp [ha])) (fun a ha => hy a (by simp [ha])) fun a ha => hz a (by simp [ha])]
  | [], [], _ :: _, _, h, _, _, _ => by simp at h
  | [], _ :: _, _, h, _, _, _, _ => by simp at h
  | _ :: _, [], _, h, _, _, _, _ => by simp at h
  | _ :: _, _ :: _, [], _, h, _, _, _ => by simp at h

theorem sprG_in (hD : ∀ i ys, ∀ x ∈ O.D i ys, P x) : ∀ (f i : Nat) (xs : List Int), ∀ x ∈ sprG O f i xs, P x
  | 0, _, _ => by simp [sprG]
  | f + 1, i, xs => by
    unfold sprG
    split
    · simp
    · intro x hx
      rcases List.mem_append.1 hx with h | h
      · exact hD _ _ x (List.mem_of_mem_take h)
      · exact sprG_in hD f (i + 1) _ x h
theorem spread_in (hD : ∀ i ys, ∀ x ∈ O.D i ys, P x) (xs : List Int) : ∀ x ∈ spread O xs, P x := sprG_in hD _ _ _
theorem through_in (hD : ∀ i ys, ∀ x ∈ O.D i ys, P x) (n : Nat) : ∀ (c : Nat) (acc xs : List Int), (∀ x ∈ acc, P x) → ∀ x ∈ through O n c acc xs, P x
  | 0, _, _, h => h
  | c + 1, acc, xs, _ => through_in hD n c _ _ (spread_in hD _)
theorem before_in (hD : ∀ i ys, ∀ x ∈ O.D i ys, P x) (h0 : P 0) (n : Nat) (xs : List Int) : ∀ x ∈ before O n xs, P x :=
  through_in hD n _ _ _ fun x hx => by rw [(List.mem_replicate.1 hx).2]; exact h0
theorem before_length (hs : 0 < O.size) (hD : ∀ i ys, (O.D i ys).length = O.size) (n : Nat) (xs : List Int) : (before O n xs).length = n := by
  unfold before; rw [through_length O hs hD]; simp

variable (G : Good O P) (hs : 0 < O.size) (hD : ∀ i ys, (O.D i ys).length = O.size) (hDi : ∀ i ys, ∀ x ∈ O.D i ys, P x) (h0 : P 0)

theorem split_parts {secret random : List Int} (hs : 0 < O.size) (hD : ∀ i ys, (O.D i ys).length = O.size) : (split O secret random).length = random.length + secret.length ∧
    (split O secret random).take random.length = random ∧ (split O secret random).drop random.length = addL O (before O secret.length random) secret := by
  unfold split
  refine ⟨by rw [List.length_append, addL_length, before_length hs hD], ?_, ?_⟩
  · rw [List.take_left']; rfl
  · rw [List.drop_left']; rfl

/-- what was split is merged again -/
theorem merge_split (G : Good O P) (hs : 0 < O.size) (hD : ∀ i ys, (O.D i ys).length = O.size) (hDi : ∀ i ys, ∀ x ∈ O.D i ys, P x) (h0 : P 0) {secret random : List Int} (hsec : ∀ x ∈ secret, P x) : merge O secret.length (split O secret random) = secret := by
  obtain ⟨h1, h2, h3⟩ := split_parts (O := O) (secret := secret) (random := random) hs hD
  unfold merge
  rw [h1, Nat.add_sub_cancel, h2, h3]
  exact addL_twice G (before_length hs hD _ _) (before_in hDi h0 _ _) hsec

/-- a mask over the last stripe is one over the secret -/
theorem merge_mask (G : Good O P) (hs : 0 < O.size) (hD : ∀ i ys, (O.D i ys).length = O.size) (hDi : ∀ i ys, ∀ x ∈ O.D i ys, P x) (h0 : P 0) {n : Nat} {m mask : List Int} (hm : ∀ x ∈ m, P x) (hk : ∀ x ∈ mask, P x) (hl : mask.length = n) (hn : n ≤ m.length) :
    merge O n (m.take (m.length - n) ++ addL O (m.drop (m.length - n)) mask) = addL O (merge O n m) mask := by
  have hl2 : (m.take (m.length - n) ++ addL O (m.drop (m.length - n)) mask).length = m.length := by rw [List.length_append, addL_length, List.length_take, List.length_drop]; omega
  have e1 : (m.take (m.length - n) ++ addL O (m.drop (m.length - n)) mask).take (m.length - n) = m.take (m.length - n) := List.take_left' (by rw [List.length_take]; omega)
  have e2 : (m.take (m.length - n) ++ addL O (m.drop (m.length - n)) mask).drop (m.length - n) = addL O (m.drop (m.length - n)) mask := List.drop_left' (by rw [List.length_take]; omega)
  unfold merge
  rw [hl2, e1, e2, addL_assoc G (by rw [before_length hs hD, List.length_drop]; omega) (by rw [List.length_drop, hl]; omega) (before_in hDi h0 _ _) (fun x hx => hm x (List.mem_of_mem_drop hx)) hk]

/-- material that is merged is split into itself -/
theorem split_merge (G : Good O P) (hs : 0 < O.size) (hD : ∀ i ys, (O.D i ys).length = O.size) (hDi : ∀ i ys, ∀ x ∈ O.D i ys, P x) (h0 : P 0) {n : Nat} {m : List Int} (hm : ∀ x ∈ m, P x) (hn : n ≤ m.length) : split O (merge O n m) (m.take (m.length - n)) = m := by
  unfold split merge
  have hl : (addL O (before O n (m.take (m.length - n))) (m.drop (m.length - n))).length = n := by rw [addL_length, before_length hs hD]
  rw [hl, addL_twice G (by rw [before_length hs hD, List.length_drop]; omega) (before_in hDi h0 _ _) fun x hx => hm x (List.mem_of_mem_drop hx), List.take_append_drop]

end Go.Shr

/- Stripes on the machine: a stripe is mixed in; a piece's digest. -/
set_option linter.unusedVariables false
set_option maxRecDepth 100000
namespace Go.Sh
open Go.Fw Go.Sha Go.RowKit Go.Proofs.Tryd

/-- two bytes added -/
def xr8 (x y : Int) : Int := bits .xor .u8 x y

/-- the number of a piece -/
def be4 (i : Nat) : List Int := [IntKind.u8.wrap (Int.fdiv (i : Int) (2 ^ 24)), IntKind.u8.wrap (Int.fdiv (i : Int) (2 ^ 16)), IntKind.u8.wrap (Int.fdiv (i : Int) (2 ^ 8)), IntKind.u8.wrap (i : Int)]

/-- what the program and the document reckon by -/
def ops (h : Int) (C S : List Int) : Shr.Ops := ⟨(h / 8).toNat, fun i ys => digestOf h C (firstH S h) (be4 i ++ ys), xr8⟩

theorem wrap8_in (x : Int) : InK .u8 (IntKind.u8.wrap x) := by
  rw [IntKind.wrap_u8]
  refine ⟨by omega, ?_⟩
  show x % 256 < 2 ^ 8
  omega
theorem be4_in (i : Nat) : ∀ x ∈ be4 i, InK .u8 x := by
  intro x hx
  simp only [be4, List.mem_cons, List.not_mem_nil, or_false] at hx
  rcases hx with rfl | rfl | rfl | rfl <;> exact wrap8_in _
theorem be4_len (i : Nat) : (be4 i).length = 4 := rfl

theorem ops_size {h : Int} (hk : known h = true) (C S : List Int) : 28 ≤ (ops h C S).size ∧ (ops h C S).size ≤ 64 ∧ sizeOfH h = (((ops h C S).size : Nat) : Int) := by
  have hc : h = 224 ∨ h = 256 ∨ h = 384 ∨ h = 512 := by simpa [known, or_assoc] using hk
  have e : (ops h C S).size = (h / 8).toNat := rfl
  unfold sizeOfH
  rw [if_pos hk, e]
  rcases hc with rfl | rfl | rfl | rfl <;> decide

theorem digest_len {h : Int} (hk : known h = true) (C H0 xs : List Int) : (digestOf h C H0 xs).length = (h / 8).toNat := by
  have hc : h = 224 ∨ h = 256 ∨ h = 384 ∨ h = 512 := by simpa [known, or_assoc] using hk
  unfold digestOf
  rw [List.length_take, outW_len]
  rcases hc with rfl | rfl | rfl | rfl <;> rfl

theorem ops_D {h : Int} (hk : known h = true) (C S : List Int) (i : Nat) (ys : List Int) : ((ops h C S).D i ys).length = (ops h C S).size := digest_len hk C _ _
theorem ops_in {h : Int} (C S : List Int) (i : Nat) (ys : List Int) : ∀ x ∈ (ops h C S).D i ys, InK .u8 x := digestOf_in h C _ _

theorem xr8_nat {a b : Nat} (ha : a < 256) (hb : b < 256) : xr8 (a : Int) (b : Int) = ((a ^^^ b : Nat) : Int) := (bits_nats (k := .u8) rfl ha hb).2.2
theorem ops_good (h : Int) (C S : List Int) : Shr.Good (ops h C S) (InK .u8) := by
  refine ⟨fun hx hy => InK.xor rfl hx hy, fun {x y} hx hy => ?_, fun {x y z} hx hy hz => ?_⟩
  · obtain ⟨a, rfl, ha⟩ := hx.nat
    obtain ⟨b, rfl, hb⟩ := hy.nat
    show xr8 a (xr8 a b) = b
    rw [xr8_nat ha hb, xr8_nat ha (Nat.xor_lt_two_pow (n := 8) ha hb), ← Nat.xor_assoc, Nat.xor_self, Nat.zero_xor]
  · obtain ⟨a, rfl, ha⟩ := hx.nat
    obtain ⟨b, rfl, hb⟩ := hy.nat
    obtain ⟨c, rfl, hc⟩ := hz.nat
    show xr8 (xr8 a b) c = xr8 a (xr8 b c)
    rw [xr8_nat ha hb, xr8_nat hb hc, xr8_nat (Nat.xor_lt_two_pow (n := 8) ha hb) hc, xr8_nat ha (Nat.xor_lt_two_pow (n := 8) hb hc), Nat.xor_assoc]

/-- a blender that lies somewhere; its bytes -/
structure BlAt (w : World) (p : Addr) (h : Int) (sb : Sl) (xs : List Int) : Prop where
  ex : ∃ e g o cs, p = ⟨g, o, none⟩ ∧ Bk e w g cs ∧ cs[o]? = some (.int .i64 h) ∧ cs[o + 1]? = some (slV sb)
  own : OwnS 5 w sb (ints .u8 xs)
  ne : sb.blk ≠ some p.block
  inn : ∀ x ∈ xs, InK .u8 x

theorem BlAt.upd {w w' : World} {p : Addr} {h : Int} {sb : Sl} {xs : List Int} {S : Nat → Prop} (b : BlAt w p h sb xs) (u : Upd S w w') (h1 : ¬ S p.block) (h2 : ∀ k, sb.blk = some k → ¬ S k) : BlAt w' p h sb xs := by
  obtain ⟨e, g, o, cs, rfl, hb, c1, c2⟩ := b.ex
  exact ⟨⟨e, g, o, cs, rfl, hb.upd u h1, c1, c2⟩, b.own.upd u h2, b.ne, b.inn⟩
theorem BlAt.upd0 {w w' : World} {p : Addr} {h : Int} {sb : Sl} {xs : List Int} (b : BlAt w p h sb xs) (u : Upd none_ w w') : BlAt w' p h sb xs := b.upd u id fun _ _ => id
theorem BlAt.to {w w' : World} {p : Addr} {h : Int} {sb : Sl} {xs ys : List Int} (b : BlAt w p h sb xs) (u : Upd (fun k => sb.blk = some k) w w') (ho : OwnS 5 w' sb (ints .u8 ys)) (hi : ∀ y ∈ ys, InK .u8 y) : BlAt w' p h sb ys := by
  obtain ⟨e, g, o, cs, rfl, hb, c1, c2⟩ := b.ex
  exact ⟨⟨e, g, o, cs, rfl, hb.upd u b.ne, c1, c2⟩, ho, b.ne, hi⟩
theorem BlAt.hash {w : World} {p : Addr} {h : Int} {sb : Sl} {xs : List Int} (b : BlAt w p h sb xs) : ldI .i64 (p.add 0) w = some h := by
  obtain ⟨e, g, o, cs, rfl, hb, c1, c2⟩ := b.ex
  rw [add_lit]; exact hb.ldI c1
theorem BlAt.sl {w : World} {p : Addr} {h : Int} {sb : Sl} {xs : List Int} (b : BlAt w p h sb xs) : ldS ((p.add 1).add 0) w = some sb := by
  obtain ⟨e, g, o, cs, rfl, hb, c1, c2⟩ := b.ex
  rw [add_lit, add_lit]; exact hb.ldS c2
theorem BlAt.blk {w : World} {p : Addr} {h : Int} {sb : Sl} {xs : List Int} (b : BlAt w p h sb xs) : p.block < w.heap.size := by
  obtain ⟨e, g, o, cs, rfl, hb, c1, c2⟩ := b.ex
  exact hb.lt
theorem BlAt.len {w : World} {p : Addr} {h : Int} {sb : Sl} {xs : List Int} (b : BlAt w p h sb xs) : sb.len = xs.length := by rw [b.own.len, ints_length]

/-! ### mix -/

def addFrom : List Int → Nat → List Int → List Int
  | zs, _, [] => zs
  | zs, i, y :: r => addFrom (zs.set i (xr8 (zs.getD i 0) y)) (i + 1) r

theorem addFrom_eq (h : Int) (C S : List Int) : ∀ (r zs : List Int) (i : Nat), i + r.length ≤ zs.length → addFrom zs i r = zs.take i ++ Shr.addL (ops h C S) (zs.drop i) r
  | [], zs, i, _ => by
    show zs = _
    have : Shr.addL (ops h C S) (zs.drop i) [] = zs.drop i := by cases zs.drop i <;> rfl
    rw [this, List.take_append_drop]
  | y :: r, zs, i, hl => by
    have hi : i < zs.length := by simp at hl; omega
    show addFrom (zs.set i _) (i + 1) r = _
    rw [addFrom_eq h C S r _ (i + 1) (by simp at hl ⊢; omega), drop_getD hi 0]
    show _ = zs.take i ++ (xr8 (zs.getD i 0) y :: Shr.addL (ops h C S) (zs.drop (i + 1)) r)
    rw [List.drop_set_of_lt (by omega), List.take_succ_eq_append_getElem (by simpa using hi)]
    simp [List.take_set_of_le]

theorem mix_loop (K : Nat) {p : Addr} {h : Int} {sb t : Sl} {ys : List Int} (hy : ∀ y ∈ ys, InK .u8 y) (hlen : ys.length < 9223372036854775807) (htb : ∀ q, t.a = some q → ys ≠ [] → sb.blk ≠ some q.block) :
    ∀ (d i n : Nat) (w : World) (zs : List Int), i + d = ys.length → d < n → BlAt w p h sb zs → Src w t (ints .u8 ys) → ys.length ≤ zs.length →
      ∃ w', shred_blender_mix_l0 K n (some p) t ((ys.length : Nat) : Int) (i : Int) w = some ((), w') ∧ BlAt w' p h sb (addFrom zs i (ys.drop i)) ∧ Upd (fun k => sb.blk = some k) w w' := by
  intro d
  induction d with
  | zero =>
    intro i n w zs hi hn hb hs hl
    obtain ⟨n, rfl⟩ : ∃ m, n = m + 1 := ⟨n - 1, by omega⟩
    have hd : decide ((i : Int) < ((ys.length : Nat) : Int)) = false := by simp; omega
    refine ⟨w, ?_, by rw [List.drop_eq_nil_of_le (by omega)]; exact hb, Upd.refl _ _⟩
    show shred_blender_mix_l0_b K (shred_blender_mix_l0 K n) (some p) t ((ys.length : Nat) : Int) (i : Int) w = _
    unfold shred_blender_mix_l0_b
    rw [hd, if_neg (by decide)]
  | succ d ih =>
    intro i n w zs hi hn hb hs hl
    obtain ⟨n, rfl⟩ : ∃ m, n = m + 1 := ⟨n - 1, by omega⟩
    have hiy : i < ys.length := by omega
    have hne : ys ≠ [] := fun e => by rw [e] at hiy; simp at hiy
    have hd : decide ((i : Int) < ((ys.length : Nat) : Int)) = true := by simp; omega
    have htl : t.len = ys.length := by rw [hs.len, ints_length]
    have c1 : (0 : Int) ≤ (i : Int) ∧ (i : Int) < ((t.len : Nat) : Int) := by rw [htl]; omega
    have c2 : (0 : Int) ≤ (i : Int) ∧ (i : Int) < ((sb.len : Nat) : Int) := by rw [hb.len]; omega
    obtain ⟨q, q1, q2⟩ := hs.rds.ld
    obtain ⟨z, z1, z2⟩ := hb.own.rd.ld
    have q1 := q1 hne
    have z1 := z1 (fun e => by rw [e] at hl; simp at hl; exact hne hl)
    have l1 := q2 i hiy
    have l2 := z2 i (by omega)
    obtain ⟨p', w1, s1, s2, s3, s4⟩ := hb.own.st (i := i) (by rw [hb.len]; omega) (.int .u8 (xr8 (zs.getD i 0) ys[i]))
    obtain rfl : p' = z := Option.some.inj (s1.symm.trans z1)
    have hx : ∀ x ∈ zs.set i (xr8 (zs.getD i 0) ys[i]), InK .u8 x := by
      intro x hx
      rcases List.mem_or_eq_of_mem_set hx with hx | rfl
      · exact hb.inn x hx
      · refine InK.xor rfl ?_ (hy _ (List.getElem_mem hiy))
        rw [List.getD_eq_getElem?_getD, List.getElem?_eq_getElem (by omega)]
        exact hb.inn _ (List.getElem_mem _)
    have hb1 := hb.to (ys := zs.set i (xr8 (zs.getD i 0) ys[i])) s4 (by rw [← ints_set_]; exact s3) hx
    have hs1 : Src w1 t (ints .u8 ys) := src_updW hs s4 fun q hq hne => htb q hq hne
    obtain ⟨w2, e1, e2, e3⟩ := ih (i + 1) n w1 _ (by omega) (by omega) hb1 hs1 (by simpa using hl)
    have hw : IntKind.i64.wrap ((i : Int) + 1) = ((i + 1 : Nat) : Int) := by rw [w64 (by omega) (by omega)]; rfl
    have hz : zs[i]'(by omega) = zs.getD i 0 := by rw [List.getD_eq_getElem?_getD, List.getElem?_eq_getElem (by omega)]; rfl
    refine ⟨w2, ?_, ?_, s4.trans' e3 fun _ _ h => h⟩
    · show shred_blender_mix_l0_b K (shred_blender_mix_l0 K n) (some p) t ((ys.length : Nat) : Int) (i : Int) w = _
      unfold shred_blender_mix_l0_b
      have s2' : stC (p'.add i) (.int .u8 (bits .xor .u8 (zs.getD i 0) ys[i])) w = some w1 := s2
      rw [hd, if_pos rfl, q1, Option.bind_some, if_pos c1, Int.toNat_natCast, Nat.mul_one, l1, Option.bind_some, Option.bind_some, hb.sl, Option.bind_some, z1, Option.bind_some, if_pos c2, l2, Option.bind_some, Option.bind_some, if_pos c2, hz, s2', Option.bind_some, hw, e1]
    · rw [List.drop_eq_getElem_cons hiy]; exact e2

theorem mix_ok {K : Nat} (hK : 18446744073709551616 ≤ K) {w : World} {p : Addr} {h : Int} (C S : List Int) {sb t : Sl} {xs ys : List Int} (hb : BlAt w p h sb xs) (hs : Src w t (ints .u8 ys)) (hy : ∀ y ∈ ys, InK .u8 y) (hl : ys.length ≤ xs.length) (hlen : ys.length < 9223372036854775807)
    (htb : ∀ q, t.a = some q → ys ≠ [] → sb.blk ≠ some q.block) :
    ∃ w', shred_blender_mix K (some p) t w = some ((), w') ∧ BlAt w' p h sb (Shr.addL (ops h C S) xs ys) ∧ Upd (fun k => sb.blk = some k) w w' := by
  obtain ⟨w', h1, h2, h3⟩ := mix_loop K hy hlen htb ys.length 0 K w xs (by omega) (by omega) hb hs hl
  have htl : t.len = ys.length := by rw [hs.len, ints_length]
  rw [List.drop_zero, addFrom_eq h C S ys xs 0 (by omega), List.take_zero, List.nil_append, List.drop_zero] at h2
  have h1 : shred_blender_mix_l0 K K (some p) t ((ys.length : Nat) : Int) 0 w = _ := h1
  refine ⟨w', ?_, h2, h3⟩
  unfold shred_blender_mix
  rw [htl, h1, bnd_ok]

/-! ### A list of slices that is laid here -/

theorem parts_new {w w' : World} {g n c : Nat} {ts : List Sl} {xss : List (List Int)} (ho : OwnS 22 w' ⟨some ⟨g, 0, none⟩, n, c⟩ (ts.map slV)) (hne : ts ≠ []) (hl : ts.length = xss.length) (hu : Upd none_ w w') (hg : g < w'.heap.size)
    (hin : ∀ xs ∈ xss, ∀ x ∈ xs, InK .u8 x) (hlen : ∀ xs ∈ xss, xs.length ≤ 140737488351232) (hm : xss.length * 24 ≤ 140737488351232)
    (hs : ∀ i, i < xss.length → Src w (ts.getD i nilS) (ints .u8 (xss.getD i [])) ∧ ∀ q, (ts.getD i nilS).a = some q → xss.getD i [] ≠ [] → q.block < w.heap.size) :
    Parts w' ⟨some ⟨g, 0, none⟩, n, c⟩ xss fun k => k < w'.heap.size := by
  have h0 := ho.1
  have hn : n = xss.length := by rw [List.length_map] at h0; exact (h0.symm.trans hl)
  have hsrc := ho.src (fun v hv => by obtain ⟨x, _, rfl⟩ := List.mem_map.1 hv; rfl)
  refine ⟨hn, ho.cap.1, hin, hlen, hm, .inr ⟨⟨g, 0, none⟩, ts, rfl, hl, hg, ?_, fun i hi => ?_⟩⟩
  · rcases hsrc.rd with ⟨b1, _, _⟩ | ⟨q, b1, b2⟩
    · cases b1
    · obtain rfl := Option.some.inj b1; exact b2
  · obtain ⟨a1, a2⟩ := hs i hi
    exact ⟨a1.upd0 hu, fun q hq hne => ⟨Nat.lt_of_lt_of_le (a2 q hq hne) hu.size, Nat.lt_of_lt_of_le (a2 q hq hne) hu.size⟩⟩

/-- the digest of a piece with its number -/
theorem piece_ok {K : Nat} (hK : 18446744073709551616 ≤ K) {h : Int} (hk : known h = true) {C S : List Int} {w : World} (T : Tabs w C S) {c1 : Addr} {p : Addr} {sb : Sl} {zs : List Int} (hb : BlAt w p h sb zs) {g1 : Nat} (hc : c1 = ⟨g1, 0, none⟩) (h1 : Bk 59 w g1 [.pointer (some p)])
    {t : Sl} {ys : List Int} (hs : Src w t (ints .u8 ys)) (hy : ∀ y ∈ ys, InK .u8 y) (hl : ys.length ≤ 1024) (ht : ∀ q, t.a = some q → ys ≠ [] → q.block < w.heap.size) (i : Nat) :
    ∃ d w', shred_blender_spread_b5 K c1 (i : Int) t w = some ((d, ()), w') ∧ Ans w.heap.size w' d ((ops h C S).D i ys) ∧ Upd none_ w w' := by
  obtain ⟨w2, a1, a2, a3, a4⟩ := bldS_ok sliceB (ints .u8 (be4 i)) (fun v hv => by obtain ⟨x, _, rfl⟩ := List.mem_map.1 hv; rfl) (by simp [be4]) (by simp [be4]) w
  have hs2 := hs.upd0 a3
  obtain ⟨w3, b1, b2, b3, b4⟩ := bldS_ok sliceSS ([⟨some ⟨w.heap.size, 0, none⟩, 4, 4⟩, t].map slV) (fun v hv => by obtain ⟨x, _, rfl⟩ := List.mem_map.1 hv; rfl) (by simp) (by simp) w2
  have hp := parts_new (w := w2) (xss := [be4 i, ys]) b2 (by simp) rfl b3 (by omega) (fun xs hxs => by
      simp only [List.mem_cons, List.not_mem_nil, or_false] at hxs
      rcases hxs with rfl | rfl
      · exact be4_in i
      · exact hy) (fun xs hxs => by
      simp only [List.mem_cons, List.not_mem_nil, or_false] at hxs
      rcases hxs with rfl | rfl
      · rw [be4_len]; decide
      · omega) (by simp) (fun j hj => by
      match j, hj with
      | 0, _ => exact ⟨a2.src ints_one, fun q hq _ => by obtain rfl := Option.some.inj hq; show w.heap.size < _; omega⟩
      | 1, _ => exact ⟨hs2, fun q hq hne => by have := ht q hq hne; omega⟩)
  obtain ⟨d, w4, d1, d2, d3⟩ := Sum_ok hK hk ((T.upd0 a3).upd0 b3) hp (fun _ hk => hk) (by simp [be4_len]; omega)
  have e1 : [be4 i, ys].flatten = be4 i ++ ys := by simp
  rw [e1] at d2
  refine ⟨d, w4, ?_, d2.mono (by omega), (a3.and0 b3).and0 d3⟩
  have l1 := h1.ldP (i := 0) (n := some p) rfl
  have a1' : bldS prog 22 4 #[(0, (.int .u8 (IntKind.u8.wrap (Int.fdiv (i : Int) (2 ^ 24))))), (1, (.int .u8 (IntKind.u8.wrap (Int.fdiv (i : Int) (2 ^ 16))))), (2, (.int .u8 (IntKind.u8.wrap (Int.fdiv (i : Int) (2 ^ 8))))), (3, (.int .u8 (IntKind.u8.wrap (i : Int))))] w = some (⟨some ⟨w.heap.size, 0, none⟩, 4, 4⟩, w2) := a1
  have b1' : bldS prog 68 2 #[(0, (.slice (some ⟨w.heap.size, 0, none⟩) 4 4)), (1, (.slice t.a t.len t.cap))] w2 = some (⟨some ⟨w2.heap.size, 0, none⟩, 2, 2⟩, w3) := b1
  unfold shred_blender_spread_b5
  rw [hc, l1, Option.bind_some, Option.bind_some, hb.hash, Option.bind_some, a1', bnd_ok]
  dsimp only
  rw [b1', bnd_ok]
  have d1' : digest_Sum K h ⟨some ⟨w2.heap.size, 0, none⟩, 2, 2⟩ w3 = some ((d, 0, ()), w4) := d1
  rw [d1', bnd_ok]

end Go.Sh

/- Stripes on the machine: a block is spread, piece by piece. -/
set_option linter.unusedVariables false
set_option maxRecDepth 100000
namespace Go.Sh
open Go.Fw Go.Sha Go.RowKit Go.Proofs.Tryd

theorem seg_take {cs vs : List Value} {o n : Nat} (h : o + vs.length ≤ n) (hn : n ≤ cs.length) : (seg cs o vs).take n = seg (cs.take n) o vs := by
  apply List.ext_getElem?
  intro i
  rw [List.getElem?_take, seg_get (by omega), seg_get (by rw [List.length_take]; omega), List.getElem?_take]
  by_cases c : i < n
  · rw [if_pos c, if_pos c]
  · simp [c, show ¬ i < o by omega, show ¬ i < o + vs.length by omega]

theorem seg_ints {zs us : List Int} {k : Nat} (h : k + us.length ≤ zs.length) : seg (ints .u8 zs) k (ints .u8 us) = ints .u8 (zs.take k ++ us ++ zs.drop (k + us.length)) := by
  unfold seg
  rw [ints_append, ints_append, ints_length, ints_take]
  congr 1
  simp [ints, List.map_drop]

/-- a copy into bytes that were made here -/
theorem own_copy {w : World} {sb d : Sl} {zs us : List Int} (ho : OwnS 5 w sb (ints .u8 zs)) (hd : Src w d (ints .u8 us)) {k : Nat} (hk : k + us.length ≤ zs.length) (h0 : 0 < us.length) :
    ∃ w', cpy prog 22 22 (.slice (sla sb.a k sb.cap 1) (sb.len - k) (sb.cap - k)) (.slice d.a d.len d.cap) w = some (((us.length : Nat) : Int), w') ∧ OwnS 5 w' sb (ints .u8 (zs.take k ++ us ++ zs.drop (k + us.length))) ∧ Upd (fun j => sb.blk = some j) w w' := by
  have hl : sb.len = zs.length := by rw [ho.len, ints_length]
  have hne : ints .u8 zs ≠ [] := fun e => by
    have h2 : (ints .u8 zs).length = 0 := by rw [e]; rfl
    rw [ints_length] at h2; omega
  obtain ⟨g, cs, a1, a2, a3, a4, a5, a6⟩ := ho.bk hne
  have hdl : d.len = us.length := by rw [hd.len, ints_length]
  have hmin : min d.len (sb.len - k) = us.length := by omega
  have hs : sla sb.a k sb.cap 1 = some ⟨g, k, none⟩ := by rw [a1, sla_some (by omega), add_lit, Nat.zero_add]
  obtain ⟨w', c1, c2, c3⟩ := cpy_ok hd a2 (o := k) (dLen := sb.len - k) (dCap := sb.cap - k) (by omega)
  rw [hmin] at c1 c2
  rw [List.take_of_length_le (by rw [ints_length]; omega)] at c2
  have hown := OwnS.of_bk c2 a3 a4 (by rw [seg_length (by rw [ints_length]; omega)]; exact a5)
  have hsb : sb = ⟨some ⟨g, 0, none⟩, sb.len, sb.cap⟩ := by cases sb; simp_all
  rw [seg_take (by rw [ints_length]; omega) (by omega), a6, seg_ints hk, ← hsb] at hown
  refine ⟨w', by rw [hs]; exact c1, hown, c3.mono fun j _ hj => by rw [hj]; simp [Sl.blk, a1]⟩

theorem Upd.putObj (w : World) (l : Nat) (o : Obj) : Upd (· = l) w (w.putObj l o) := (Upd.of_grown (grownBy_putObj' w l o)).mono fun k _ h => by have := h; simpa using this

/-- what holds between two rounds -/
structure It (W : World) (T : FuncId × Array Value) (D l gb gs g1 g2 N0 : Nat) (p : Addr) (h : Int) (C S : List Int) (sb sc : Sl) (zs ys : List Int) (k size : Nat) : Prop where
  hl : W.heap[l]? = some (rcd T D .ready)
  hD : W.heap[D]? = some (.deferred (some []))
  bb : Bk 22 W gb [slV sc]
  bs : Bk 3 W gs [.int .i64 ((size : Nat) : Int)]
  b1 : Bk 59 W g1 [.pointer (some p)]
  b2 : Bk 3 W g2 [.int .i64 ((k : Nat) : Int)]
  bl : BlAt W p h sb zs
  src : Src W sc (ints .u8 ys)
  inn : ∀ y ∈ ys, InK .u8 y
  len : zs.length = k + ys.length
  small : ys.length ≤ 1024
  tab : Tabs W C S
  low : 4 ≤ N0 ∧ (∀ j, sb.blk = some j → 4 ≤ j ∧ j < N0) ∧ p.block < N0
  high : N0 ≤ l ∧ N0 ≤ D ∧ N0 ≤ gb ∧ N0 ≤ gs ∧ N0 ≤ g1 ∧ N0 ≤ g2
  apart : l ≠ D ∧ l ≠ gb ∧ l ≠ gs ∧ l ≠ g1 ∧ l ≠ g2 ∧ D ≠ gb ∧ D ≠ g2 ∧ gb ≠ gs ∧ gb ≠ g1 ∧ gb ≠ g2 ∧ gs ≠ g2 ∧ g1 ≠ g2
  sa : ∀ q, sc.a = some q → ys ≠ [] → N0 ≤ q.block ∧ q.block < W.heap.size ∧ q.block ≠ l ∧ q.block ≠ gb ∧ q.block ≠ g2

theorem slV_ld {w : World} {e : TypeId} {g : Nat} {sc : Sl} (h : Bk e w g [slV sc]) : ldS ⟨g, 0, none⟩ w = some sc := h.ldS rfl

theorem It.step {K : Nat} (hK : 18446744073709551616 ≤ K) {W : World} {T : FuncId × Array Value} {D l gb gs g1 g2 N0 : Nat} {p : Addr} {h : Int} (hk : known h = true) {C S : List Int} {sb sc : Sl} {zs ys : List Int} {k : Nat}
    (H : It W T D l gb gs g1 g2 N0 p h C S sb sc zs ys k (ops h C S).size) (hne : ys ≠ []) {i : Nat} (hi : i < 4294967295) {n : Nat} (hn : n = min (ops h C S).size ys.length) :
    ∃ W', sprStep K T D l ⟨g1, 0, none⟩ ⟨g2, 0, none⟩ ⟨gb, 0, none⟩ ⟨gs, 0, none⟩ (i : Int) W = some W' ∧
      It W' T D l gb gs g1 g2 N0 p h C S sb ⟨sla sc.a n sc.cap 1, sc.len - n, sc.cap - n⟩ (zs.take k ++ ((ops h C S).D i (ys.take n)).take n ++ zs.drop (k + n)) (ys.drop n) (k + n) (ops h C S).size ∧
      Upd (fun j => sb.blk = some j ∨ N0 ≤ j) W W' := by
  obtain ⟨z1, z2, z3⟩ := ops_size hk C S
  have hyl : 0 < ys.length := List.length_pos_iff.2 hne
  have hsl : sc.len = ys.length := by rw [H.src.len, ints_length]
  have hcap := H.src.cap
  have hn0 : 0 < n := by omega
  have hny : n ≤ ys.length := by omega
  have hsz : n ≤ (ops h C S).size := by omega
  have hsm := H.small
  obtain ⟨a1, a2, a3, a4, a5, a6, a7, a8, a9, a10, a11, a12⟩ := H.apart
  obtain ⟨h1, h2, h3, h4, h5, h6⟩ := H.high
  obtain ⟨lo1, lo2, lo3⟩ := H.low
  -- the iterator's piece
  have r3 : shred_pieces_1_r3 K ⟨gb, 0, none⟩ ⟨gs, 0, none⟩ W = some ((((n : Nat) : Int), ()), W) := by
    unfold shred_pieces_1_r3
    rw [H.bs.ldI (i := 0) rfl, Option.bind_some, slV_ld H.bb, Option.bind_some, hsl]
    have : (if ((ys.length : Nat) : Int) < (((ops h C S).size : Nat) : Int) then ((ys.length : Nat) : Int) else (((ops h C S).size : Nat) : Int)) = ((n : Nat) : Int) := by
      split <;> omega
    rw [this]
  obtain ⟨t, ht⟩ : ∃ t : Sl, t = ⟨sla sc.a 0 n 1, n, n⟩ := ⟨_, rfl⟩
  have r4 : shred_pieces_1_r4 K (.func (.yield l) #[] #[]) ⟨gb, 0, none⟩ (i : Int) ((n : Nat) : Int) W = some ((.func (.yield l) #[] #[], (i : Int), t, ()), W) := by
    unfold shred_pieces_1_r4
    have c1 : (0 : Int) ≤ ((n : Nat) : Int) ∧ ((n : Nat) : Int) ≤ ((sc.cap : Nat) : Int) := by omega
    rw [slV_ld H.bb, Option.bind_some, if_pos c1, Int.toNat_natCast, if_pos (by omega), ht]
    rfl
  have hts : Src W t (ints .u8 (ys.take n)) := by
    have hc := H.src.cut (n := n) (by omega)
    rw [ints_take] at hc
    rw [ht, sla_zero]
    exact ⟨hc.len, Nat.le_refl _, by
      rcases hc.rd with ⟨e1, e2, e3⟩ | e
      · exfalso
        have h2 : (ints .u8 (ys.take n)).length = 0 := by rw [e3]; rfl
        rw [ints_length, List.length_take] at h2; omega
      · exact .inr e, hc.one⟩
  have hta : ∀ q, t.a = some q → sc.a = some q := fun q hq => by rw [ht, sla_zero] at hq; exact hq
  have hta2 : ∀ q, t.a = some q → ys.take n ≠ [] → q.block < (W.putObj l (rcd T D .busy)).heap.size := fun q hq _ => by rw [World.putObj_size]; exact (H.sa q (hta q hq) hne).2.1
  -- the round begins
  have u0 := Upd.putObj W l (rcd T D .busy)
  have T0 := H.tab.upd u0 fun j hj e => by omega
  have bl0 := H.bl.upd u0 (by omega) fun j hj e => by have := lo2 j hj; omega
  have hlW : l < W.heap.size := (Array.getElem?_eq_some_iff.1 H.hl).1
  have hl0 : (W.putObj l (rcd T D .busy)).heap[l]? = some (rcd T D .busy) := World.putObj_heap_same hlW
  obtain ⟨d, w1, e1, e2, u1⟩ := piece_ok hK hk T0 bl0 rfl (H.b1.upd u0 (fun e => a4 e.symm)) (hts.upd u0 fun q hq e => (H.sa q (hta q hq) hne).2.2.1 e) (fun y hy => H.inn y (List.mem_of_mem_take hy)) (by rw [List.length_take]; omega) hta2 i
  -- its bytes are copied
  have hdl : ((ops h C S).D i (ys.take n)).length = (ops h C S).size := ops_D hk C S _ _
  have hdlen : d.len = (ops h C S).size := by rw [e2.src.len, ints_length, hdl]
  have bl1 := bl0.upd0 u1
  have hdc : d.len ≤ d.cap := e2.src.cap
  have hsrcd : Src w1.drew ⟨sla d.a 0 d.cap 1, n, d.cap⟩ (ints .u8 (((ops h C S).D i (ys.take n)).take n)) := by
    have := (e2.src.cut (n := n) (by omega)).upd0 (Upd.refl none_ w1).drew
    rw [ints_take] at this
    rw [sla_zero]; exact this
  have hul : (((ops h C S).D i (ys.take n)).take n).length = n := by rw [List.length_take, hdl]; omega
  have hzl := H.len
  obtain ⟨w2, f1, f2, f3⟩ := own_copy (bl1.own.upd0 (Upd.refl none_ w1).drew) hsrcd (k := k) (by rw [hul]; omega) (by omega)
  rw [hul] at f1 f2
  have b2' : Bk 3 w1.drew g2 [.int .i64 ((k : Nat) : Int)] := ((H.b2.upd u0 (fun e => a5 e.symm)).upd0 u1).drew
  have b2'' := b2'.upd f3 (fun e => by have := lo2 _ e; omega)
  obtain ⟨w3, g1', g2', g3'⟩ := b2''.stC (i := 0) (by simp) (.int .i64 ((k + n : Nat) : Int))
  have hw : IntKind.i64.wrap (((k : Nat) : Int) + ((n : Nat) : Int)) = ((k + n : Nat) : Int) := by
    have := hzl
    have h2 : k + n ≤ zs.length := by omega
    have h3 : zs.length < 9223372036854775808 := by
      have := bl1.own.cap
      have hm : maxLen ≤ 9223372036854775807 := by decide
      rw [bl1.len] at this; omega
    rw [w64 (by omega) (by omega)]; rfl
  have b6 : shred_blender_spread_b6 K ⟨g1, 0, none⟩ ⟨g2, 0, none⟩ t d w1 = some ((), w3) := by
    have k1 : Bk 59 w1.drew g1 [.pointer (some p)] := ((H.b1.upd u0 (fun e => a4 e.symm)).upd0 u1).drew
    have blD := bl1.upd0 (Upd.refl none_ w1).drew
    have c1 : (0 : Int) ≤ ((t.len : Nat) : Int) ∧ ((t.len : Nat) : Int) ≤ ((d.cap : Nat) : Int) := by rw [ht]; constructor <;> simp only <;> omega
    have c2 : (0 : Int) ≤ ((k : Nat) : Int) ∧ ((k : Nat) : Int) ≤ ((sb.len : Nat) : Int) := by rw [bl1.len]; omega
    have tl : t.len = n := by rw [ht]
    unfold shred_blender_spread_b6
    rw [if_pos c1, k1.ldP (i := 0) rfl, Option.bind_some, Option.bind_some, blD.sl, Option.bind_some, b2'.ldI (i := 0) rfl, Option.bind_some, if_pos c2, Option.bind_some, Int.toNat_natCast, Int.toNat_natCast, tl, Nat.sub_zero, Nat.sub_zero]
    have f1' : cpy prog 22 22 (.slice (sla sb.a k sb.cap 1) (sb.len - k) (sb.cap - k)) (.slice (sla d.a 0 d.cap 1) n d.cap) w1.drew = some (((n : Nat) : Int), w2) := f1
    rw [f1', bnd_ok, b2''.ldI (i := 0) rfl, Option.bind_some, sameK_self, hw, g1', Option.bind_some]
  have bl3 : BlAt w3 p h sb (zs.take k ++ ((ops h C S).D i (ys.take n)).take n ++ zs.drop (k + n)) := by
    have := (bl1.upd0 (Upd.refl none_ w1).drew).to f3 f2 (fun y hy => by
      rcases List.mem_append.1 hy with hy | hy
      · rcases List.mem_append.1 hy with hy | hy
        · exact H.bl.inn y (List.mem_of_mem_take hy)
        · exact ops_in C S _ _ y (List.mem_of_mem_take hy)
      · exact H.bl.inn y (List.mem_of_mem_drop hy))
    exact this.upd g3' (by omega) fun j hj e => by have := lo2 j hj; omega
  have hlt : ∀ {j : Nat}, N0 ≤ j → ¬ sb.blk = some j := fun hj e => by have := lo2 _ e; omega
  -- from w1 on: what is not sb's, nor g2
  have u13 : Upd (fun j => sb.blk = some j ∨ j = g2) w1 w3 := ((Upd.refl none_ w1).drew.trans f3).trans g3' |>.mono fun j _ hj => by
    rcases hj with (hj | hj) | hj
    · exact hj.elim
    · exact .inl hj
    · exact .inr hj
  have u03 : Upd (fun j => sb.blk = some j ∨ j = g2) (W.putObj l (rcd T D .busy)) w3 := (u1.trans u13).mono fun j _ hj => hj.elim (fun h => h.elim) id
  have hl3 : w3.heap[l]? = some (rcd T D .busy) := (u03.block l (by rw [World.putObj_size]; exact hlW) (by
    rintro (e | e)
    · exact hlt h1 e
    · exact a5 e)).trans hl0
  -- the round ends
  have u4 := Upd.putObj w3 l (rcd T D .ready)
  have u14 : Upd (fun j => sb.blk = some j ∨ j = g2 ∨ j = l) W (w3.putObj l (rcd T D .ready)) := ((u0.trans u03).trans u4).mono fun j _ hj => by
    rcases hj with (hj | hj | hj) | hj
    · exact .inr (.inr hj)
    · exact .inl hj
    · exact .inr (.inl hj)
    · exact .inr (.inr hj)
  have bb4 := H.bb.upd u14 (by
    rintro (e | e | e)
    · exact hlt h3 e
    · exact a10 e
    · exact a2 e.symm)
  obtain ⟨w5, q1, q2, q3⟩ := bb4.stC (i := 0) (by simp) (slV ⟨sla sc.a n sc.cap 1, sc.len - n, sc.cap - n⟩)
  have r5 : shred_pieces_1_r5 K ⟨gb, 0, none⟩ ((n : Nat) : Int) (w3.putObj l (rcd T D .ready)) = some ((), w5) := by
    have c1 : (0 : Int) ≤ ((n : Nat) : Int) ∧ ((n : Nat) : Int) ≤ ((sc.len : Nat) : Int) := by omega
    unfold shred_pieces_1_r5
    rw [slV_ld bb4, Option.bind_some, if_pos c1, Int.toNat_natCast]
    have q1' : stC ⟨gb, 0, none⟩ (.slice (sla sc.a n sc.cap 1) (sc.len - n) (sc.cap - n)) (w3.putObj l (rcd T D .ready)) = some w5 := q1
    rw [q1', Option.bind_some]
  have uAll : Upd (fun j => sb.blk = some j ∨ j = g2 ∨ j = l ∨ j = gb) W w5 := (u14.trans q3).mono fun j _ hj => by
    rcases hj with (hj | hj | hj) | hj
    · exact .inl hj
    · exact .inr (.inl hj)
    · exact .inr (.inr (.inl hj))
    · exact .inr (.inr (.inr hj))
  have hl5 : w5.heap[l]? = some (rcd T D .ready) := (q3.block l (by rw [World.putObj_size]; exact (Array.getElem?_eq_some_iff.1 hl3).1) (fun e => a2 e)).trans (World.putObj_heap_same (Array.getElem?_eq_some_iff.1 hl3).1)
  refine ⟨w5, ?_, ⟨hl5, ?_, ?_, ?_, ?_, ?_, ?_, ?_, fun y hy => H.inn y (List.mem_of_mem_drop hy), ?_, by rw [List.length_drop]; omega, ?_, H.low, H.high, H.apart, ?_⟩, uAll.mono fun j _ hj => ?_⟩
  · unfold sprStep
    rw [r3, bnd_ok]
    dsimp only
    rw [r4, bnd_ok]
    dsimp only
    rw [if_pos H.hl, e1, bnd_ok]
    dsimp only
    rw [b6, bnd_ok, if_pos hl3, r5, bnd_ok]
  · refine (uAll.block D (Array.getElem?_eq_some_iff.1 H.hD).1 ?_).trans H.hD
    rintro (e | e | e | e)
    · exact hlt h2 e
    · exact a7 e
    · exact a1 e.symm
    · exact a6 e
  · simpa using q2
  · refine H.bs.upd uAll ?_
    rintro (e | e | e | e)
    · exact hlt h4 e
    · exact a11 e
    · exact a3 e.symm
    · exact a8 e.symm
  · refine H.b1.upd uAll ?_
    rintro (e | e | e | e)
    · exact hlt h5 e
    · exact a12 e
    · exact a4 e.symm
    · exact a9 e.symm
  · have := (g2'.upd u4 (fun e => a5 e.symm)).upd q3 (fun e => a10 e.symm)
    simpa using this
  · exact (bl3.upd u4 (by omega) fun j hj e => by have := lo2 j hj; omega).upd q3 (by omega) fun j hj e => by have := lo2 j hj; omega
  · have := src_sub (H.src) (lo := n) (by rw [ints_length]; omega)
    have e : (ints .u8 ys).drop n = ints .u8 (ys.drop n) := by simp [ints, List.map_drop]
    rw [e] at this
    refine src_updW this uAll fun q hq _ => ?_
    obtain ⟨q', hq', eb⟩ := sla_blk hq
    obtain ⟨s1, s2, s3, s4, s5⟩ := H.sa q' hq' hne
    rw [eb]
    rintro (e | e | e | e)
    · exact hlt s1 e
    · exact s5 e
    · exact s3 e
    · exact s4 e
  · rw [List.length_append, List.length_append, List.length_take, hul, List.length_drop, List.length_drop]; omega
  · exact H.tab.upd uAll fun j hj => by
      rintro (e | e | e | e)
      · have := lo2 j e; omega
      · omega
      · omega
      · omega
  · intro q hq hne2
    obtain ⟨q', hq', eb⟩ := sla_blk hq
    obtain ⟨s1, s2, s3, s4, s5⟩ := H.sa q' hq' hne
    have := uAll.size
    rw [eb]
    exact ⟨s1, by omega, s3, s4, s5⟩
  · rcases hj with hj | hj | hj | hj
    · exact .inl hj
    · exact .inr (by omega)
    · exact .inr (by omega)
    · exact .inr (by omega)

end Go.Sh

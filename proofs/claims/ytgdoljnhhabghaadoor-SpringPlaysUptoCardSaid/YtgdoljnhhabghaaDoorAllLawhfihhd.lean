/- Texts of this claim, put together: Expand, SprA, SprB, SprC, SprD, SprE, SprF, SprG, SprH, SprI, SprJ, SprK, SprQ, SprO, SprS, SprR -/
import Derived.Test.YtgdoljnhhabghaaDoorAllShnhaioe
import Derived.Test.YtgdoljnhhabghaaDoorAllLawfbeiej
import Derived.Lib.MakeNoZero
import Derived.Deep.Slices
import Derived.Test.YtgdoljnhhabghaaDoorRows
/- Expand of package digest and of the document's answer. -/
set_option linter.unusedVariables false
namespace Go.Sh
open Go.Fw Go.Sha Go.RowKit Go.Proofs.Tryd

/-- a part as it may stand in a list -/
def PartOk (w : World) (p : Sl × List Int) : Prop := Src w p.1 (ints .u8 p.2) ∧ (∀ x ∈ p.2, InK .u8 x) ∧ p.2.length ≤ 140737488351232 ∧ ∀ q, p.1.a = some q → p.2 ≠ [] → q.block < w.heap.size

/-- a list of parts -/
theorem some_parts {w : World} (ps : List (Sl × List Int)) (h : ∀ p ∈ ps, PartOk w p) (h0 : 0 < ps.length) (hn : ps.length ≤ 1024) :
    ∃ w', bldS prog 32 ps.length ((ps.map fun p => slV p.1).zipIdx.map fun p => (p.2, p.1)).toArray w = some (⟨some ⟨w.heap.size, 0, none⟩, ps.length, ps.length⟩, w') ∧ Parts w' ⟨some ⟨w.heap.size, 0, none⟩, ps.length, ps.length⟩ (ps.map (·.2)) (fun k => k < w'.heap.size) ∧ Upd none_ w w' := by
  have hlen : (ps.map fun p => slV p.1).length = ps.length := List.length_map ..
  obtain ⟨w2, c1, c2, c3, c4⟩ := bldS_ok sliceSS (ps.map fun p => slV p.1) (fun v hv => by obtain ⟨x, _, rfl⟩ := List.mem_map.1 hv; rfl) (by omega) (by omega) w
  rw [hlen] at c1 c2
  have hs := c3.size
  refine ⟨w2, c1, ⟨by simp, Nat.le_refl _, ?_, ?_, by simp; omega, .inr ⟨⟨w.heap.size, 0, none⟩, ps.map (·.1), rfl, by simp, c2.lt (by simp [Sl.blk]), ?_, fun i hi => ?_⟩⟩, c3⟩
  · intro xs hxs
    obtain ⟨p, hp, rfl⟩ := List.mem_map.1 hxs
    exact (h p hp).2.1
  · intro xs hxs
    obtain ⟨p, hp, rfl⟩ := List.mem_map.1 hxs
    exact (h p hp).2.2.1
  · rcases (c2.src (fun v hv => by obtain ⟨x, _, rfl⟩ := List.mem_map.1 hv; rfl)).rd with ⟨b1, _⟩ | ⟨p, b1, b2⟩
    · cases b1
    · obtain rfl := Option.some.inj b1
      rw [List.map_map]; exact b2
  · have hi2 : i < ps.length := by simpa using hi
    have e1 : (ps.map (·.1)).getD i nilS = ps[i].1 := by simp [List.getD_eq_getElem?_getD, hi2]
    have e2 : (ps.map (·.2)).getD i [] = ps[i].2 := by simp [List.getD_eq_getElem?_getD, hi2]
    obtain ⟨f1, f2, f3, f4⟩ := h ps[i] (List.getElem_mem hi2)
    rw [e1, e2]
    exact ⟨f1.upd0 c3, fun q hq hne => by have := f4 q hq hne; exact ⟨by omega, by omega⟩⟩

/-- a digest's bytes -/
def szH (h : Int) : Nat := (h / 8).toNat
theorem szH_ok {h : Int} (hk : known h = true) : sizeOfH h = ((szH h : Nat) : Int) ∧ 28 ≤ szH h ∧ szH h ≤ 64 := by
  rcases known_cases hk with e | e | e | e <;> subst e <;> exact ⟨rfl, by decide, by decide⟩
theorem digestOf_size {h : Int} (hk : known h = true) (C H0 xs : List Int) : (digestOf h C H0 xs).length = szH h := by
  unfold digestOf
  rw [List.length_take, outW_len]
  rcases known_cases hk with e | e | e | e <;> subst e <;> rfl
theorem macOf_size {h : Int} (hk : known h = true) (C S ks xs : List Int) : (macOf C S h ks xs).length = szH h := digestOf_size hk ..
theorem macOf_in (C S : List Int) (h : Int) (ks xs : List Int) : ∀ x ∈ macOf C S h ks xs, InK .u8 x := digestOf_in h C _ _

/-- the last code behind j of them -/
def expT (C S : List Int) (h : Int) (prk info : List Int) : Nat → List Int
  | 0 => []
  | j + 1 => macOf C S h prk (expT C S h prk info j ++ info ++ [((j + 1 : Nat) : Int)])
/-- j codes, one behind the other -/
def expO (C S : List Int) (h : Int) (prk info : List Int) : Nat → List Int
  | 0 => []
  | j + 1 => expO C S h prk info j ++ expT C S h prk info (j + 1)

theorem expT_len {h : Int} (hk : known h = true) (C S prk info : List Int) : ∀ j, (expT C S h prk info j).length ≤ 64
  | 0 => by simp [expT]
  | j + 1 => by unfold expT; exact macOf_len ..
theorem expT_in {h : Int} (C S prk info : List Int) : ∀ j, ∀ x ∈ expT C S h prk info j, InK .u8 x
  | 0 => by simp [expT]
  | j + 1 => by unfold expT; exact macOf_in C S h prk _
theorem expO_len {h : Int} (hk : known h = true) (C S prk info : List Int) : ∀ j, (expO C S h prk info j).length = j * szH h
  | 0 => by simp [expO]
  | j + 1 => by unfold expO; rw [List.length_append, expO_len hk C S prk info j, Nat.succ_mul]; congr 1; exact macOf_size hk ..

/-- how many codes it takes -/
def cnt (h : Int) (n : Nat) : Nat := (n + szH h - 1) / szH h
theorem cnt_ok {h : Int} (hk : known h = true) {n : Nat} (hn : 0 < n) : n ≤ cnt h n * szH h ∧ 0 < cnt h n ∧ ∀ j, j < cnt h n → j * szH h < n := by
  obtain ⟨_, h1, h2⟩ := szH_ok hk
  unfold cnt
  have h3 := Nat.div_add_mod (n + szH h - 1) (szH h)
  have h4 := Nat.mod_lt (n + szH h - 1) (show 0 < szH h by omega)
  obtain ⟨q, hq⟩ : ∃ q, (n + szH h - 1) / szH h = q := ⟨_, rfl⟩
  rw [hq] at h3 ⊢
  have h5 : szH h * q = q * szH h := Nat.mul_comm ..
  refine ⟨by omega, ?_, fun j hj => ?_⟩
  · cases q with
    | zero => rw [Nat.mul_zero] at h3; omega
    | succ q => omega
  · have : (j + 1) * szH h ≤ q * szH h := Nat.mul_le_mul_right _ hj
    rw [Nat.succ_mul] at this; omega

theorem in_byte {j : Nat} (hj : j < 256) : InK .u8 (j : Int) := ⟨Int.natCast_nonneg _, by simp only [IntKind.bits]; omega⟩

theorem Ans.own {B : Nat} {w : World} {s : Sl} {zs : List Int} (h : Ans B w s zs) : ∀ q, s.a = some q → q.block < w.heap.size := lt_of_blk fun _ hk => h.lt hk

/-- what Expand refuses -/
def expErr (h : Int) (p i : Nat) (n : Int) : Int :=
  if known h = false then 10 else if (p : Int) < sizeOfH h then 15 else if p > 33554432 ∨ i > 33554367 then 4 else if n < 1 ∨ n > 255 * sizeOfH h then 12 else 0
/-- what it tells -/
def expOf (C S : List Int) (h : Int) (prk info : List Int) (n : Int) : List Int :=
  if expErr h prk.length info.length n = 0 then (expO C S h prk info (cnt h n.toNat)).take n.toNat else []

theorem w255 {h : Int} (hk : known h = true) : IntKind.i64.wrap (255 * sizeOfH h) = 255 * sizeOfH h := by
  obtain ⟨e, h1, h2⟩ := szH_ok hk
  rw [e]; exact w64 (by omega) (by omega)

theorem expErr_10 {h : Int} (hk : known h = false) (p i : Nat) (n : Int) : expErr h p i n = 10 := by unfold expErr; rw [if_pos hk]
theorem expErr_15 {h : Int} (hk : known h = true) {p : Nat} (h1 : (p : Int) < sizeOfH h) (i : Nat) (n : Int) : expErr h p i n = 15 := by
  unfold expErr; rw [if_neg (by rw [hk]; decide), if_pos h1]
theorem expErr_4 {h : Int} (hk : known h = true) {p i : Nat} (h1 : ¬ (p : Int) < sizeOfH h) (h2 : p > 33554432 ∨ i > 33554367) (n : Int) : expErr h p i n = 4 := by
  unfold expErr; rw [if_neg (by rw [hk]; decide), if_neg h1, if_pos h2]
theorem expErr_12 {h : Int} (hk : known h = true) {p i : Nat} (h1 : ¬ (p : Int) < sizeOfH h) (h2 : ¬ (p > 33554432 ∨ i > 33554367)) {n : Int} (h3 : n < 1 ∨ n > 255 * sizeOfH h) : expErr h p i n = 12 := by
  unfold expErr; rw [if_neg (by rw [hk]; decide), if_neg h1, if_neg h2, if_pos h3]
theorem expErr_0 {h : Int} (hk : known h = true) {p i : Nat} (h1 : ¬ (p : Int) < sizeOfH h) (h2 : ¬ (p > 33554432 ∨ i > 33554367)) {n : Int} (h3 : ¬ (n < 1 ∨ n > 255 * sizeOfH h)) : expErr h p i n = 0 := by
  unfold expErr; rw [if_neg (by rw [hk]; decide), if_neg h1, if_neg h2, if_neg h3]

theorem expErr_zero {h : Int} {p i : Nat} {n : Int} (he : expErr h p i n = 0) : known h = true ∧ p ≤ 33554432 ∧ i ≤ 33554367 ∧ ∃ m : Nat, n = (m : Int) ∧ 0 < m ∧ m ≤ 255 * szH h := by
  unfold expErr at he
  cases hk : known h with
  | false => rw [hk] at he; simp at he
  | true =>
    rw [hk, if_neg (by decide)] at he
    split at he
    · cases he
    · split at he
      · cases he
      · split at he
        · cases he
        · rename_i h1 h2 h3
          obtain ⟨e, _⟩ := szH_ok hk
          exact ⟨rfl, by omega, by omega, n.toNat, by omega, by omega, by omega⟩

theorem _root_.Go.Fw.Own.front {e : TypeId} {w : World} {s : Sl} {xs : List Value} (h : Own e w s xs) (hne : xs ≠ []) {n c : Nat} (hn : n ≤ s.len) (hc1 : n ≤ c) (hc : c ≤ s.cap) : Vw e w ⟨s.a, n, c⟩ (xs.take n) := by
  obtain ⟨g, cs, a1, a2, a3, a4, a5, a6⟩ := h.bk hne
  refine ⟨by rw [List.length_take, h.1]; exact Nat.min_eq_left hn, .inr ⟨g, 0, cs, a1, a2, hc1, by show c ≤ maxLen; omega, by show 0 + c ≤ cs.length; omega, ?_⟩⟩
  show (cs.drop 0).take n = _
  rw [List.drop_zero, ← a6, List.take_take, Nat.min_eq_left hn]

end Go.Sh

/- A spring in the midst: what its code and its update compute. -/
set_option linter.unusedVariables false
namespace Go.Sh
open Go.Fw Go.Sha Go.RowKit Go.Proofs.Tryd

/-- blocks of two types are two -/
theorem bk_ne {e e' : TypeId} {w : World} {g g' : Nat} {cs cs' : List Value} (h : Bk e w g cs) (h' : Bk e' w g' cs') (hne : e ≠ e') : g ≠ g' := by
  rintro rfl
  unfold Bk at h h'
  rw [h] at h'
  simp only [Option.some.injEq, Obj.cells.injEq] at h'
  exact hne h'.2.1
theorem vw_ne {e e' : TypeId} {w : World} {s : Sl} {xs cs' : List Value} {g : Nat} (h : Vw e w s xs) (h' : Bk e' w g cs') (hne : e ≠ e') : ∀ k, s.blk = some k → k ≠ g := by
  intro k hk
  rcases h.2 with ⟨a1, _, _⟩ | ⟨g1, o, cs, a1, a2, _⟩
  · simp [Sl.blk, a1] at hk
  · have : g1 = k := by simpa [Sl.blk, a1] using hk
    subst this
    exact bk_ne a2 h' hne

/-- a spring of the program's (or the document's, of type t); its key and value lie in blocks of R -/
structure SprAt (R : Nat → Prop) (t : TypeId) (w : World) (g : Nat) (h lim d : Int) (ks vs : List Int) : Prop where
  ex : ∃ sk sv, Bk t w g [.int .i64 h, .int .i64 lim, .int .i64 d, slV sk, slV sv] ∧ Vw 5 w sk (ints .u8 ks) ∧ Vw 5 w sv (ints .u8 vs) ∧ ∀ k, sk.blk = some k ∨ sv.blk = some k → R k
  kin : ∀ x ∈ ks, InK .u8 x
  vin : ∀ x ∈ vs, InK .u8 x
  kl : ks.length ≤ 64
  vl : vs.length ≤ 64

theorem SprAt.lt {R : Nat → Prop} {t : TypeId} {w : World} {g : Nat} {h lim d : Int} {ks vs : List Int} (s : SprAt R t w g h lim d ks vs) : g < w.heap.size := by
  obtain ⟨_, _, h1, _⟩ := s.ex; exact h1.lt
theorem SprAt.mono {R R' : Nat → Prop} {t : TypeId} {w : World} {g : Nat} {h lim d : Int} {ks vs : List Int} (s : SprAt R t w g h lim d ks vs) (hR : ∀ k, R k → R' k) : SprAt R' t w g h lim d ks vs := by
  obtain ⟨sk, sv, h1, h2, h3, h4⟩ := s.ex
  exact ⟨⟨sk, sv, h1, h2, h3, fun k hk => hR k (h4 k hk)⟩, s.kin, s.vin, s.kl, s.vl⟩
theorem SprAt.any {R : Nat → Prop} {t : TypeId} {w : World} {g : Nat} {h lim d : Int} {ks vs : List Int} (s : SprAt R t w g h lim d ks vs) : SprAt (fun _ => True) t w g h lim d ks vs := s.mono fun _ _ => trivial
theorem SprAt.upd {R X : Nat → Prop} {t : TypeId} {w w' : World} {g : Nat} {h lim d : Int} {ks vs : List Int} (s : SprAt R t w g h lim d ks vs) (u : Upd X w w') (hg : ¬ X g) (hX : ∀ k, R k → ¬ X k) : SprAt R t w' g h lim d ks vs := by
  obtain ⟨sk, sv, h1, h2, h3, h4⟩ := s.ex
  exact ⟨⟨sk, sv, h1.upd u hg, h2.upd u (fun k hk => hX k (h4 k (.inl hk))), h3.upd u (fun k hk => hX k (h4 k (.inr hk))), h4⟩, s.kin, s.vin, s.kl, s.vl⟩
/-- a block of another type is changed -/
theorem SprAt.upd1 {R : Nat → Prop} {t t' : TypeId} {w w' : World} {g g' : Nat} {h lim d : Int} {ks vs : List Int} {cs' : List Value} (s : SprAt R t w g h lim d ks vs) (u : Upd (· = g') w w') (hb : Bk t' w g' cs') (ht : t' ≠ 5) (hg : g ≠ g') : SprAt R t w' g h lim d ks vs := by
  obtain ⟨sk, sv, h1, h2, h3, h4⟩ := s.ex
  exact ⟨⟨sk, sv, h1.upd u hg, h2.upd u (fun k hk e => vw_ne h2 hb (fun e => ht e.symm) k hk e), h3.upd u (fun k hk e => vw_ne h3 hb (fun e => ht e.symm) k hk e), h4⟩, s.kin, s.vin, s.kl, s.vl⟩
theorem SprAt.upd0 {R : Nat → Prop} {t : TypeId} {w w' : World} {g : Nat} {h lim d : Int} {ks vs : List Int} (s : SprAt R t w g h lim d ks vs) (u : Upd none_ w w') : SprAt R t w' g h lim d ks vs := by
  obtain ⟨sk, sv, h1, h2, h3, h4⟩ := s.ex
  exact ⟨⟨sk, sv, h1.upd0 u, h2.upd0 u, h3.upd0 u, h4⟩, s.kin, s.vin, s.kl, s.vl⟩

theorem codeOf_len6 (C S : List Int) (h : Int) (ks xs : List Int) : (codeOf C S h ks xs).length ≤ 64 := by
  unfold codeOf; split
  · exact macOf_len ..
  · simp
theorem codeOf_in6 (C S : List Int) (h : Int) (ks xs : List Int) : ∀ x ∈ codeOf C S h ks xs, InK .u8 x := by
  unfold codeOf; split
  · exact macOf_in C S h ks xs
  · intro x hx; cases hx
theorem vw_lt {w : World} {s : Sl} {xs : List Value} (h : Vw 5 w s xs) : ∀ q, s.a = some q → q.block < w.heap.size := fun q hq => h.lt (by rw [Sl.blk, hq]; rfl)

/-- the program's code -/
theorem spr_code {K : Nat} (hK : 18446744073709551616 ≤ K) {C S : List Int} {w : World} (T : Tabs w C S) {g : Nat} {h lim d : Int} {ks vs : List Int} {R : Nat → Prop} (s : SprAt R 56 w g h lim d ks vs) {p : Sl} {xss : List (List Int)} {Q : Nat → Prop} (hp : Parts w p xss Q) (hQ : ∀ k, Q k → k < w.heap.size) (hl : xss.flatten.length ≤ 33554432) :
    ∃ r w', spring_Spring_code K (some ⟨g, 0, none⟩) p w = some ((r, ()), w') ∧ Vw 5 w' r (ints .u8 (codeOf C S h ks xss.flatten)) ∧ Fresh w.heap.size r ∧ Upd none_ w w' := by
  obtain ⟨sk, sv, h1, h2, h3, _⟩ := s.ex
  have hd := h1.drew
  have l0 : ldI .i64 ((⟨g, 0, none⟩ : Addr).add 0) w.drew = some h := by rw [add_lit]; exact hd.ldI rfl
  have l3 : ldS ((⟨g, 0, none⟩ : Addr).add 3) w.drew = some sk := by rw [add_lit]; exact hd.ldS rfl
  have u0 : Upd none_ w w.drew := (Upd.refl none_ w).drew
  have h2d := h2.upd0 u0
  obtain ⟨r, w', c1, c2, c3, c4⟩ := Code_any hK h (T.upd0 u0) (h2d.src ints_one) s.kin (by have := s.kl; omega) (vw_lt h2d) (hp.upd0 u0) hQ hl
  refine ⟨r, w', ?_, c2, c3, u0.and0 c4⟩
  unfold spring_Spring_code
  rw [Option.bind_some, Option.bind_some, l0, Option.bind_some, l3, Option.bind_some, c1, bnd_ok]

/-- is there a byte at all? -/
theorem dyn_some {β : Type} (K : Nat) (b : Bool) (s : Sl) (w : World) (k : Value → World → Option β) :
    dyn (tab (slices_IndexFunc_byte_byte_E K)) (.func (.func (if b = true then 39 else 22)) #[] #[]) [.slice s.a s.len s.cap] w k = k (.bool (decide (((s.len : Nat) : Int) > 0))) w := by
  cases b <;> rfl

theorem some_loop {K : Nat} (b : Bool) {p : Sl} {xss : List (List Int)} {Q : Nat → Prop} {w : World} (hp : Parts w p xss Q) :
    ∀ (d i n : Nat), i + d = xss.length → d < n → ∃ x, slices_IndexFunc_byte_byte_l0 K n p (.func (.func (if b = true then 39 else 22)) #[] #[]) ((p.len : Nat) : Int) (i : Int) w = some (x, w) ∧
      ((x = .norm () ∧ (xss.drop i).flatten = []) ∨ ∃ j : Nat, x = .ret ((j : Int), ()) ∧ (xss.drop i).flatten ≠ []) := by
  intro d
  have hpl := hp.len
  have hmany := hp.many
  induction d with
  | zero =>
    intro i n hi hn
    obtain ⟨n, rfl⟩ : ∃ m, n = m + 1 := ⟨n - 1, by omega⟩
    have eu : slices_IndexFunc_byte_byte_l0 K (n + 1) = slices_IndexFunc_byte_byte_l0_b K (slices_IndexFunc_byte_byte_l0 K n) := rfl
    rw [eu]
    unfold slices_IndexFunc_byte_byte_l0_b
    rw [if_neg (by simp; omega), List.drop_of_length_le (by omega)]
    exact ⟨_, rfl, .inl ⟨rfl, rfl⟩⟩
  | succ d ih =>
    intro i n hi hn
    obtain ⟨n, rfl⟩ : ∃ m, n = m + 1 := ⟨n - 1, by omega⟩
    have eu : slices_IndexFunc_byte_byte_l0 K (n + 1) = slices_IndexFunc_byte_byte_l0_b K (slices_IndexFunc_byte_byte_l0 K n) := rfl
    have hil : i < xss.length := by omega
    rcases hp.rd with e | ⟨q, ss, hq, hsl, hqq, hrd, hall⟩
    · rw [e] at hil; simp at hil
    · obtain ⟨h5, _⟩ := hall i hil
      have hlen := h5.len
      rw [ints_length] at hlen
      have e1 : IntKind.i64.wrap ((i : Int) + 1) = ((i + 1 : Nat) : Int) := by rw [w64 (by omega) (by omega)]; rfl
      have hdr : xss.drop i = xss.getD i [] :: xss.drop (i + 1) := by
        rw [List.drop_eq_getElem_cons hil, List.getD_eq_getElem?_getD, List.getElem?_eq_getElem hil]; rfl
      rw [eu]
      unfold slices_IndexFunc_byte_byte_l0_b
      rw [if_pos (by simp; omega), hq, Option.bind_some, if_pos (show (0 : Int) ≤ (i : Int) ∧ (i : Int) < ((p.len : Nat) : Int) by rw [hpl]; omega), Int.toNat_natCast, Nat.mul_one, ldS_rd hrd (by omega), Option.bind_some, dyn_some, hdr, List.flatten_cons]
      show ∃ x, (if decide ((((ss.getD i nilS).len : Nat) : Int) > 0) = true then _ else _) = _ ∧ _
      by_cases hz : (ss.getD i nilS).len = 0
      · have hx : xss.getD i [] = [] := List.eq_nil_of_length_eq_zero (by omega)
        rw [if_neg (by rw [hz]; decide), e1, hx, List.nil_append]
        exact ih (i + 1) n (by omega) (by omega)
      · rw [if_pos (decide_eq_true (show (((ss.getD i nilS).len : Nat) : Int) > 0 by omega))]
        refine ⟨_, rfl, .inr ⟨i, rfl, fun h => ?_⟩⟩
        have := (List.append_eq_nil_iff.1 h).1
        rw [this] at hlen; simp at hlen; exact hz hlen

theorem some_ok {K : Nat} (hK : 18446744073709551616 ≤ K) (b : Bool) {p : Sl} {xss : List (List Int)} {Q : Nat → Prop} {w : World} (hp : Parts w p xss Q) :
    slices_ContainsFunc_byte_byte K p (.func (.func (if b = true then 39 else 22)) #[] #[]) w = some ((decide (xss.flatten ≠ []), ()), w) := by
  have hmany := hp.many
  obtain ⟨x, h1, h2⟩ := some_loop (K := K) b hp xss.length 0 K (by omega) (by omega)
  have h1 : slices_IndexFunc_byte_byte_l0 K K p (.func (.func (if b = true then 39 else 22)) #[] #[]) ((p.len : Nat) : Int) 0 w = _ := h1
  rw [List.drop_zero] at h2
  unfold slices_ContainsFunc_byte_byte slices_IndexFunc_byte_byte
  rw [h1, bnd_ok]
  rcases h2 with ⟨rfl, h2⟩ | ⟨j, rfl, h2⟩
  · dsimp only
    have hd : decide (xss.flatten ≠ []) = false := decide_eq_false (fun h => h h2)
    rw [bnd_ok, hd]
    rfl
  · dsimp only
    have hd : decide (xss.flatten ≠ []) = true := decide_eq_true h2
    have : decide ((j : Int) ≥ 0) = true := by simp
    rw [bnd_ok, hd, this]

/-- a list of parts that is there -/
theorem parts_of {w : World} {s : Sl} {Q : Nat → Prop} (ps : List (Sl × List Int)) (hs : Src w s (ps.map fun p => slV p.1)) (h0 : ps ≠ []) (hn : ps.length * 24 ≤ 140737488351232) (h : ∀ p ∈ ps, PartOk w p ∧ ∀ q, p.1.a = some q → p.2 ≠ [] → Q q.block) (hq : ∀ p, s.a = some p → Q p.block) : Parts w s (ps.map (·.2)) Q := by
  have hpos : 0 < ps.length := List.length_pos_iff.2 h0
  refine ⟨by rw [hs.len]; simp, hs.cap, ?_, ?_, by simpa using hn, .inr ?_⟩
  · intro xs hxs
    obtain ⟨p, hp, rfl⟩ := List.mem_map.1 hxs
    exact (h p hp).1.2.1
  · intro xs hxs
    obtain ⟨p, hp, rfl⟩ := List.mem_map.1 hxs
    exact (h p hp).1.2.2.1
  · rcases hs.rd with ⟨_, _, e⟩ | ⟨p, e, hr⟩
    · have := congrArg List.length e; simp at this; exact (h0 this).elim
    · refine ⟨p, ps.map (·.1), e, by simp, hq p e, by rw [List.map_map]; exact hr, fun i hi => ?_⟩
      have hi2 : i < ps.length := by simpa using hi
      have e1 : (ps.map (·.1)).getD i nilS = ps[i].1 := by simp [List.getD_eq_getElem?_getD, hi2]
      have e2 : (ps.map (·.2)).getD i [] = ps[i].2 := by simp [List.getD_eq_getElem?_getD, hi2]
      obtain ⟨⟨f1, f2, f3, f4⟩, f5⟩ := h ps[i] (List.getElem_mem hi2)
      rw [e1, e2]
      exact ⟨f1, fun q hq hne => ⟨f5 q hq hne, f4 q hq hne⟩⟩

/-- a list of parts, each told with what lies in it -/
structure PartsL (w : World) (s : Sl) (ps : List (Sl × List Int)) (Q : Nat → Prop) : Prop where
  src : Src w s (ps.map fun p => slV p.1)
  all : ∀ p ∈ ps, PartOk w p ∧ ∀ q, p.1.a = some q → p.2 ≠ [] → Q q.block
  hq : ∀ p, s.a = some p → ps ≠ [] → Q p.block

theorem PartsL.parts {w : World} {s : Sl} {ps : List (Sl × List Int)} {Q : Nat → Prop} (h : PartsL w s ps Q) (hm : ps.length ≤ 2097152) : Parts w s (ps.map (·.2)) Q := by
  by_cases h0 : ps = []
  · subst h0
    have hl : s.len = 0 := h.src.len
    exact ⟨hl, h.src.cap, by simp, by simp, by simp, .inl rfl⟩
  · exact parts_of ps h.src h0 (by omega) h.all fun p hp => h.hq p hp h0
theorem PartsL.upd {w w' : World} {s : Sl} {ps : List (Sl × List Int)} {Q X : Nat → Prop} (h : PartsL w s ps Q) (u : Upd X w w') (hn : ∀ k, Q k → ¬ X k) : PartsL w' s ps Q :=
  ⟨src_upd h.src u fun p hp hne => hn _ (h.hq p hp fun e => hne (by rw [e]; rfl)), fun p hp => ⟨⟨src_updW (h.all p hp).1.1 u fun q hq hne => hn _ ((h.all p hp).2 q hq hne), (h.all p hp).1.2.1, (h.all p hp).1.2.2.1, fun q hq hne => Nat.lt_of_lt_of_le ((h.all p hp).1.2.2.2 q hq hne) u.size⟩, (h.all p hp).2⟩, h.hq⟩
theorem PartsL.upd0 {w w' : World} {s : Sl} {ps : List (Sl × List Int)} {Q : Nat → Prop} (h : PartsL w s ps Q) (u : Upd none_ w w') : PartsL w' s ps Q := h.upd u fun _ _ => id
theorem PartsL.nil (w : World) (Q : Nat → Prop) : PartsL w ⟨none, 0, 0⟩ [] Q := ⟨⟨rfl, Nat.le_refl _, .inl ⟨rfl, rfl, rfl⟩, by simp⟩, by simp, fun p hp _ => (by cases hp)⟩

theorem up6 {w w' : World} {p : Sl × List Int} (hp : PartOk w p) (u : Upd none_ w w') : PartOk w' p := ⟨hp.1.upd0 u, hp.2.1, hp.2.2.1, fun q hq hne => by have := hp.2.2.2 q hq hne; have := u.size; omega⟩

/-- parts made here, and others behind them -/
theorem parts_cons {w : World} (ps : List (Sl × List Int)) (h0 : 0 < ps.length) (hn : ps.length ≤ 1024) (h : ∀ p ∈ ps, PartOk w p) {s : Sl} {qs : List (Sl × List Int)} {Q : Nat → Prop} (hq : PartsL w s qs Q) (hmany : qs.length ≤ 1048576) :
    ∃ t w1 r w2, bldS prog 32 ps.length ((ps.map fun p => slV p.1).zipIdx.map fun p => (p.2, p.1)).toArray w = some (t, w1) ∧ apd prog 32 32 (.slice t.a t.len t.cap) (.slice s.a s.len s.cap) w1 = some (r, w2) ∧
      PartsL w2 r (ps ++ qs) (fun k => k < w2.heap.size) ∧ Upd none_ w w2 ∧ Fresh w.heap.size r := by
  have hlen : (ps.map fun p => slV p.1).length = ps.length := List.length_map ..
  obtain ⟨w1, c1, c2, c3, c4⟩ := bldS_ok sliceSS (ps.map fun p => slV p.1) (fun v hv => by obtain ⟨x, _, rfl⟩ := List.mem_map.1 hv; rfl) (by omega) (by omega) w
  rw [hlen] at c1 c2
  have hsl : s.len = qs.length := by rw [hq.src.len, List.length_map]
  obtain ⟨r, w2, d1, d2, d3, d4, d5⟩ := apd_ok sliceSS c2 (hq.src.upd0 c3) (by show (ps.length + s.len) * 24 ≤ _; omega)
  have hs1 := c3.size
  have u2 : Upd none_ w w2 := c3.trans' d4 fun k hk e => by
    have : k = w.heap.size := by simpa [Sl.blk] using e.symm
    omega
  refine ⟨_, w1, r, w2, c1, d1, ⟨?_, ?_, fun p hp _ => d3.lt (by rw [Sl.blk, hp]; rfl)⟩, u2, fun k hk => ?_⟩
  case refine_3 =>
    rcases d5 with e | e
    · rw [e] at hk
      have : w.heap.size = k := by simpa [Sl.blk] using hk
      omega
    · rw [e] at hk; have := Option.some.inj hk; omega
  · rw [← List.map_append] at d3
    exact d3.src fun v hv => by obtain ⟨x, _, rfl⟩ := List.mem_map.1 hv; rfl
  · intro p hp
    have hpo : PartOk w p := (List.mem_append.1 hp).elim (h p) fun hp => (hq.all p hp).1
    have := up6 hpo u2
    exact ⟨this, this.2.2.2⟩

/-- the key and the value behind an update -/
def updS (C S : List Int) (h : Int) (kv : List Int × List Int) (xs : List Int) : List Int × List Int :=
  if xs = [] then (codeOf C S h kv.1 (kv.2 ++ [0]), codeOf C S h (codeOf C S h kv.1 (kv.2 ++ [0])) kv.2)
  else
    (codeOf C S h (codeOf C S h kv.1 (kv.2 ++ 0 :: xs)) (codeOf C S h (codeOf C S h kv.1 (kv.2 ++ 0 :: xs)) kv.2 ++ 1 :: xs),
      codeOf C S h (codeOf C S h (codeOf C S h kv.1 (kv.2 ++ 0 :: xs)) (codeOf C S h (codeOf C S h kv.1 (kv.2 ++ 0 :: xs)) kv.2 ++ 1 :: xs)) (codeOf C S h (codeOf C S h kv.1 (kv.2 ++ 0 :: xs)) kv.2))
/-- one round of it -/
def rndS (C S : List Int) (h : Int) (kv : List Int × List Int) (m : Int) (xs : List Int) : List Int × List Int :=
  (codeOf C S h kv.1 (kv.2 ++ m :: xs), codeOf C S h (codeOf C S h kv.1 (kv.2 ++ m :: xs)) kv.2)
theorem updS_eq (C S : List Int) (h : Int) (kv : List Int × List Int) (xs : List Int) : updS C S h kv xs = if xs = [] then rndS C S h kv 0 xs else rndS C S h (rndS C S h kv 0 xs) 1 xs := by
  unfold updS rndS
  by_cases hx : xs = []
  · rw [if_pos hx, if_pos hx, hx]
  · rw [if_neg hx, if_neg hx]

end Go.Sh

/- A spring is updated. -/
set_option linter.unusedVariables false
namespace Go.Sh
open Go.Fw Go.Sha Go.RowKit Go.Proofs.Tryd

theorem flat_cons (v : List Int) (m : Int) (qs : List (Sl × List Int)) (a b : Sl) : ((([(a, v), (b, [m])] : List (Sl × List Int)) ++ qs).map (·.2)).flatten = v ++ m :: (qs.map (·.2)).flatten := by
  simp

theorem spr_round {K : Nat} (hK : 18446744073709551616 ≤ K) {C S : List Int} {w : World} (T : Tabs w C S) {g : Nat} (hg : 5 ≤ g) {h lim d : Int} {ks vs : List Int} {R : Nat → Prop} (s : SprAt R 56 w g h lim d ks vs) {p : Sl} {qs : List (Sl × List Int)} {Q : Nat → Prop} (hp : PartsL w p qs Q) (hm : qs.length ≤ 1048576) (hl : (qs.map (·.2)).flatten.length ≤ 33553408) {m : Nat} (hm2 : m < 2) {b : Bool} (n : Nat) (hb : ¬ (m = 1 ∧ b = false)) :
    ∃ w', spring_Spring_update_l0 K (n + 1) (some ⟨g, 0, none⟩) p b (m : Int) w = spring_Spring_update_l0 K n (some ⟨g, 0, none⟩) p b ((m + 1 : Nat) : Int) w' ∧
      SprAt (fun k => w.heap.size ≤ k) 56 w' g h lim d (rndS C S h (ks, vs) m (qs.map (·.2)).flatten).1 (rndS C S h (ks, vs) m (qs.map (·.2)).flatten).2 ∧ Upd (· = g) w w' := by
  obtain ⟨sk, sv, h1, h2, h3, _⟩ := s.ex
  have hlt := s.lt
  have ls : ∀ {w'}, Bk 56 w' g [.int .i64 h, .int .i64 lim, .int .i64 d, slV sk, slV sv] → ldS ((⟨g, 0, none⟩ : Addr).add 4) w' = some sv := fun b => by rw [add_lit]; exact b.ldS rfl
  have pv : PartOk w (sv, vs) := ⟨h3.src ints_one, s.vin, by show vs.length ≤ _; have := s.vl; omega, fun q hq _ => vw_lt h3 q hq⟩
  -- the mark
  obtain ⟨w1, a1, o1, u1, z1⟩ := bldS1_ok sliceB (.int .u8 (m : Int)) rfl w
  have pm : PartOk w1 (⟨some ⟨w.heap.size, 0, none⟩, 1, 1⟩, [(m : Int)]) := by
    have o1 : Own 5 w1 ⟨some ⟨w.heap.size, 0, none⟩, 1, 1⟩ (ints .u8 [(m : Int)]) := o1
    exact ⟨o1.src ints_one, by intro x hx; rw [List.mem_singleton.1 hx]; exact ⟨by omega, by show (m : Int) < 256; omega⟩, by simp, fun q hq _ => o1.lt (by rw [Sl.blk, hq]; rfl)⟩
  obtain ⟨t, w2, r, w3, c1, c2, c3, u3, _⟩ := parts_cons (w := w1) [(sv, vs), (⟨some ⟨w.heap.size, 0, none⟩, 1, 1⟩, [(m : Int)])] (by simp) (by simp) (fun p hp => by
    simp only [List.mem_cons, List.not_mem_nil, or_false] at hp
    rcases hp with rfl | rfl
    · exact up6 pv u1
    · exact pm) (hp.upd0 u1) hm
  have c1 : bldS prog 32 2 #[(0, (.slice sv.a sv.len sv.cap)), (1, (.slice (some ⟨w.heap.size, 0, none⟩) 1 1))] w1 = some (t, w2) := c1
  have q3 := u1.and0 u3
  have hflat := flat_cons vs (m : Int) qs sv ⟨some ⟨w.heap.size, 0, none⟩, 1, 1⟩
  have s3 := s.upd0 q3
  obtain ⟨k1, w4, e1, e2, ek, u4⟩ := spr_code hK (T.upd0 q3) s3 (c3.parts (by simp; omega)) (fun k hk => hk) (by rw [hflat, List.length_append, List.length_cons]; have := s.vl; omega)
  rw [hflat] at e2
  have q4 := q3.and0 u4
  obtain ⟨w5, f1, f2, f3⟩ := (h1.upd0 q4).stC (i := 3) (by simp) (slV k1)
  have e2' : Vw 5 w5 k1 (ints .u8 (codeOf C S h ks (vs ++ (m : Int) :: (qs.map (·.2)).flatten))) := e2.upd f3 fun k hk e => vw_ne e2 (h1.upd0 q4) (by decide) k hk e
  have v5 : Vw 5 w5 sv (ints .u8 vs) := (h3.upd0 q4).upd f3 fun k hk e => vw_ne (h3.upd0 q4) (h1.upd0 q4) (by decide) k hk e
  have f2 : Bk 56 w5 g [.int .i64 h, .int .i64 lim, .int .i64 d, slV k1, slV sv] := f2
  have s5 : SprAt (fun _ => True) 56 w5 g h lim d (codeOf C S h ks (vs ++ (m : Int) :: (qs.map (·.2)).flatten)) vs := ⟨⟨k1, sv, f2, e2', v5, fun _ _ => trivial⟩, codeOf_in6 _ _ _ _ _, s.vin, codeOf_len6 .., s.vl⟩
  have T5 : Tabs w5 C S := (T.upd0 q4).upd f3 fun k hk e => by omega
  have pv5 : PartOk w5 (sv, vs) := ⟨v5.src ints_one, s.vin, by show vs.length ≤ _; have := s.vl; omega, fun q hq _ => vw_lt v5 q hq⟩
  obtain ⟨w6, j6, P6, u6⟩ := one_part pv5.1 pv5.2.1 pv5.2.2.1 pv5.2.2.2
  have ef : ([vs] : List (List Int)).flatten = vs := by simp
  obtain ⟨v1, w7, k7, k8, ev, u7⟩ := spr_code hK (T5.upd0 u6) (s5.upd0 u6) P6 (fun k hk => hk) (by rw [ef]; have := s.vl; omega)
  rw [ef] at k8
  have q7 := u6.and0 u7
  obtain ⟨w8, i1, i2, i3⟩ := (f2.upd0 q7).stC (i := 4) (by simp) (slV v1)
  have i2 : Bk 56 w8 g [.int .i64 h, .int .i64 lim, .int .i64 d, slV k1, slV v1] := i2
  have k1' := (e2'.upd0 q7).upd i3 fun k hk e => vw_ne (e2'.upd0 q7) (f2.upd0 q7) (by decide) k hk e
  have v1' := k8.upd i3 fun k hk e => vw_ne k8 (f2.upd0 q7) (by decide) k hk e
  have zz3 := q3.size
  have zz6 : w3.heap.size ≤ w6.heap.size := by have := u4.size; have := f3.size; have := u6.size; omega
  refine ⟨w8, ?_, ⟨⟨k1, v1, i2, k1', v1', fun k hk => hk.elim (fun hk => by have := ek k hk; omega) fun hk => by have := ev k hk; omega⟩, codeOf_in6 _ _ _ _ _, codeOf_in6 _ _ _ _ _, codeOf_len6 .., codeOf_len6 ..⟩, ((q4.mono (T := (· = g)) fun _ _ e => e.elim).trans' f3 fun _ _ e => e).trans' ((q7.mono (T := (· = g)) fun _ _ e => e.elim).trans' i3 fun _ _ e => e) fun _ _ e => e⟩
  have eu : spring_Spring_update_l0 K (n + 1) = spring_Spring_update_l0_b K (spring_Spring_update_l0 K n) := rfl
  have hs1 : spring_Spring_update_s1 K b (m : Int) w = some ((false, ()), w) := by
    unfold spring_Spring_update_s1
    by_cases hm1 : m = 1
    · subst hm1
      have hbt : b = true := by cases b <;> simp_all
      rw [hbt]; rfl
    · rw [if_neg (by simp; omega)]
  have e9 : IntKind.u8.wrap ((m : Int) + 1) = ((m + 1 : Nat) : Int) := by rw [Go.Fw.w8 (by omega) (by omega)]; rfl
  have g1 : stC ((⟨g, 0, none⟩ : Addr).add 3) (.slice k1.a k1.len k1.cap) w4 = some w5 := by rw [add_lit]; exact f1
  have g2 : stC ((⟨g, 0, none⟩ : Addr).add 4) (.slice v1.a v1.len v1.cap) w7 = some w8 := by rw [add_lit]; exact i1
  have l5 : ldS ((⟨g, 0, none⟩ : Addr).add 4) w5 = some sv := by rw [add_lit]; exact f2.ldS rfl
  rw [eu]
  unfold spring_Spring_update_l0_b
  rw [if_pos (by simp; omega), hs1, bnd_ok]
  dsimp only
  rw [if_neg (by decide), Option.bind_some, ls h1, Option.bind_some, a1, bnd_ok]
  dsimp only
  rw [c1, bnd_ok, c2, bnd_ok, e1, bnd_ok, Option.bind_some, g1, Option.bind_some, Option.bind_some, l5, Option.bind_some, j6, bnd_ok, k7, bnd_ok, Option.bind_some, g2, Option.bind_some, e9]

theorem spr_update {K : Nat} (hK : 18446744073709551616 ≤ K) {C S : List Int} {w : World} (T : Tabs w C S) {g : Nat} (hg : 5 ≤ g) {h lim d : Int} {ks vs : List Int} {R : Nat → Prop} (s : SprAt R 56 w g h lim d ks vs) {p : Sl} {qs : List (Sl × List Int)} {Q : Nat → Prop} (hQ : ¬ Q g) (hp : PartsL w p qs Q) (hm : qs.length ≤ 1048576) (hl : (qs.map (·.2)).flatten.length ≤ 33553408) :
    ∃ w', spring_Spring_update K (some ⟨g, 0, none⟩) p w = some ((), w') ∧ SprAt (fun k => w.heap.size ≤ k) 56 w' g h lim d (updS C S h (ks, vs) (qs.map (·.2)).flatten).1 (updS C S h (ks, vs) (qs.map (·.2)).flatten).2 ∧ Upd (· = g) w w' := by
  obtain ⟨n, rfl⟩ : ∃ n, K = n + 3 := ⟨K - 3, by omega⟩
  have hso := some_ok (K := n + 3) hK true (hp.parts (by omega))
  have hso : slices_ContainsFunc_byte_byte (n + 3) p (.func (.func 39) #[] #[]) w = _ := hso
  obtain ⟨w1, a1, a2, a3⟩ := spr_round hK T hg s hp hm hl (m := 0) (by omega) (b := decide ((qs.map (·.2)).flatten ≠ [])) (n + 2) (by omega)
  have a1 : spring_Spring_update_l0 (n + 3) (n + 3) (some ⟨g, 0, none⟩) p (decide ((qs.map (·.2)).flatten ≠ [])) 0 w = _ := a1
  rw [updS_eq]
  unfold spring_Spring_update
  rw [hso, bnd_ok, a1]
  by_cases hx : (qs.map (·.2)).flatten = []
  · rw [if_pos hx]
    have eu : spring_Spring_update_l0 (n + 3) (n + 2) = spring_Spring_update_l0_b (n + 3) (spring_Spring_update_l0 (n + 3) (n + 1)) := rfl
    have hd : decide ((qs.map (·.2)).flatten ≠ []) = false := decide_eq_false (fun h => h hx)
    have e1 : spring_Spring_update_l0_b (n + 3) (spring_Spring_update_l0 (n + 3) (n + 1)) (some ⟨g, 0, none⟩) p false ((0 + 1 : Nat) : Int) w1 = some (.ret (), w1) := rfl
    rw [hd, eu, e1, bnd_ok]
    exact ⟨w1, rfl, a2, a3⟩
  · rw [if_neg hx]
    have hd : decide ((qs.map (·.2)).flatten ≠ []) = true := decide_eq_true hx
    have hlt := s.lt
    obtain ⟨w2, b1, b2, b3⟩ := spr_round hK (T.upd a3 fun k hk e => by omega) hg a2 (hp.upd a3 fun k hk e => hQ (e ▸ hk)) hm hl (m := 1) (by omega) (b := true) (n + 1) (by simp)
    have eu : spring_Spring_update_l0 (n + 3) (n + 1) = spring_Spring_update_l0_b (n + 3) (spring_Spring_update_l0 (n + 3) n) := rfl
    have e1 : spring_Spring_update_l0_b (n + 3) (spring_Spring_update_l0 (n + 3) n) (some ⟨g, 0, none⟩) p true ((1 + 1 : Nat) : Int) w2 = some (.norm (), w2) := rfl
    rw [hd]
    have b1 : spring_Spring_update_l0 (n + 3) (n + 2) (some ⟨g, 0, none⟩) p true ((0 + 1 : Nat) : Int) w1 = _ := b1
    rw [b1, eu, e1, bnd_ok]
    exact ⟨w2, rfl, b2.mono fun k hk => Nat.le_trans a3.size hk, a3.trans' b3 fun _ _ e => e⟩

end Go.Sh

/- A spring is drawn from. -/
set_option linter.unusedVariables false
namespace Go.Sh
open Go.Fw Go.Sha Go.RowKit Go.Proofs.Tryd

/-- the value behind t blocks, and the blocks -/
def genV (C S : List Int) (h : Int) (k v : List Int) : Nat → List Int
  | 0 => v
  | t + 1 => codeOf C S h k (genV C S h k v t)
def genO (C S : List Int) (h : Int) (k v : List Int) : Nat → List Int
  | 0 => []
  | t + 1 => genO C S h k v t ++ genV C S h k v (t + 1)
theorem codeOf_size {h : Int} (hk : known h = true) (C S ks xs : List Int) : (codeOf C S h ks xs).length = szH h := by
  unfold codeOf; rw [if_pos hk]; exact macOf_size hk ..
theorem genO_len {h : Int} (hk : known h = true) (C S k v : List Int) : ∀ t, (genO C S h k v t).length = t * szH h
  | 0 => by simp [genO]
  | t + 1 => by simp only [genO, genV]; rw [List.length_append, genO_len hk C S k v t, codeOf_size hk, Nat.succ_mul]
theorem genO_in (C S : List Int) (h : Int) (k v : List Int) : ∀ t, ∀ x ∈ genO C S h k v t, InK .u8 x
  | 0, x, hx => by cases hx
  | t + 1, x, hx => (List.mem_append.1 hx).elim (genO_in C S h k v t x) (codeOf_in6 C S h _ _ x)
theorem genV_in {C S : List Int} {h : Int} {k v : List Int} (hv : ∀ x ∈ v, InK .u8 x) : ∀ t, ∀ x ∈ genV C S h k v t, InK .u8 x
  | 0 => hv
  | t + 1 => codeOf_in6 C S h _ _

/-- an answer's bytes, cut, and with no room behind them -/
theorem vw_cap {e : TypeId} {w : World} {s : Sl} {xs : List Value} (h : Own e w s xs) {n : Nat} (hn : n ≤ s.len) : Vw e w ⟨s.a, n, n⟩ (xs.take n) := by
  have hl := h.len
  by_cases hne : xs = []
  · subst hne
    have h0 : s.len = 0 := hl
    obtain rfl : n = 0 := by omega
    refine ⟨rfl, ?_⟩
    rcases h.2 with ⟨a1, _, _⟩ | ⟨g, cur, a1, a2, a3, a4, a5, a6⟩
    · exact .inl ⟨a1, rfl, rfl⟩
    · exact .inr ⟨g, 0, cur.toList, a1, by unfold Bk; simpa using a2, Nat.le_refl _, Nat.zero_le _, by simp, by simp⟩
  · obtain ⟨g, cs, a1, a2, a3, a4, a5, a6⟩ := h.bk hne
    refine ⟨by rw [List.length_take]; show min n xs.length = n; omega, .inr ⟨g, 0, cs, a1, a2, Nat.le_refl _, by show n ≤ maxLen; omega, by show 0 + n ≤ _; omega, ?_⟩⟩
    show (cs.drop 0).take n = _
    rw [List.drop_zero, ← a6, List.take_take, Nat.min_eq_left hn]

theorem cnt_le_fuel {h : Int} (hk : known h = true) (n : Nat) : cnt h n ≤ n := by
  obtain ⟨_, h28, h64⟩ := szH_ok hk
  unfold cnt
  rcases Nat.eq_zero_or_pos n with rfl | hn
  · rw [Nat.div_eq_of_lt (by omega)]; exact Nat.le_refl _
  · refine Nat.div_le_of_le_mul ?_
    obtain ⟨m, rfl⟩ : ∃ m, n = m + 1 := ⟨n - 1, by omega⟩
    rw [Nat.mul_comm, Nat.succ_mul]
    have := Nat.le_mul_of_pos_right m (show 0 < szH h by omega)
    omega
theorem cnt_bound {h : Int} (hk : known h = true) (n : Nat) : n ≤ cnt h n * szH h ∧ ∀ t, t < cnt h n → t * szH h < n := by
  rcases Nat.eq_zero_or_pos n with rfl | hn
  · refine ⟨Nat.zero_le _, fun t ht => ?_⟩
    have := cnt_le_fuel hk 0; omega
  · obtain ⟨h1, _, h3⟩ := cnt_ok hk hn
    exact ⟨h1, h3⟩

theorem draw_loop {K : Nat} (hK : 18446744073709551616 ≤ K) {C S : List Int} {h lim c : Int} (hk : known h = true) {ks v : List Int} (hks : ∀ x ∈ ks, InK .u8 x) (hkl : ks.length ≤ 64) {g : Nat} (hg : 5 ≤ g) {n : Nat} (hn : n ≤ 65536) {p : Sl} {B : Nat} (hgB : g < B) {sk : Sl} (hsk : ∀ k, sk.blk = some k → k < B) :
    ∀ (d t f : Nat) (w : World) (o sv : Sl), t + d = cnt h n → d < f → Tabs w C S → Bk 56 w g [.int .i64 h, .int .i64 lim, .int .i64 c, slV sk, slV sv] → Vw 5 w sk (ints .u8 ks) → Vw 5 w sv (ints .u8 (genV C S h ks v t)) → (∀ x ∈ genV C S h ks v t, InK .u8 x) → (genV C S h ks v t).length ≤ 64 →
      Own 5 w o (ints .u8 (genO C S h ks v t)) → Fresh B o → (∀ k, sv.blk = some k → o.blk ≠ some k) → B ≤ w.heap.size →
      ∃ o' sv' w', spring_Spring_Draw_l3 K f (some ⟨g, 0, none⟩) (n : Int) p o w = some ((o', ()), w') ∧ Bk 56 w' g [.int .i64 h, .int .i64 lim, .int .i64 c, slV sk, slV sv'] ∧ Vw 5 w' sk (ints .u8 ks) ∧ Vw 5 w' sv' (ints .u8 (genV C S h ks v (cnt h n))) ∧ (∀ x ∈ genV C S h ks v (cnt h n), InK .u8 x) ∧ (genV C S h ks v (cnt h n)).length ≤ 64 ∧
        Own 5 w' o' (ints .u8 (genO C S h ks v (cnt h n))) ∧ Fresh B o' ∧ Upd (fun k => k = g ∨ B ≤ k) w w' := by
  obtain ⟨hc1, hc2⟩ := cnt_bound hk n
  obtain ⟨_, h28, h64⟩ := szH_ok hk
  intro d
  induction d with
  | zero =>
    intro t f w o sv ht hf T b hk1 hv1 hvi hvl ho hfr hne hB
    obtain ⟨f, rfl⟩ : ∃ m, f = m + 1 := ⟨f - 1, by omega⟩
    have htc : t = cnt h n := by omega
    subst htc
    have hol : o.len = cnt h n * szH h := by rw [ho.len, ints_length, genO_len hk]
    have eu : spring_Spring_Draw_l3 K (f + 1) = spring_Spring_Draw_l3_b K (spring_Spring_Draw_l3 K f) := rfl
    rw [eu]
    unfold spring_Spring_Draw_l3_b
    rw [if_neg (by rw [hol]; simp; exact_mod_cast hc1)]
    exact ⟨o, sv, w, rfl, b, hk1, hv1, hvi, hvl, ho, hfr, Upd.refl _ w⟩
  | succ d ih =>
    intro t f w o sv ht hf T b hk1 hv1 hvi hvl ho hfr hne hB
    obtain ⟨f, rfl⟩ : ∃ m, f = m + 1 := ⟨f - 1, by omega⟩
    have hol : o.len = t * szH h := by rw [ho.len, ints_length, genO_len hk]
    have htn := hc2 t (by omega)
    have s : SprAt (fun _ => True) 56 w g h lim c ks (genV C S h ks v t) := ⟨⟨sk, sv, b, hk1, hv1, fun _ _ => trivial⟩, hks, hvi, hkl, hvl⟩
    have pv : PartOk w (sv, genV C S h ks v t) := ⟨hv1.src ints_one, hvi, by show (genV C S h ks v t).length ≤ _; omega, fun q hq _ => vw_lt hv1 q hq⟩
    obtain ⟨w1, j1, P1, u1⟩ := one_part pv.1 pv.2.1 pv.2.2.1 pv.2.2.2
    have ef : ([genV C S h ks v t] : List (List Int)).flatten = genV C S h ks v t := by simp
    obtain ⟨r, w2, k1, k2, kf, u2⟩ := spr_code hK (T.upd0 u1) (s.upd0 u1) P1 (fun k hk => hk) (by rw [ef]; omega)
    rw [ef] at k2
    have q2 := u1.and0 u2
    have z1 := u1.size
    have hb2 := b.upd0 q2
    obtain ⟨w3, f1, f2, f3⟩ := hb2.stC (i := 4) (by simp) (slV r)
    have f2 : Bk 56 w3 g [.int .i64 h, .int .i64 lim, .int .i64 c, slV sk, slV r] := f2
    have sk3 := (hk1.upd0 q2).upd f3 fun k hk e => vw_ne (hk1.upd0 q2) hb2 (by decide) k hk e
    have r3 := k2.upd f3 fun k hk e => vw_ne k2 hb2 (by decide) k hk e
    have o3 : Own 5 w3 o (ints .u8 (genO C S h ks v t)) := (ho.upd0 q2).upd f3 fun k hk e => by have := hfr k hk; omega
    have hro : ∀ k, r.blk = some k → o.blk ≠ some k := fun k hk e => by
      have h1 := kf k hk
      have h2 := ho.lt e
      omega
    have rl : (genV C S h ks v (t + 1)).length ≤ 64 := codeOf_len6 _ _ _ _ _
    have hrl : r.len = (genV C S h ks v (t + 1)).length := by rw [r3.len, ints_length]; rfl
    have hmul : t * szH h ≤ 65536 := by omega
    obtain ⟨o4, w4, d1, d2, d3, d4, d5⟩ := apd_ok sliceB o3 (r3.src ints_one) (by show (o.len + r.len) * 1 ≤ _; omega)
    have z2 := q2.size
    have z3 := f3.size
    have z4 := d4.size
    have e34 : ints .u8 (genO C S h ks v t) ++ ints .u8 (codeOf C S h ks (genV C S h ks v t)) = ints .u8 (genO C S h ks v (t + 1)) := by rw [← ints_append]; rfl
    rw [e34] at d3
    have hf4 : Fresh B o4 := by
      intro k hk
      rcases d5 with e | e
      · exact hfr k (e ▸ hk)
      · rw [e] at hk; have := Option.some.inj hk; omega
    have hne4 : ∀ k, r.blk = some k → o4.blk ≠ some k := fun k hk e => by
      rcases d5 with e5 | e5
      · exact hro k hk (e5 ▸ e)
      · have h1 := r3.lt hk
        rw [e5] at e; have := Option.some.inj e; omega
    have X3 : Upd (fun k => k = g ∨ B ≤ k) w w3 := (q2.mono (T := fun k => k = g ∨ B ≤ k) fun _ _ e => e.elim).trans' (f3.mono (T := fun k => k = g ∨ B ≤ k) fun k _ e => .inl e) fun _ _ e => e
    have X4 : Upd (fun k => k = g ∨ B ≤ k) w w4 := X3.trans' (d4.mono (T := fun k => k = g ∨ B ≤ k) fun k _ e => .inr (hfr k e)) fun _ _ e => e
    obtain ⟨o5, sv5, w5, i1, i2, i3, i4, i5, i6, i7, i8, i9⟩ := ih (t + 1) f w4 o4 r (by omega) (by omega) (T.upd X4 fun k hk e => by omega) (f2.upd d4 (fun e => by have := hfr g e; omega)) (sk3.upd d4 fun k hk e => by have h1 := hsk k hk; have h2 := hfr k e; omega) (r3.upd d4 fun k hk e => hro k hk e) (codeOf_in6 _ _ _ _ _) rl d3 hf4 hne4 (by omega)
    refine ⟨o5, sv5, w5, ?_, i2, i3, i4, i5, i6, i7, i8, X4.trans' i9 fun _ _ e => e⟩
    have eu : spring_Spring_Draw_l3 K (f + 1) = spring_Spring_Draw_l3_b K (spring_Spring_Draw_l3 K f) := rfl
    have l0 : ldS ((⟨g, 0, none⟩ : Addr).add 4) w = some sv := by rw [add_lit]; exact b.ldS rfl
    have l3 : ldS ((⟨g, 0, none⟩ : Addr).add 4) w3 = some r := by rw [add_lit]; exact f2.ldS rfl
    have g1 : stC ((⟨g, 0, none⟩ : Addr).add 4) (.slice r.a r.len r.cap) w2 = some w3 := by rw [add_lit]; exact f1
    rw [eu]
    unfold spring_Spring_Draw_l3_b
    rw [if_pos (by rw [hol]; simp; exact_mod_cast htn), Option.bind_some, l0, Option.bind_some, j1, bnd_ok, k1, bnd_ok, Option.bind_some, g1, Option.bind_some, Option.bind_some, l3, Option.bind_some, d1, bnd_ok, i1]

end Go.Sh

/- What a draw answers. -/
set_option linter.unusedVariables false
namespace Go.Sh
open Go.Fw Go.Sha Go.RowKit Go.Proofs.Tryd

/-- are parts too long together? -/
theorem long_loop {K : Nat} {p : Sl} {xss : List (List Int)} {Q : Nat → Prop} {w : World} (hp : Parts w p xss Q) :
    ∀ (d i n acc : Nat), i + d = xss.length → d < n → acc ≤ 65536 → ∃ x, spring_long_l0 K n (acc : Int) p ((p.len : Nat) : Int) (i : Int) w = some x ∧
      ((x = .norm () ∧ acc + (xss.drop i).flatten.length ≤ 65536) ∨ (x = .ret (true, ()) ∧ acc + (xss.drop i).flatten.length > 65536)) := by
  intro d
  have hpl := hp.len
  have hmany := hp.many
  induction d with
  | zero =>
    intro i n acc hi hn ha
    obtain ⟨n, rfl⟩ : ∃ m, n = m + 1 := ⟨n - 1, by omega⟩
    show ∃ x, spring_long_l0_b K w _ (acc : Int) p ((p.len : Nat) : Int) (i : Int) = some x ∧ _
    unfold spring_long_l0_b
    rw [if_neg (by simp; omega), List.drop_of_length_le (by omega)]
    exact ⟨_, rfl, .inl ⟨rfl, by simpa using ha⟩⟩
  | succ d ih =>
    intro i n acc hi hn ha
    obtain ⟨n, rfl⟩ : ∃ m, n = m + 1 := ⟨n - 1, by omega⟩
    have hil : i < xss.length := by omega
    rcases hp.rd with e | ⟨q, ss, hq, hsl, hqq, hrd, hall⟩
    · rw [e] at hil; simp at hil
    · obtain ⟨h5, _⟩ := hall i hil
      have hlen := h5.len
      rw [ints_length] at hlen
      have hdr : xss.drop i = xss.getD i [] :: xss.drop (i + 1) := drop_getD hil []
      have hle : (xss.getD i []).length ≤ 140737488351232 := by
        refine hp.lens _ ?_
        rw [List.getD_eq_getElem?_getD, List.getElem?_eq_getElem hil]; exact List.getElem_mem hil
      have e1 : IntKind.i64.wrap ((i : Int) + 1) = ((i + 1 : Nat) : Int) := by rw [w64 (by omega) (by omega)]; rfl
      have e2 : IntKind.i64.wrap ((acc : Int) + (((ss.getD i nilS).len : Nat) : Int)) = ((acc + (xss.getD i []).length : Nat) : Int) := by rw [w64 (by omega) (by omega)]; omega
      rw [hdr, List.flatten_cons, List.length_append]
      show ∃ x, spring_long_l0_b K w (spring_long_l0 K n · · · · w) (acc : Int) p ((p.len : Nat) : Int) (i : Int) = some x ∧ _
      unfold spring_long_l0_b
      rw [if_pos (by simp; omega), hq, Option.bind_some, if_pos (show (0 : Int) ≤ (i : Int) ∧ (i : Int) < ((p.len : Nat) : Int) by rw [hpl]; omega), Int.toNat_natCast, Nat.mul_one, ldS_rd hrd (by omega), Option.bind_some, e2, e1]
      by_cases hz : acc + (xss.getD i []).length > 65536
      · rw [if_pos (decide_eq_true (by omega))]
        exact ⟨_, rfl, .inr ⟨rfl, by omega⟩⟩
      · rw [if_neg (fun e => hz (by have := of_decide_eq_true e; omega))]
        obtain ⟨x, h1, h2⟩ := ih (i + 1) n _ (by omega) (by omega) (show acc + (xss.getD i []).length ≤ 65536 by omega)
        exact ⟨x, h1, by rw [← Nat.add_assoc]; exact h2⟩

theorem long_ok {K : Nat} (hK : 18446744073709551616 ≤ K) {p : Sl} {xss : List (List Int)} {Q : Nat → Prop} {w : World} (hp : Parts w p xss Q) :
    spring_long K p w = some (decide (xss.flatten.length > 65536), ()) := by
  have hmany := hp.many
  obtain ⟨x, h1, h2⟩ := long_loop (K := K) hp xss.length 0 K 0 (by omega) (by omega) (by omega)
  have h1 : spring_long_l0 K K 0 p ((p.len : Nat) : Int) 0 w = some x := h1
  rw [List.drop_zero, Nat.zero_add] at h2
  unfold spring_long
  rw [h1, Option.bind_some]
  rcases h2 with ⟨rfl, h2⟩ | ⟨rfl, h2⟩
  · rw [decide_eq_false (by omega)]
  · rw [decide_eq_true h2]

/-- what a draw is refused for -/
def drawErr (lim d n : Int) (t : Nat) : Int := if n < 0 then 2 else if n > 65536 ∨ t > 65536 then 4 else if d = lim then 61 else 0

/-- the state behind what is taken in first; the bytes; the state behind all -/
def preS (C S : List Int) (h : Int) (kv : List Int × List Int) (xs : List Int) : List Int × List Int := if xs = [] then kv else updS C S h kv xs
def outS (C S : List Int) (h : Int) (kv : List Int × List Int) (n : Nat) (xs : List Int) : List Int := (genO C S h (preS C S h kv xs).1 (preS C S h kv xs).2 (cnt h n)).take n
def nxtS (C S : List Int) (h : Int) (kv : List Int × List Int) (n : Nat) (xs : List Int) : List Int × List Int := updS C S h ((preS C S h kv xs).1, genV C S h (preS C S h kv xs).1 (preS C S h kv xs).2 (cnt h n)) xs
theorem outS_len {h : Int} (hk : known h = true) (C S : List Int) (kv : List Int × List Int) (n : Nat) (xs : List Int) : (outS C S h kv n xs).length = n := by
  unfold outS
  rw [List.length_take, genO_len hk]
  have := (cnt_bound hk n).1
  omega

theorem draw_s0 {K : Nat} (hK : 18446744073709551616 ≤ K) {w : World} {g : Nat} {h lim d : Int} {ks vs : List Int} {R : Nat → Prop} (s : SprAt R 56 w g h lim d ks vs) {p : Sl} {xss : List (List Int)} {Q : Nat → Prop} (hp : Parts w p xss Q) (n : Int) :
    ∃ w', spring_Spring_Draw_s0 K (some ⟨g, 0, none⟩) n p w = some (if drawErr lim d n xss.flatten.length = 0 then .norm () else .ret (nilS, drawErr lim d n xss.flatten.length, ()), w') ∧ Upd none_ w w' := by
  have hlo := long_ok hK hp
  unfold spring_Spring_Draw_s0 drawErr
  rw [if_neg (show ¬ (some (⟨g, 0, none⟩ : Addr)).isNone = true from Bool.noConfusion)]
  by_cases h1 : n < 0
  · rw [if_pos (decide_eq_true h1), if_pos h1]
    exact ⟨w, rfl, Upd.refl _ w⟩
  · rw [if_neg (fun e => h1 (of_decide_eq_true e)), if_neg h1]
    have hs1 : spring_Spring_Draw_s1 K n p w = some ((decide (n > 65536 ∨ xss.flatten.length > 65536), ()), w) := by
      unfold spring_Spring_Draw_s1
      by_cases h2 : n > 65536
      · rw [if_pos (decide_eq_true h2), decide_eq_true (show n > 65536 ∨ _ from .inl h2)]
      · rw [if_neg (fun e => h2 (of_decide_eq_true e)), hlo, Option.bind_some]
        by_cases h3 : xss.flatten.length > 65536
        · rw [decide_eq_true h3, decide_eq_true (show n > 65536 ∨ _ from .inr h3)]
        · rw [decide_eq_false h3, decide_eq_false (show ¬ (n > 65536 ∨ xss.flatten.length > 65536) from fun e => e.elim h2 h3)]
    rw [hs1, bnd_ok]
    by_cases h2 : n > 65536 ∨ xss.flatten.length > 65536
    · rw [if_pos (decide_eq_true h2), if_pos h2]
      exact ⟨w, rfl, Upd.refl _ w⟩
    · obtain ⟨sk, sv, b, _⟩ := s.ex
      have l2 : ldI .i64 ((⟨g, 0, none⟩ : Addr).add 2) w.drew = some d := by rw [add_lit]; exact b.drew.ldI rfl
      have l1 : ldI .i64 ((⟨g, 0, none⟩ : Addr).add 1) w.drew = some lim := by rw [add_lit]; exact b.drew.ldI rfl
      rw [if_neg (fun e => h2 (of_decide_eq_true e)), if_neg h2, Option.bind_some, Option.bind_some, l2, Option.bind_some, l1, Option.bind_some]
      by_cases h3 : d = lim
      · rw [if_pos (by simpa using h3), if_pos h3]
        exact ⟨w.drew, rfl, (Upd.refl _ w).drew⟩
      · rw [if_neg (by simpa using h3), if_neg h3]
        exact ⟨w.drew, rfl, (Upd.refl _ w).drew⟩

theorem draw_err {K : Nat} (hK : 18446744073709551616 ≤ K) {w : World} {g : Nat} {h lim d : Int} {ks vs : List Int} {R : Nat → Prop} (s : SprAt R 56 w g h lim d ks vs) {p : Sl} {xss : List (List Int)} {Q : Nat → Prop} (hp : Parts w p xss Q) {n : Int} (he : drawErr lim d n xss.flatten.length ≠ 0) :
    ∃ w', spring_Spring_Draw K (some ⟨g, 0, none⟩) n p w = some ((nilS, drawErr lim d n xss.flatten.length, ()), w') ∧ Upd none_ w w' := by
  obtain ⟨w', h1, h2⟩ := draw_s0 hK s hp n
  rw [if_neg he] at h1
  refine ⟨w', ?_, h2⟩
  unfold spring_Spring_Draw
  rw [h1, bnd_ok]

theorem drawErr_zero {lim d : Int} {n : Int} {t : Nat} (h : drawErr lim d n t = 0) : ∃ m : Nat, n = (m : Int) ∧ m ≤ 65536 ∧ t ≤ 65536 := by
  unfold drawErr at h
  split at h
  · cases h
  · split at h
    · cases h
    · exact ⟨n.toNat, by omega, by omega, by omega⟩

theorem Upd.old {g : Nat} {w w' : World} (u : Upd (fun k => k = g ∨ w.heap.size ≤ k) w w') : Upd (· = g) w w' := u.mono fun k hk e => e.resolve_right (by omega)

theorem draw_ok {K : Nat} (hK : 18446744073709551616 ≤ K) {C S : List Int} {w : World} (T : Tabs w C S) {g : Nat} (hg : 5 ≤ g) {h lim d : Int} (hk : known h = true) (hd0 : 0 ≤ d) (hd1 : d < 9223372036854775807) {ks vs : List Int} {R : Nat → Prop} (s : SprAt R 56 w g h lim d ks vs) {p : Sl} {qs : List (Sl × List Int)} {Q : Nat → Prop} (hQ : ¬ Q g) (hp : PartsL w p qs Q) (hm : qs.length ≤ 1048576) {n : Nat} (he : drawErr lim d (n : Int) (qs.map (·.2)).flatten.length = 0) :
    ∃ r w', spring_Spring_Draw K (some ⟨g, 0, none⟩) (n : Int) p w = some ((r, 0, ()), w') ∧
      SprAt (fun k => w.heap.size ≤ k ∧ r.blk ≠ some k) 56 w' g h lim (d + 1) (nxtS C S h (ks, vs) n (qs.map (·.2)).flatten).1 (nxtS C S h (ks, vs) n (qs.map (·.2)).flatten).2 ∧
      Vw 5 w' r (ints .u8 (outS C S h (ks, vs) n (qs.map (·.2)).flatten)) ∧ r.cap = n ∧ Fresh w.heap.size r ∧ Upd (· = g) w w' := by
  obtain ⟨m, hm1, hn, ht⟩ := drawErr_zero he
  obtain rfl : n = m := by omega
  obtain ⟨w1, a1, u1⟩ := draw_s0 hK s (hp.parts (by omega)) (n : Int)
  rw [if_pos he] at a1
  have T1 := T.upd0 u1
  have s1 := s.upd0 u1
  have p1 := hp.upd0 u1
  have hso := some_ok hK false (p1.parts (by omega))
  have hso : slices_ContainsFunc_byte_byte K p (.func (.func 22) #[] #[]) w1 = _ := hso
  -- what is taken in first
  have hpre : ∃ w2, spring_Spring_Draw_s2 K (some ⟨g, 0, none⟩) p (decide ((qs.map (·.2)).flatten ≠ [])) w1 = some ((), w2) ∧ SprAt (fun _ => True) 56 w2 g h lim d (preS C S h (ks, vs) (qs.map (·.2)).flatten).1 (preS C S h (ks, vs) (qs.map (·.2)).flatten).2 ∧ Upd (· = g) w1 w2 := by
    unfold spring_Spring_Draw_s2 preS
    by_cases hx : (qs.map (·.2)).flatten = []
    · rw [if_neg (fun e => (of_decide_eq_true e : (qs.map (·.2)).flatten ≠ []) hx), if_pos hx]
      exact ⟨w1, rfl, s1.any, Upd.refl _ w1⟩
    · rw [if_pos (decide_eq_true hx), if_neg hx]
      obtain ⟨w2, b1, b2, b3⟩ := spr_update hK T1 hg s1 hQ p1 hm (by omega)
      rw [b1, bnd_ok]
      exact ⟨w2, rfl, b2.any, b3⟩
  obtain ⟨w2, b1, s2, u2⟩ := hpre
  have T2 := T1.upd u2 fun k hk e => by omega
  have p2 := p1.upd u2 fun k hk e => hQ (e ▸ hk)
  obtain ⟨k1, hk1⟩ : ∃ k1, (preS C S h (ks, vs) (qs.map (·.2)).flatten).1 = k1 := ⟨_, rfl⟩
  obtain ⟨v1, hv1⟩ : ∃ v1, (preS C S h (ks, vs) (qs.map (·.2)).flatten).2 = v1 := ⟨_, rfl⟩
  unfold nxtS outS
  rw [hk1, hv1] at s2 ⊢
  obtain ⟨sk, sv, c1, c2, c3, _⟩ := s2.ex
  have hcb := cnt_le_fuel hk n
  obtain ⟨o, sv', w3, d1, d2, d3, d4, d5, d6, d7, d8, d9⟩ := draw_loop hK (C := C) (S := S) hk (v := v1) s2.kin s2.kl hg hn (lim := lim) (c := d) (g := g) (p := p) (B := w2.heap.size) s2.lt (fun k hk => c2.lt hk) (cnt h n) 0 K w2 nilS sv (by omega) (by omega) T2 c1 c2 c3 s2.vin s2.vl (Own.nil _ w2) (fun k hk => by cases hk) (fun k hk e => by cases e) (Nat.le_refl _)
  have u3 : Upd (· = g) w2 w3 := Upd.old d9
  have T3 := T2.upd u3 fun k hk e => by omega
  have p3 := p2.upd u3 fun k hk e => hQ (e ▸ hk)
  have s3 : SprAt (fun _ => True) 56 w3 g h lim d k1 (genV C S h k1 v1 (cnt h n)) := ⟨⟨sk, sv', d2, d3, d4, fun _ _ => trivial⟩, s2.kin, d5, s2.kl, d6⟩
  obtain ⟨w4, e1, s4, u4⟩ := spr_update hK T3 hg s3 hQ p3 hm (by omega)
  obtain ⟨sk4, sv4, f1, f2, f3, f4⟩ := s4.ex
  obtain ⟨w5, i1, i2, i3⟩ := f1.stC (i := 2) (by simp) (.int .i64 (d + 1))
  have hol : o.len = cnt h n * szH h := by rw [d7.len, ints_length, genO_len hk]
  have hcb2 := (cnt_bound hk n).1
  have hcap := d7.cap
  have hv := vw_cap d7 (n := n) (by omega)
  rw [ints_take] at hv
  have hz1 := u1.size
  have hz2 := u2.size
  have hz3 := u3.size
  have hng : ∀ k, o.blk = some k → k ≠ g := fun k hk e => by have := d8 k hk; have := s2.lt; omega
  have i2 : Bk 56 w5 g [.int .i64 h, .int .i64 lim, .int .i64 (d + 1), slV sk4, slV sv4] := i2
  have s5 := f2.upd i3 fun k hk e => vw_ne f2 f1 (by decide) k hk e
  have s6 := f3.upd i3 fun k hk e => vw_ne f3 f1 (by decide) k hk e
  refine ⟨⟨o.a, n, n⟩, w5, ?_, ⟨⟨sk4, sv4, i2, s5, s6, fun k hk => ⟨by have := f4 k hk; omega, fun e => by have h1 := f4 k hk; have h2 := d7.lt e; omega⟩⟩, s4.kin, s4.vin, s4.kl, s4.vl⟩, (hv.upd u4 fun k hk e => hng k hk e).upd i3 fun k hk e => hng k hk e, rfl, fun k hk => by have := d8 k hk; omega, (((u1.mono (T := (· = g)) fun _ _ e => e.elim).trans' u2 fun _ _ e => e).trans' u3 fun _ _ e => e).trans' (u4.trans' i3 fun _ _ e => e) fun _ _ e => e⟩
  have l2 : ldI .i64 ((⟨g, 0, none⟩ : Addr).add 2) w4 = some d := by rw [add_lit]; exact f1.ldI rfl
  have g2 : stC ((⟨g, 0, none⟩ : Addr).add 2) (.int .i64 (d + 1)) w4 = some w5 := by rw [add_lit]; exact i1
  have ew : IntKind.i64.wrap (d + 1) = d + 1 := w64 (by omega) (by omega)
  have esl : sla o.a 0 n 1 = o.a := sla_zero ..
  have d1 : spring_Spring_Draw_l3 K K (some ⟨g, 0, none⟩) (n : Int) p nilS w2 = some ((o, ()), w3) := d1
  unfold spring_Spring_Draw
  rw [a1, bnd_ok]
  dsimp only
  rw [hso, bnd_ok, b1, bnd_ok, d1, bnd_ok]
  dsimp only
  rw [e1, bnd_ok, Option.bind_some, l2, Option.bind_some, Option.bind_some, ew, g2, Option.bind_some]
  rw [if_pos (by omega), Int.toNat_natCast, if_pos (by omega), esl, Nat.sub_zero]

end Go.Sh

/- What is left of a spring, a copy of it, and a feed. -/
set_option linter.unusedVariables false
namespace Go.Sh
open Go.Fw Go.Sha Go.RowKit Go.Proofs.Tryd

theorem left_ok {w : World} {g : Nat} {h lim d : Int} {ks vs : List Int} {R : Nat → Prop} (s : SprAt R 56 w g h lim d ks vs) (hl : 0 ≤ d ∧ d ≤ lim ∧ lim ≤ 16777216) : spring_Spring_Left (some ⟨g, 0, none⟩) w = some ((lim - d, ()), w.drew) := by
  obtain ⟨sk, sv, b, _⟩ := s.ex
  have l2 : ldI .i64 ((⟨g, 0, none⟩ : Addr).add 2) w.drew = some d := by rw [add_lit]; exact b.drew.ldI rfl
  have l1 : ldI .i64 ((⟨g, 0, none⟩ : Addr).add 1) w.drew = some lim := by rw [add_lit]; exact b.drew.ldI rfl
  have ew : IntKind.i64.wrap (lim - d) = lim - d := w64 (by omega) (by omega)
  unfold spring_Spring_Left
  rw [if_neg (show ¬ (some (⟨g, 0, none⟩ : Addr)).isNone = true from Bool.noConfusion), Option.bind_some, Option.bind_some, l1, Option.bind_some, l2, Option.bind_some, ew]

theorem copy_ok {w : World} {g : Nat} {h lim d : Int} {ks vs : List Int} {R : Nat → Prop} (s : SprAt R 56 w g h lim d ks vs) :
    ∃ g' w', spring_Spring_Copy (some ⟨g, 0, none⟩) w = some ((some ⟨g', 0, none⟩, ()), w') ∧ SprAt R 56 w' g' h lim d ks vs ∧ w.heap.size ≤ g' ∧ Upd none_ w w' := by
  obtain ⟨sk, sv, b, v1, v2, v3⟩ := s.ex
  obtain ⟨w1, n1, b1, u1, z1⟩ := newB_ok z56 56 w
  obtain ⟨w2, s2, b2, u2, _⟩ := lay b1 (vs := [.int .i64 h, .int .i64 lim, .int .i64 d, slV sk, slV sv]) rfl (by
    intro v hv
    simp only [List.mem_cons, List.not_mem_nil, or_false] at hv
    rcases hv with rfl | rfl | rfl | rfl | rfl <;> rfl)
  have q2 : Upd none_ w w2 := u1.trans' u2 fun k hk e => by omega
  refine ⟨w.heap.size, w2, ?_, ⟨⟨sk, sv, b2, v1.upd0 q2, v2.upd0 q2, v3⟩, s.kin, s.vin, s.kl, s.vl⟩, Nat.le_refl _, q2⟩
  have la : ldA 5 ⟨g, 0, none⟩ w = some [Value.int .i64 h, .int .i64 lim, .int .i64 d, slV sk, slV sv].toArray := b.ldA (i := 0) (n := 5) (by simp)
  unfold spring_Spring_Copy
  rw [if_neg (show ¬ (some (⟨g, 0, none⟩ : Addr)).isNone = true from Bool.noConfusion), Option.bind_some, la, Option.bind_some, n1, bnd_ok]
  exact (if_pos rfl).trans (by rw [s2, Option.bind_some])

/-- what a feed is refused for -/
def feedErr (n t : Nat) : Int := if ¬ (16 ≤ n ∧ n ≤ 65536) then 60 else if t > 65536 then 4 else 0

theorem fit_ok (e : Sl) : spring_fit e = some (decide (16 ≤ e.len ∧ e.len ≤ 65536), ()) := by
  unfold spring_fit
  by_cases h1 : 16 ≤ e.len
  · rw [if_pos (decide_eq_true (by omega))]
    by_cases h2 : e.len ≤ 65536
    · rw [decide_eq_true (show ((e.len : Nat) : Int) ≤ 65536 by omega), decide_eq_true (show 16 ≤ e.len ∧ e.len ≤ 65536 from ⟨h1, h2⟩)]
    · rw [decide_eq_false (show ¬ ((e.len : Nat) : Int) ≤ 65536 by omega), decide_eq_false (show ¬ (16 ≤ e.len ∧ e.len ≤ 65536) by omega)]
  · rw [if_neg (fun e' => h1 (by have := of_decide_eq_true e'; omega)), decide_eq_false (show ¬ (16 ≤ e.len ∧ e.len ≤ 65536) by omega)]

theorem feed_err {K : Nat} (hK : 18446744073709551616 ≤ K) {w : World} {g : Nat} {e : Sl} {n : Nat} (hn : e.len = n) {p : Sl} {xss : List (List Int)} {Q : Nat → Prop} (hp : Parts w p xss Q) (he : feedErr n xss.flatten.length ≠ 0) :
    spring_Spring_Feed K (some ⟨g, 0, none⟩) e p w = some ((feedErr n xss.flatten.length, ()), w) := by
  unfold feedErr at he ⊢
  unfold spring_Spring_Feed
  rw [if_neg (show ¬ (some (⟨g, 0, none⟩ : Addr)).isNone = true from Bool.noConfusion), fit_ok, Option.bind_some, hn]
  by_cases h1 : 16 ≤ n ∧ n ≤ 65536
  · have h3 : ¬ ¬ (16 ≤ n ∧ n ≤ 65536) := fun h => h h1
    rw [if_neg h3] at he
    rw [decide_eq_true h1, if_neg (by decide), long_ok hK hp, Option.bind_some, if_neg h3]
    by_cases h2 : xss.flatten.length > 65536
    · rw [if_pos h2, if_pos (decide_eq_true h2)]
    · rw [if_neg h2] at he; exact (he rfl).elim
  · rw [decide_eq_false h1, if_pos (show (!(false, ()).1) = true from rfl), if_pos h1]

theorem feed_ok {K : Nat} (hK : 18446744073709551616 ≤ K) {C S : List Int} {w : World} (T : Tabs w C S) {g : Nat} (hg : 5 ≤ g) {h lim d : Int} {ks vs : List Int} {R : Nat → Prop} (s : SprAt R 56 w g h lim d ks vs) {e : Sl} {es : List Int} (pe : PartOk w (e, es)) (hne : ∀ q, e.a = some q → es ≠ [] → q.block ≠ g) {p : Sl} {qs : List (Sl × List Int)} {Q : Nat → Prop} (hQ : ¬ Q g) (hp : PartsL w p qs Q) (hm : qs.length ≤ 1048575) (he : feedErr es.length (qs.map (·.2)).flatten.length = 0) :
    ∃ w', spring_Spring_Feed K (some ⟨g, 0, none⟩) e p w = some ((0, ()), w') ∧ SprAt (fun k => w.heap.size ≤ k) 56 w' g h lim 0 (updS C S h (ks, vs) (es ++ (qs.map (·.2)).flatten)).1 (updS C S h (ks, vs) (es ++ (qs.map (·.2)).flatten)).2 ∧ Upd (· = g) w w' := by
  have hel : e.len = es.length := by rw [pe.1.len, ints_length]
  unfold feedErr at he
  have h1 : 16 ≤ es.length ∧ es.length ≤ 65536 := by
    by_cases h1 : 16 ≤ es.length ∧ es.length ≤ 65536
    · exact h1
    · rw [if_pos h1] at he; cases he
  have h3 : ¬ ¬ (16 ≤ es.length ∧ es.length ≤ 65536) := fun h => h h1
  rw [if_neg h3] at he
  have h2 : ¬ (qs.map (·.2)).flatten.length > 65536 := fun h2 => by rw [if_pos h2] at he; cases he
  have hlt := s.lt
  obtain ⟨t, w1, r, w2, c1, c2, c3, u2, fr⟩ := parts_cons (w := w) [(e, es)] (by simp) (by simp) (fun q hq => by
    simp only [List.mem_cons, List.not_mem_nil, or_false] at hq
    rw [hq]; exact pe) hp (by omega)
  have c1 : bldS prog 32 1 #[(0, (.slice e.a e.len e.cap))] w = some (t, w1) := c1
  -- the parts of it lie elsewhere
  have c3' : PartsL w2 r ([(e, es)] ++ qs) (fun k => k ≠ g) := by
    refine ⟨c3.src, fun q hq => ⟨(c3.all q hq).1, fun a ha hn => ?_⟩, fun a ha _ => ?_⟩
    · rcases List.mem_append.1 hq with hq | hq
      · simp only [List.mem_cons, List.not_mem_nil, or_false] at hq
        rw [hq] at ha hn; exact hne a ha hn
      · exact fun e => hQ (e ▸ (hp.all q hq).2 a ha hn)
    · have := fr a.block (by rw [Sl.blk, ha]; rfl)
      omega
  have hfl : (([(e, es)] ++ qs).map (·.2)).flatten = es ++ (qs.map (·.2)).flatten := by simp
  obtain ⟨w3, d1, s3, u3⟩ := spr_update hK (T.upd0 u2) hg (s.upd0 u2) (fun h => h rfl) c3' (by simp; omega) (by rw [hfl, List.length_append]; omega)
  rw [hfl] at s3
  obtain ⟨sk, sv, b, v1, v2, v3⟩ := s3.ex
  have zz2 := u2.size
  obtain ⟨w4, i1, i2, i3⟩ := b.stC (i := 2) (by simp) (.int .i64 0)
  have g2 : stC ((⟨g, 0, none⟩ : Addr).add 2) (.int .i64 0) w3 = some w4 := by rw [add_lit]; exact i1
  refine ⟨w4, ?_, ⟨⟨sk, sv, i2, v1.upd i3 fun k hk e => vw_ne v1 b (by decide) k hk e, v2.upd i3 fun k hk e => vw_ne v2 b (by decide) k hk e, fun k hk => by have := v3 k hk; omega⟩, s3.kin, s3.vin, s3.kl, s3.vl⟩, ((u2.mono (T := (· = g)) fun _ _ e => e.elim).trans' u3 fun _ _ e => e).trans' i3 fun _ _ e => e⟩
  unfold spring_Spring_Feed
  rw [if_neg (show ¬ (some (⟨g, 0, none⟩ : Addr)).isNone = true from Bool.noConfusion), fit_ok, Option.bind_some, hel, decide_eq_true h1, if_neg (by decide), long_ok hK (hp.parts (by omega)), Option.bind_some, decide_eq_false h2, if_neg (by decide), ← hel, c1, bnd_ok, c2, bnd_ok, d1, bnd_ok, Option.bind_some, g2, Option.bind_some]

end Go.Sh

/- A new spring. -/
set_option linter.unusedVariables false
namespace Go.Sh
open Go.Fw Go.Sha Go.RowKit Go.Proofs.Tryd

theorem mkS_full (w : World) {n : Nat} (hn : n ≤ 1099511627776) :
    ∃ w', mkS prog 22 (.int .i64 (n : Int)) (.int .i64 (n : Int)) w = some (⟨some ⟨w.heap.size, 0, none⟩, n, n⟩, w') ∧ Own 5 w' ⟨some ⟨w.heap.size, 0, none⟩, n, n⟩ (ints .u8 (List.replicate n 0)) ∧ Upd none_ w w' := by
  obtain ⟨i, hi, hsz, hz, hby⟩ := sliceB.info
  obtain ⟨w', hr, ho, hg⟩ := run_make_full (P := prog) w 0 22 5 i (.int .u8 0) 1 sliceB.ht hi hz hsz .i64 .i64 n (by rw [hby]; omega) (by simp only [maxLen]; omega) (Nat.zero_le _)
  obtain ⟨s, h1, h2, h3⟩ := Own.of_row ho
  have hs : s = ⟨some ⟨w.heap.size, 0, none⟩, n, n⟩ := by
    cases s
    simp only [Value.slice.injEq] at h1
    simp [← h1.1, ← h1.2.1, ← h1.2.2]
  have hc : (madeCells (Value.int .u8 0).cells (n * 1)).toList = ints .u8 (List.replicate n 0) := by
    apply List.ext_getElem
    · simp [madeCells]
    · intro j h1 h2
      simp [madeCells, Nat.mod_one, Value.cells]
  refine ⟨w', ?_, by rw [hs] at h3; rw [← hc]; exact h3, (Upd.of_grown hg).mono fun k _ e => by cases e⟩
  unfold mkS
  rw [hr]

theorem allB_all {β : Type} {r : β} : ∀ {l : List (Option β)}, l ≠ [] → (∀ x ∈ l, x = some r) → allB l = some r
  | [], h, _ => (h rfl).elim
  | [x], _, h => by unfold allB; exact h x (List.mem_singleton_self x)
  | x :: y :: l, _, h => by
    have e := allB_all (l := y :: l) (by simp) fun z hz => h z (List.mem_cons_of_mem _ hz)
    have e1 := h x (List.mem_cons_self ..)
    rw [e1]
    unfold allB
    rw [if_pos e.symm]

theorem mnz_ok (w : World) {n : Nat} (hn : n ≤ 1099511627776) :
    ∃ (c : Nat) (cs : List Value) (w' : World), bytealg_MakeNoZero (n : Int) w = some ((⟨some ⟨w.heap.size, 0, none⟩, n, c⟩, ()), w') ∧ Bk 5 w' w.heap.size cs ∧ n ≤ c ∧ cs.length = c ∧ Upd none_ w w' := by
  obtain ⟨cs, hr, h1, h2⟩ := Go.Lib.run_makeNoZero (P := prog) w #[3] 22 5 sliceB.ht n (by omega)
  refine ⟨cs.size, cs.toList, _, ?_, Bk.new (w.drew.drew) cs 5, h1, by simp, (((Upd.refl none_ w).drew).drew).and0 (Upd.alloc _ _ _)⟩
  unfold bytealg_MakeNoZero
  rw [hr]

/-- the rounds of Repeat: what lies there is doubled -/
theorem rep_loop (K : Nat) {n c : Nat} (hn : n ≤ 8192) (hc : n ≤ c) {x : Value} (hx : x.oneCell' = true) {g : Nat} :
    ∀ (d bp f : Nat) (w : World) (cs : List Value), n - bp ≤ d → bp ≤ n → 0 < bp → d < f → Bk 5 w g cs → cs.length = c → cs.take bp = List.replicate bp x →
      ∃ w' cs', bytes_Repeat_l4 K f (n : Int) (n : Int) ⟨some ⟨g, 0, none⟩, n, n⟩ (bp : Int) w = some ((), w') ∧ Bk 5 w' g cs' ∧ cs'.length = c ∧ cs'.take n = List.replicate n x ∧ Upd (· = g) w w' := by
  intro d
  induction d with
  | zero =>
    intro bp f w cs h1 h2 h3 hf hb hl ht
    obtain ⟨f, rfl⟩ : ∃ m, f = m + 1 := ⟨f - 1, by omega⟩
    obtain rfl : bp = n := by omega
    have eu : bytes_Repeat_l4 K (f + 1) = bytes_Repeat_l4_b K (bytes_Repeat_l4 K f) := rfl
    rw [eu]
    unfold bytes_Repeat_l4_b
    rw [if_neg (by simp)]
    exact ⟨w, cs, rfl, hb, hl, ht, Upd.refl _ w⟩
  | succ d ih =>
    intro bp f w cs h1 h2 h3 hf hb hl ht
    by_cases hlt : bp < n
    · obtain ⟨f, rfl⟩ : ∃ m, f = m + 1 := ⟨f - 1, by omega⟩
      have eu : bytes_Repeat_l4 K (f + 1) = bytes_Repeat_l4_b K (bytes_Repeat_l4 K f) := rfl
      have hsrc : Src w.drew ⟨some ⟨g, 0, none⟩, bp, n⟩ (List.replicate bp x) := by
        refine ⟨by simp, by show bp ≤ n; omega, .inr ⟨_, rfl, fun i v hv => ?_⟩, fun v hv => by rw [(List.mem_replicate.1 hv).2]; exact hx⟩
        rw [add_lit, hb.drew.cell]
        rw [← ht, List.getElem?_take] at hv
        split at hv
        · simpa using hv
        · cases hv
      obtain ⟨w', c1, c2, c3⟩ := cpy_ok hsrc (o := bp) (dLen := n - bp) (dCap := n - bp) hb.drew (by show bp + min bp (n - bp) ≤ _; omega)
      have c1 : cpy prog 22 22 (.slice (some ⟨g, bp, none⟩) (n - bp) (n - bp)) (.slice (some ⟨g, 0, none⟩) bp n) w.drew = some (((min bp (n - bp) : Nat) : Int), w') := c1
      have c2 : Bk 5 w' g (seg cs bp ((List.replicate bp x).take (min bp (n - bp)))) := c2
      have hsl : (seg cs bp ((List.replicate bp x).take (min bp (n - bp)))).length = c := by
        rw [seg_length (by simp; omega), hl]
      have ht2 : (seg cs bp ((List.replicate bp x).take (min bp (n - bp)))).take (bp + min bp (n - bp)) = List.replicate (bp + min bp (n - bp)) x := by
        have hmb : min bp (n - bp) ≤ bp := Nat.min_le_left ..
        generalize min bp (n - bp) = m at hmb
        unfold seg
        rw [ht, List.take_replicate, Nat.min_eq_left hmb, List.replicate_append_replicate, List.take_append_of_le_length (by rw [List.length_replicate]; exact Nat.le_refl _), List.take_of_length_le (by rw [List.length_replicate]; exact Nat.le_refl _)]
      obtain ⟨w2, cs2, d1, d2, d3, d4, d5⟩ := ih (bp + min bp (n - bp)) f w' _ (by omega) (by omega) (by omega) (by omega) c2 hsl ht2
      refine ⟨w2, cs2, ?_, d2, d3, d4, (((Upd.refl (· = g) w).drew).trans' c3 fun _ _ e => e).trans' d5 fun _ _ e => e⟩
      rw [eu]
      unfold bytes_Repeat_l4_b
      have emin : (if ((n : Nat) : Int) < ((bp : Nat) : Int) then ((n : Nat) : Int) else ((bp : Nat) : Int)) = ((bp : Nat) : Int) := if_neg (by omega)
      have ea : sla (some (⟨g, 0, none⟩ : Addr)) bp n 1 = some ⟨g, bp, none⟩ := by
        unfold sla; rw [if_neg (by omega)]; simp [add_lit]
      have eb : sla (some (⟨g, 0, none⟩ : Addr)) 0 n 1 = some ⟨g, 0, none⟩ := sla_zero ..
      have ew : IntKind.i64.wrap (((bp : Nat) : Int) + ((min bp (n - bp) : Nat) : Int)) = ((bp + min bp (n - bp) : Nat) : Int) := by rw [w64 (by omega) (by omega)]; omega
      rw [if_pos (decide_eq_true (by omega)), emin]
      dsimp only
      rw [if_pos (by omega), if_pos (by omega), Int.toNat_natCast, ea, eb, Nat.sub_zero, Nat.sub_zero, c1, bnd_ok, ew, d1]
    · obtain rfl : bp = n := by omega
      exact ih bp f w cs (by omega) h2 h3 (by omega) hb hl ht

theorem mul_ok {h : Int} (hk : known h = true) : bits_Mul (IntKind.u64.wrap ((1 : Nat) : Int)) (IntKind.u64.wrap ((szH h : Nat) : Int)) = some (0, ((szH h : Nat) : Int), ()) := by
  rcases known_cases hk with e | e | e | e <;> subst e <;> decide +kernel

theorem repeat_ok {K : Nat} (hK : 18446744073709551616 ≤ K) {h : Int} (hk : known h = true) {w : World} {b : Sl} (hb : Src w b [.int .u8 1]) (hbw : ∀ q, b.a = some q → q.block < w.heap.size) :
    ∃ w', bytes_Repeat K b ((szH h : Nat) : Int) w = some ((⟨some ⟨w.heap.size, 0, none⟩, szH h, szH h⟩, ()), w') ∧ Vw 5 w' ⟨some ⟨w.heap.size, 0, none⟩, szH h, szH h⟩ (ints .u8 (List.replicate (szH h) 1)) ∧ Upd none_ w w' := by
  obtain ⟨_, h28, h64⟩ := szH_ok hk
  have hbl : b.len = 1 := hb.len
  obtain ⟨c, cs, w1, a1, a2, a3, a4, a5⟩ := mnz_ok w (n := szH h) (by omega)
  obtain ⟨w2, c1, c2, c3⟩ := cpy_ok (hb.upd0 a5) (o := 0) (dLen := szH h) (dCap := szH h) a2 (by rw [hbl]; omega)
  have em : min b.len (szH h) = 1 := by rw [hbl]; omega
  rw [em] at c1 c2
  have c2 : Bk 5 w2 w.heap.size (seg cs 0 [.int .u8 1]) := c2
  have hsl : (seg cs 0 [Value.int .u8 1]).length = c := by rw [seg_length (by simp; omega), a4]
  obtain ⟨w3, cs3, d1, d2, d3, d4, d5⟩ := rep_loop K (n := szH h) (c := c) (by omega) a3 (x := .int .u8 1) rfl (szH h - 1) 1 K w2 _ (by omega) (by omega) (by omega) (by omega) c2 hsl (by simp [seg])
  have d1 : bytes_Repeat_l4 K K (szH h : Int) (szH h : Int) ⟨some ⟨w.heap.size, 0, none⟩, szH h, szH h⟩ ((1 : Nat) : Int) w2 = some ((), w3) := d1
  have hz := a5.size
  have q3 : Upd none_ w w3 := (a5.trans' c3 fun k hk e => by omega).trans' d5 fun k hk e => by omega
  refine ⟨w3, ?_, ⟨by simp, .inr ⟨w.heap.size, 0, cs3, rfl, d2, Nat.le_refl _, by simp only [maxLen]; omega, by rw [d3]; show 0 + szH h ≤ c; omega, ?_⟩⟩, q3⟩
  · unfold bytes_Repeat
    rw [if_neg (by simp; omega)]
    unfold bytes_Repeat_s0
    rw [if_neg (by simp), bnd_ok, hbl, mul_ok hk, Option.bind_some]
    unfold bytes_Repeat_s1
    dsimp only
    rw [if_neg (show ¬ decide ((0 : Int) > 0) = true by decide), bnd_ok]
    unfold bytes_Repeat_s2
    dsimp only
    have ew : IntKind.i64.wrap ((szH h : Nat) : Int) = ((szH h : Nat) : Int) := w64 (by omega) (by omega)
    rw [if_neg (by simp; omega), bnd_ok, if_neg (by decide), ew]
    unfold bytes_Repeat_s3
    rw [if_neg (by simp; omega), bnd_ok, a1, bnd_ok]
    dsimp only
    have esl : sla (some (⟨w.heap.size, 0, none⟩ : Addr)) 0 (szH h) 1 = some ⟨w.heap.size, 0, none⟩ := sla_zero ..
    rw [if_pos (by omega), Int.toNat_natCast, if_pos (by omega), esl, Nat.sub_zero]
    have c1 : cpy prog 22 22 (.slice (some ⟨w.heap.size, 0, none⟩) (szH h) (szH h)) (.slice b.a 1 b.cap) w1 = some (((1 : Nat) : Int), w2) := by rw [hbl] at c1; exact c1
    rw [c1, bnd_ok, d1, bnd_ok]
  · rw [List.drop_zero]
    show cs3.take (szH h) = _
    rw [d4]; simp [ints]

end Go.Sh

/- A new spring, whole. -/
set_option linter.unusedVariables false
namespace Go.Sh
open Go.Fw Go.Sha Go.RowKit Go.Proofs.Tryd

theorem built52 (h lim : Int) (a b : Sl) : prog.built 56 [(0, (.int .i64 h)), (1, (.int .i64 lim)), (3, (.slice a.a a.len a.cap)), (4, (.slice b.a b.len b.cap))] = some #[.int .i64 h, .int .i64 lim, .int .i64 0, slV a, slV b] := by kernel_rfl

theorem reps_in (n : Nat) (x : Int) (h : InK .u8 x) : ∀ y ∈ List.replicate n x, InK .u8 y := fun y hy => by rw [(List.mem_replicate.1 hy).2]; exact h
theorem in1 : InK .u8 1 := ⟨by decide, by decide⟩

/-- the last steps of every order -/
theorem new_end {β : Type} {h lim : Int} (hk : known h = true) {w w1 : World} {a b : Sl} (u : Upd none_ w w1) (va : Vw 5 w1 a (ints .u8 (List.replicate (szH h) 0))) (vb : Vw 5 w1 b (ints .u8 (List.replicate (szH h) 1))) {k : (Addr × Unit) → World → Option β} {r : β}
    (H : ∀ g w', w.heap.size ≤ g → SprAt (fun _ => True) 56 w' g h lim 0 (List.replicate (szH h) 0) (List.replicate (szH h) 1) → Upd none_ w w' → k (⟨g, 0, none⟩, ()) w' = some r) :
    ((prog.built 56 [(0, (.int .i64 h)), (1, (.int .i64 lim)), (3, (.slice a.a a.len a.cap)), (4, (.slice b.a b.len b.cap))]).bind fun cs => bnd (newB cs 56 w1) fun p w' => k (p, ()) w') = some r := by
  obtain ⟨_, h28, h64⟩ := szH_ok hk
  obtain ⟨w2, n1, b1, u1, z1⟩ := newB_ok #[.int .i64 h, .int .i64 lim, .int .i64 0, slV a, slV b] 56 w1
  rw [built52, Option.bind_some, n1, bnd_ok]
  exact H _ _ u.size ⟨⟨a, b, b1, va.upd0 u1, vb.upd0 u1, fun _ _ => trivial⟩, reps_in _ _ in0, reps_in _ _ in1, by rw [List.length_replicate]; exact h64, by rw [List.length_replicate]; exact h64⟩ (u.and0 u1)

theorem allB_two {β : Type} {r : β} {x y : Option β} (hx : x = some r) (hy : y = some r) : allB [x, y] = some r :=
  allB_all (List.cons_ne_nil _ _) fun z hz => by
    rcases List.mem_cons.1 hz with rfl | hz
    · exact hx
    · rw [List.mem_singleton.1 hz]; exact hy

set_option maxRecDepth 100000 in
theorem new_s2 {β : Type} {K : Nat} (hK : 18446744073709551616 ≤ K) {h lim : Int} (hk : known h = true) {w : World} {k : (Addr × Unit) → World → Option β} {r : β}
    (H : ∀ g w', w.heap.size ≤ g → SprAt (fun _ => True) 56 w' g h lim 0 (List.replicate (szH h) 0) (List.replicate (szH h) 1) → Upd none_ w w' → k (⟨g, 0, none⟩, ()) w' = some r) :
    spring_New_s2 K h lim ((szH h : Nat) : Int) w k = some r := by
  obtain ⟨_, h28, h64⟩ := szH_ok hk
  have q0 : Upd none_ w w.drew := (Upd.refl none_ w).drew
  have hsb : ∀ {w0 w1 w2 : World}, Own 5 w1 ⟨some ⟨w0.heap.size, 0, none⟩, 1, 1⟩ [.int .u8 1] → Upd none_ w1 w2 → Src w2 ⟨some ⟨w0.heap.size, 0, none⟩, 1, 1⟩ [.int .u8 1] ∧ ∀ q, (⟨some ⟨w0.heap.size, 0, none⟩, 1, 1⟩ : Sl).a = some q → q.block < w2.heap.size := fun o u =>
    ⟨(o.upd0 u).src (fun v hv => by rw [List.mem_singleton.1 hv]; rfl), fun q hq => (o.upd0 u).lt (by rw [Sl.blk, hq]; rfl)⟩
  unfold spring_New_s2
  refine allB_two ?_ ?_
  · obtain ⟨w1, a1, a2, a3⟩ := mkS_full w.drew (n := szH h) (by omega)
    obtain ⟨w2, b1, b2, b3, _⟩ := bldS1_ok sliceB (.int .u8 1) rfl w1
    obtain ⟨w3, c1, c2, c3⟩ := repeat_ok hK hk (hsb b2 (Upd.refl _ w2)).1 (hsb b2 (Upd.refl _ w2)).2
    rw [a1, bnd_ok, b1, bnd_ok, c1, bnd_ok]
    exact new_end hk (((q0.and0 a3).and0 b3).and0 c3) ((a2.vw).upd0 (b3.and0 c3)) c2 H
  · obtain ⟨w1, b1, b2, b3, _⟩ := bldS1_ok sliceB (.int .u8 1) rfl w.drew
    rw [b1, bnd_ok]
    refine allB_two ?_ ?_
    · obtain ⟨w2, a1, a2, a3⟩ := mkS_full w1 (n := szH h) (by omega)
      obtain ⟨w3, c1, c2, c3⟩ := repeat_ok hK hk (hsb b2 a3).1 (hsb b2 a3).2
      rw [a1, bnd_ok, c1, bnd_ok]
      exact new_end hk (((q0.and0 b3).and0 a3).and0 c3) ((a2.vw).upd0 c3) c2 H
    · obtain ⟨w2, c1, c2, c3⟩ := repeat_ok hK hk (hsb b2 (Upd.refl _ w1)).1 (hsb b2 (Upd.refl _ w1)).2
      obtain ⟨w3, a1, a2, a3⟩ := mkS_full w2 (n := szH h) (by omega)
      rw [c1, bnd_ok, a1, bnd_ok]
      exact new_end hk (((q0.and0 b3).and0 c3).and0 a3) a2.vw (c2.upd0 a3) H

/-- what a new one is refused for -/
def newErr (h lim : Int) (e n p : Nat) : Int := if known h = false then 10 else if lim < 1 ∨ lim > 16777216 then 2 else if ¬ (16 ≤ e ∧ e ≤ 65536) then 60 else if n > 65536 ∨ p > 65536 then 4 else 0

theorem newErr_zero {h lim : Int} {e n p : Nat} (he : newErr h lim e n p = 0) : known h = true ∧ 1 ≤ lim ∧ lim ≤ 16777216 ∧ 16 ≤ e ∧ e ≤ 65536 ∧ n ≤ 65536 ∧ p ≤ 65536 := by
  unfold newErr at he
  cases hk : known h with
  | false => rw [if_pos hk] at he; cases he
  | true =>
    rw [if_neg (by rw [hk]; decide)] at he
    split at he
    · cases he
    · split at he
      · cases he
      · split at he
        · cases he
        · refine ⟨rfl, ?_, ?_, ?_, ?_, ?_, ?_⟩ <;> omega

theorem sizeOf_none {h : Int} (hk : known h = false) : sizeOfH h = 0 := by unfold sizeOfH; rw [hk]; rfl

theorem new_s0 {K : Nat} {h lim : Int} {e n p : Sl} (w : World) :
    spring_New_s0 K lim e n p (sizeOfH h) w = some (if newErr h lim e.len n.len p.len = 0 then .norm () else .ret (none, newErr h lim e.len n.len p.len, ()), w) := by
  unfold spring_New_s0 newErr
  cases hk : known h with
  | false => rw [sizeOf_none hk, if_pos (by decide), if_pos rfl]; rfl
  | true =>
    obtain ⟨e1, h28, h64⟩ := szH_ok hk
    have ht : ¬ (true = false) := by decide
    rw [e1, if_neg (by simp; omega), if_neg ht]
    have hs : spring_New_s1 K lim w = some ((decide (lim < 1 ∨ lim > 16777216), ()), w) := by
      unfold spring_New_s1
      by_cases h1 : lim < 1
      · rw [if_pos (decide_eq_true h1), decide_eq_true (show lim < 1 ∨ _ from .inl h1)]
      · rw [if_neg (fun e => h1 (of_decide_eq_true e))]
        by_cases h2 : lim > 16777216
        · rw [decide_eq_true h2, decide_eq_true (show lim < 1 ∨ _ from .inr h2)]
        · rw [decide_eq_false h2, decide_eq_false (show ¬ (lim < 1 ∨ lim > 16777216) by omega)]
    rw [hs, bnd_ok]
    by_cases h2 : lim < 1 ∨ lim > 16777216
    · rw [if_pos (decide_eq_true h2), if_pos h2]; rfl
    · rw [if_neg (fun e => h2 (of_decide_eq_true e)), if_neg h2, fit_ok, Option.bind_some]
      by_cases h3 : 16 ≤ e.len ∧ e.len ≤ 65536
      · have h3' : ¬ ¬ (16 ≤ e.len ∧ e.len ≤ 65536) := fun h => h h3
        rw [decide_eq_true h3, if_neg (by decide), if_neg h3']
        by_cases h4 : n.len > 65536
        · rw [if_pos (decide_eq_true (by omega)), if_pos (show n.len > 65536 ∨ _ from .inl h4)]; rfl
        · rw [if_neg (fun e => h4 (by have := of_decide_eq_true e; omega))]
          by_cases h5 : p.len > 65536
          · rw [if_pos (decide_eq_true (by omega)), if_pos (show n.len > 65536 ∨ _ from .inr h5)]; rfl
          · rw [if_neg (fun e => h5 (by have := of_decide_eq_true e; omega)), if_neg (show ¬ (n.len > 65536 ∨ p.len > 65536) by omega)]; rfl
      · rw [decide_eq_false h3, if_pos (show (!(false, ()).1) = true from rfl), if_pos h3]; rfl

theorem new_err {β : Type} {K : Nat} {h lim : Int} {e n p : Sl} {w : World} {k : ((Option Addr) × Int × Unit) → World → Option β} {r : β} (he : newErr h lim e.len n.len p.len ≠ 0)
    (H : ∀ w', Upd none_ w w' → k (none, newErr h lim e.len n.len p.len, ()) w' = some r) : spring_New K h lim e n p w k = some r := by
  obtain ⟨w1, a1, u1⟩ := Size_ok h w
  unfold spring_New
  rw [a1, bnd_ok, new_s0, if_neg he, bnd_ok]
  exact H w1 u1

/-- the state that a seed gives -/
def seedS (C S : List Int) (h : Int) (xs : List Int) : List Int × List Int := updS C S h (List.replicate (szH h) 0, List.replicate (szH h) 1) xs

theorem new_ok {β : Type} {K : Nat} (hK : 18446744073709551616 ≤ K) {C S : List Int} {h lim : Int} {e n p : Sl} {es ns ps : List Int} {w : World} (T : Tabs w C S) (pe : PartOk w (e, es)) (pn : PartOk w (n, ns)) (pp : PartOk w (p, ps)) {k : ((Option Addr) × Int × Unit) → World → Option β} {r : β} (he : newErr h lim es.length ns.length ps.length = 0)
    (H : ∀ g w', w.heap.size ≤ g → SprAt (fun k => w.heap.size ≤ k) 56 w' g h lim 0 (seedS C S h (es ++ (ns ++ ps))).1 (seedS C S h (es ++ (ns ++ ps))).2 → Upd none_ w w' → k (some ⟨g, 0, none⟩, 0, ()) w' = some r) : spring_New K h lim e n p w k = some r := by
  obtain ⟨w1, a1, u1⟩ := Size_ok h w
  obtain ⟨hk, l1, l2, e1, e2, n1, p1⟩ := newErr_zero he
  have el : e.len = es.length := by rw [pe.1.len, ints_length]
  have nl : n.len = ns.length := by rw [pn.1.len, ints_length]
  have pl : p.len = ps.length := by rw [pp.1.len, ints_length]
  have h5 : 5 ≤ w.heap.size := T.lt
  unfold spring_New
  rw [a1, bnd_ok, new_s0, el, nl, pl, if_pos he, bnd_ok]
  dsimp only
  rw [(szH_ok hk).1]
  refine new_s2 hK hk fun g w2 hg s2 u2 => ?_
  have q2 := u1.and0 u2
  have hz := u1.size
  obtain ⟨w3, c1, c2, c3, c4⟩ := bldS_ok sliceSS [slV e, slV n, slV p] (fun v hv => by
    simp only [List.mem_cons, List.not_mem_nil, or_false] at hv
    rcases hv with rfl | rfl | rfl <;> rfl) (by simp) (by simp) w2
  have c1 : bldS prog 32 3 #[(0, (.slice e.a e.len e.cap)), (1, (.slice n.a n.len n.cap)), (2, (.slice p.a p.len p.cap))] w2 = some (⟨some ⟨w2.heap.size, 0, none⟩, 3, 3⟩, w3) := c1
  have q3 := q2.and0 c3
  have pl3 : PartsL w3 ⟨some ⟨w2.heap.size, 0, none⟩, 3, 3⟩ [(e, es), (n, ns), (p, ps)] (fun k => k ≠ g) := by
    have := s2.lt
    refine ⟨c2.src (fun v hv => by
      simp only [List.mem_cons, List.not_mem_nil, or_false] at hv
      rcases hv with rfl | rfl | rfl <;> rfl), fun q hq => ?_, fun a ha _ => by
        have : a = ⟨w2.heap.size, 0, none⟩ := (Option.some.inj ha).symm
        rw [this]; show w2.heap.size ≠ g; omega⟩
    simp only [List.mem_cons, List.not_mem_nil, or_false] at hq
    rcases hq with rfl | rfl | rfl
    · exact ⟨up6 pe q3, fun a ha hn => by have := pe.2.2.2 a ha hn; omega⟩
    · exact ⟨up6 pn q3, fun a ha hn => by have := pn.2.2.2 a ha hn; omega⟩
    · exact ⟨up6 pp q3, fun a ha hn => by have := pp.2.2.2 a ha hn; omega⟩
  have hfl : ([(e, es), (n, ns), (p, ps)].map (·.2)).flatten = es ++ (ns ++ ps) := by simp
  obtain ⟨w4, d1, d2, d3⟩ := spr_update hK (T.upd0 q3) (by omega) (s2.upd0 c3) (fun h => h rfl) pl3 (by simp) (by rw [hfl]; simp; omega)
  rw [hfl] at d2
  rw [← el, ← nl, ← pl] at *
  rw [c1, bnd_ok, d1, bnd_ok]
  exact H g w4 (by omega) (d2.mono fun k hk => Nat.le_trans q3.size hk) (q3.trans' d3 fun k hk e => by omega)

end Go.Sh

/- The document's spring: its update. -/
set_option linter.unusedVariables false
namespace Go.Sh
open Go.Fw Go.Sha Go.RowKit Go.Proofs.Tryd

theorem rjoined_loop (K B : Nat) {s : Sl} {xss : List (List Int)} {Q : Nat → Prop} (hlim : xss.flatten.length ≤ 33554432) :
    ∀ (d i n : Nat) (w : World) (out : Sl), i + d = xss.length → d < n → PartsW w s xss Q → (∀ k, Q k → k < B) → Own 5 w out (ints .u8 (xss.take i).flatten) → B ≤ w.heap.size → Fresh B out →
      ∃ s' w', ref06_joined_l0 K n s out (i : Int) w = some ((s', ()), w') ∧ Own 5 w' s' (ints .u8 xss.flatten) ∧ Below B w w' ∧ Fresh B s' := by
  intro d
  induction d with
  | zero =>
    intro i n w out hi hn h hQ ho hB hf
    obtain ⟨n, rfl⟩ : ∃ m, n = m + 1 := ⟨n - 1, by omega⟩
    have hd : decide ((i : Int) < ((s.len : Nat) : Int)) = false := by rw [h.len]; simp; omega
    refine ⟨out, w, ?_, by rw [List.take_of_length_le (by omega)] at ho; exact ho, Below.refl B w, hf⟩
    show ref06_joined_l0_b K (ref06_joined_l0 K n) s out (i : Int) w = _
    unfold ref06_joined_l0_b
    rw [hd, if_neg (by decide)]
  | succ d ih =>
    intro i n w out hi hn h hQ ho hB hf
    obtain ⟨n, rfl⟩ : ∃ m, n = m + 1 := ⟨n - 1, by omega⟩
    have hd : decide ((i : Int) < ((s.len : Nat) : Int)) = true := by rw [h.len]; simp; omega
    have hol : out.len = (xss.take i).flatten.length := by rw [ho.len, ints_length]
    have hm := h.many
    have hte : xss.take (i + 1) = xss.take i ++ [xss.getD i []] := take_succ_getD (by omega) []
    have hlen2 : (xss.take (i + 1)).flatten.length ≤ 33554432 := by
      have : xss.flatten = (xss.take (i + 1)).flatten ++ (xss.drop (i + 1)).flatten := by rw [← List.flatten_append, List.take_append_drop]
      rw [this, List.length_append] at hlim; omega
    rw [hte, List.flatten_append, List.length_append] at hlen2
    simp only [List.flatten_cons, List.flatten_nil, List.append_nil] at hlen2
    show ∃ s' w', ref06_joined_l0_b K (ref06_joined_l0 K n) s out (i : Int) w = _ ∧ _
    unfold ref06_joined_l0_b
    rw [hd, if_pos rfl]
    obtain ⟨p, t, h1, h2, h3, h5, h6, h7⟩ := h.at (i := i) (by omega)
    have c : (0 : Int) ≤ (i : Int) ∧ (i : Int) < ((s.len : Nat) : Int) := by rw [h.len]; omega
    have e1 : IntKind.i64.wrap ((i : Int) + 1) = ((i + 1 : Nat) : Int) := by rw [w64 (by omega) (by omega)]; rfl
    obtain ⟨o2, w2, a1, a2, a3, a4, a5⟩ := apd_wide sliceB ho hf hB h3 (by rw [hol, h5]; omega)
    have e2 : ints .u8 (xss.take i).flatten ++ ints .u8 (xss.getD i []) = ints .u8 (xss.take (i + 1)).flatten := by
      rw [← ints_append, hte, List.flatten_append]; simp
    rw [e2] at a3
    obtain ⟨s', w', b1, b2, b3, b4⟩ := ih (i + 1) n w2 o2 (by omega) (by omega) (h.upd (upd_of_below a4) fun k hk e => by have := hQ k hk; omega) hQ a3 (by have := a4.size; omega) a5
    refine ⟨s', w', ?_, b2, a4.trans b3, b4⟩
    rw [h1, Option.bind_some, if_pos c, Int.toNat_natCast, Nat.mul_one, h2, Option.bind_some, a1, bnd_ok, e1, b1]

theorem rjoined_ok {K : Nat} (hK : 18446744073709551616 ≤ K) {s : Sl} {xss : List (List Int)} {Q : Nat → Prop} {w : World} (h : PartsW w s xss Q) (hQ : ∀ k, Q k → k < w.heap.size) (hlim : xss.flatten.length ≤ 33554432) :
    ∃ s' w', ref06_joined K s w = some ((s', ()), w') ∧ Own 5 w' s' (ints .u8 xss.flatten) ∧ Upd none_ w w' ∧ Fresh w.heap.size s' := by
  have hm := h.many
  obtain ⟨s', w', h1, h2, h3, h4⟩ := rjoined_loop K w.heap.size hlim xss.length 0 K w nilS (by omega) (by omega) h hQ (by simpa using Own.nil 5 w) (Nat.le_refl _) (fun k hk => by cases hk)
  have h1 : ref06_joined_l0 K K s nilS 0 w = _ := h1
  refine ⟨s', w', ?_, h2, Upd.of_below h3, h4⟩
  unfold ref06_joined
  rw [h1, bnd_ok]

theorem ref_round {K : Nat} (hK : 18446744073709551616 ≤ K) {C S : List Int} {w : World} (T : TabsR w C S) {g : Nat} (hg : 5 ≤ g) {h lim d : Int} {ks vs : List Int} {R : Nat → Prop} (s : SprAt R 84 w g h lim d ks vs) {x : Sl} {xs : List Int} (hx : Src w x (ints .u8 xs)) (hxi : ∀ z ∈ xs, InK .u8 z) (hxw : ∀ q, x.a = some q → q.block < w.heap.size) (hl : xs.length ≤ 33553408) {m : Nat} (hm2 : m < 2) (n : Nat) (hb : ¬ (m = 1 ∧ xs = [])) :
    ∃ w', ref06_Spring_update_l0 K (n + 1) (some ⟨g, 0, none⟩) x (m : Int) w = ref06_Spring_update_l0 K n (some ⟨g, 0, none⟩) x ((m + 1 : Nat) : Int) w' ∧
      SprAt (fun k => w.heap.size ≤ k) 84 w' g h lim d (rndS C S h (ks, vs) m xs).1 (rndS C S h (ks, vs) m xs).2 ∧ Upd (· = g) w w' := by
  obtain ⟨sk, sv, h1, h2, h3, _⟩ := s.ex
  have hlt := s.lt
  have hvl : sv.len = vs.length := by rw [h3.len, ints_length]
  have hkl := s.kl
  have hvl2 := s.vl
  have hxl : x.len = xs.length := by rw [hx.len, ints_length]
  -- what is coded
  obtain ⟨s5, w1, a1, a2, a3, a4, a5⟩ := apd_ok sliceB (Own.nil 5 w) (h3.src ints_one) (by show (0 + sv.len) * 1 ≤ _; omega)
  have a3 : Own 5 w1 s5 (ints .u8 vs) := a3
  have u1 : Upd none_ w w1 := a4.mono fun k _ e => by cases e
  have f5 : Fresh w.heap.size s5 := fun k hk => by
    rcases a5 with e | e
    · rw [e] at hk; cases hk
    · rw [e] at hk; have := Option.some.inj hk; omega
  obtain ⟨w2, s9, w3, b1, b2, b3, b4, b5⟩ := pushO (m : Int) a3 (by rw [a3.len, ints_length]; omega)
  have u3 : Upd none_ w w3 := u1.trans' b4 fun k hk e => by have := f5 k e; omega
  have hz1 := u1.size
  have f9 : Fresh w.heap.size s9 := fun k hk => (b5 k hk).elim (f5 k) fun e => by omega
  obtain ⟨s11, w4, c1, c2, c3, c4, c5⟩ := apd_ok sliceB b3 (hx.upd0 u3) (by rw [b3.len, ints_length, List.length_append]; show (_ + x.len) * 1 ≤ _; simp; omega)
  have u4 : Upd none_ w w4 := u3.trans' c4 fun k hk e => by have := f9 k e; omega
  have ey : ints .u8 (vs ++ [(m : Int)]) ++ ints .u8 xs = ints .u8 (vs ++ (m : Int) :: xs) := by rw [← ints_append]; simp
  rw [ey] at c3
  have u4d : Upd none_ w w4.drew := u4.drew
  have hyi : ∀ z ∈ vs ++ (m : Int) :: xs, InK .u8 z := by
    intro z hz
    rcases List.mem_append.1 hz with hz | hz
    · exact s.vin z hz
    · rcases List.mem_cons.1 hz with rfl | hz
      · exact in_byte (by omega)
      · exact hxi z hz
  obtain ⟨k1, w5, d1, d2, d3, d4⟩ := refCode_ok hK h (T.upd0 u4d) ((h2.upd0 u4d).src ints_one) s.kin (by omega) ((c3.drew).src ints_one) hyi (by rw [List.length_append, List.length_cons]; omega)
  have u5 := u4d.and0 d3
  have hb5 := h1.upd0 u5
  obtain ⟨w6, e1, e2, e3⟩ := hb5.stC (i := 3) (by simp) (slV k1)
  have e2 : Bk 84 w6 g [.int .i64 h, .int .i64 lim, .int .i64 d, slV k1, slV sv] := e2
  have k1' := d2.vw.upd e3 fun k hk e => vw_ne d2.vw hb5 (by decide) k hk e
  have v6 := (h3.upd0 u5).upd e3 fun k hk e => vw_ne (h3.upd0 u5) hb5 (by decide) k hk e
  have T6 : TabsR w6 C S := (T.upd0 u5).upd e3 fun k hk e => by omega
  have q0 : Upd none_ w6 w6.drew := (Upd.refl none_ w6).drew
  obtain ⟨v1, w7, g1, g2, g3, g4⟩ := refCode_ok hK h (T6.upd0 q0) ((k1'.upd0 q0).src ints_one) (codeOf_in6 C S h ks _) (by have := codeOf_len6 C S h ks (vs ++ (m : Int) :: xs); omega) ((v6.upd0 q0).src ints_one) s.vin (by omega)
  have u7 := q0.and0 g3
  have hb7 := e2.upd0 u7
  obtain ⟨w8, i1, i2, i3⟩ := hb7.stC (i := 4) (by simp) (slV v1)
  have i2 : Bk 84 w8 g [.int .i64 h, .int .i64 lim, .int .i64 d, slV k1, slV v1] := i2
  have k8 := (k1'.upd0 u7).upd i3 fun k hk e => vw_ne (k1'.upd0 u7) hb7 (by decide) k hk e
  have v8 := g2.vw.upd i3 fun k hk e => vw_ne g2.vw hb7 (by decide) k hk e
  have zz4 := u4d.size
  have zz6 : w4.drew.heap.size ≤ w6.drew.heap.size := by have := d3.size; have := e3.size; show _ ≤ w6.heap.size; omega
  refine ⟨w8, ?_, ⟨⟨k1, v1, i2, k8, v8, fun k hk => hk.elim (fun hk => by have := d4 k hk; omega) fun hk => by have := g4 k hk; omega⟩, codeOf_in6 _ _ _ _ _, codeOf_in6 _ _ _ _ _, codeOf_len6 .., codeOf_len6 ..⟩, ((u5.mono (T := (· = g)) fun _ _ e => e.elim).trans' e3 fun _ _ e => e).trans' ((u7.mono (T := (· = g)) fun _ _ e => e.elim).trans' i3 fun _ _ e => e) fun _ _ e => e⟩
  have eu : ref06_Spring_update_l0 K (n + 1) = ref06_Spring_update_l0_b K (ref06_Spring_update_l0 K n) := rfl
  have hs1 : ref06_Spring_update_s1 K x (m : Int) w = some ((false, ()), w) := by
    unfold ref06_Spring_update_s1
    by_cases hm1 : m = 1
    · subst hm1
      have hne : xs ≠ [] := fun e => hb ⟨rfl, e⟩
      have : x.len ≠ 0 := by rw [hxl]; exact fun e => hne (List.eq_nil_of_length_eq_zero e)
      rw [if_pos (by decide)]
      simp; omega
    · rw [if_neg (by simp; omega)]
  have e9 : IntKind.i64.wrap ((m : Int) + 1) = ((m + 1 : Nat) : Int) := by rw [w64 (by omega) (by omega)]; rfl
  have e8 : IntKind.u8.wrap (m : Int) = (m : Int) := Go.Fw.w8 (by omega) (by omega)
  have l4 : ldS ((⟨g, 0, none⟩ : Addr).add 4) w = some sv := by rw [add_lit]; exact h1.ldS rfl
  have l0 : ldI .i64 ((⟨g, 0, none⟩ : Addr).add 0) w4.drew = some h := by rw [add_lit]; exact (h1.upd0 u4d).ldI rfl
  have l3 : ldS ((⟨g, 0, none⟩ : Addr).add 3) w4.drew = some sk := by rw [add_lit]; exact (h1.upd0 u4d).ldS rfl
  have s3 : stC ((⟨g, 0, none⟩ : Addr).add 3) (.slice k1.a k1.len k1.cap) w5 = some w6 := by rw [add_lit]; exact e1
  have m0 : ldI .i64 ((⟨g, 0, none⟩ : Addr).add 0) w6.drew = some h := by rw [add_lit]; exact e2.drew.ldI rfl
  have m3 : ldS ((⟨g, 0, none⟩ : Addr).add 3) w6.drew = some k1 := by rw [add_lit]; exact e2.drew.ldS rfl
  have m4 : ldS ((⟨g, 0, none⟩ : Addr).add 4) w6.drew = some sv := by rw [add_lit]; exact e2.drew.ldS rfl
  have s4 : stC ((⟨g, 0, none⟩ : Addr).add 4) (.slice v1.a v1.len v1.cap) w7 = some w8 := by rw [add_lit]; exact i1
  have a1 : apd prog 22 22 (.slice none 0 0) (.slice sv.a sv.len sv.cap) w = some (s5, w1) := a1
  rw [eu]
  unfold ref06_Spring_update_l0_b
  rw [if_pos (decide_eq_true (by omega)), hs1, bnd_ok]
  dsimp only
  rw [if_neg (by decide), Option.bind_some, l4, Option.bind_some, a1, bnd_ok, e8, b1, bnd_ok]
  dsimp only
  rw [b2, bnd_ok, c1, bnd_ok, Option.bind_some, Option.bind_some, l0, Option.bind_some, l3, Option.bind_some, d1, bnd_ok, Option.bind_some, s3, Option.bind_some, Option.bind_some, Option.bind_some, Option.bind_some, m0, Option.bind_some, m3, Option.bind_some, m4, Option.bind_some, g1, bnd_ok, Option.bind_some, s4, Option.bind_some, e9]

theorem ref_update {K : Nat} (hK : 18446744073709551616 ≤ K) {C S : List Int} {w : World} (T : TabsR w C S) {g : Nat} (hg : 5 ≤ g) {h lim d : Int} {ks vs : List Int} {R : Nat → Prop} (s : SprAt R 84 w g h lim d ks vs) {x : Sl} {xs : List Int} (hx : Src w x (ints .u8 xs)) (hxi : ∀ z ∈ xs, InK .u8 z) (hxw : ∀ q, x.a = some q → q.block < w.heap.size ∧ q.block ≠ g) (hl : xs.length ≤ 33553408) :
    ∃ w', ref06_Spring_update K (some ⟨g, 0, none⟩) x w = some ((), w') ∧ SprAt (fun k => w.heap.size ≤ k) 84 w' g h lim d (updS C S h (ks, vs) xs).1 (updS C S h (ks, vs) xs).2 ∧ Upd (· = g) w w' := by
  obtain ⟨n, rfl⟩ : ∃ n, K = n + 3 := ⟨K - 3, by omega⟩
  have hxl : x.len = xs.length := by rw [hx.len, ints_length]
  obtain ⟨w1, a1, a2, a3⟩ := ref_round hK T hg s hx hxi (fun q hq => (hxw q hq).1) hl (m := 0) (by omega) (n + 2) (by omega)
  have a1 : ref06_Spring_update_l0 (n + 3) (n + 3) (some ⟨g, 0, none⟩) x 0 w = _ := a1
  rw [updS_eq]
  unfold ref06_Spring_update
  rw [a1]
  by_cases hx0 : xs = []
  · rw [if_pos hx0]
    have eu : ref06_Spring_update_l0 (n + 3) (n + 2) = ref06_Spring_update_l0_b (n + 3) (ref06_Spring_update_l0 (n + 3) (n + 1)) := rfl
    have h0 : x.len = 0 := by rw [hxl, hx0]; rfl
    have e1 : ref06_Spring_update_l0_b (n + 3) (ref06_Spring_update_l0 (n + 3) (n + 1)) (some ⟨g, 0, none⟩) x ((0 + 1 : Nat) : Int) w1 = some (.ret (), w1) := by
      unfold ref06_Spring_update_l0_b ref06_Spring_update_s1
      rw [if_pos (by decide), if_pos (by decide), bnd_ok, h0]
      rfl
    rw [eu, e1, bnd_ok]
    exact ⟨w1, rfl, a2, a3⟩
  · rw [if_neg hx0]
    have hlt := s.lt
    obtain ⟨w2, b1, b2, b3⟩ := ref_round hK (T.upd a3 fun k hk e => by omega) hg a2 (hx.upd a3 fun q hq e => (hxw q hq).2 e) hxi (fun q hq => by have := (hxw q hq).1; have := a3.size; omega) hl (m := 1) (by omega) (n + 1) (fun h => hx0 h.2)
    have eu : ref06_Spring_update_l0 (n + 3) (n + 1) = ref06_Spring_update_l0_b (n + 3) (ref06_Spring_update_l0 (n + 3) n) := rfl
    have e1 : ref06_Spring_update_l0_b (n + 3) (ref06_Spring_update_l0 (n + 3) n) (some ⟨g, 0, none⟩) x ((1 + 1 : Nat) : Int) w2 = some (.norm (), w2) := rfl
    have b1 : ref06_Spring_update_l0 (n + 3) (n + 2) (some ⟨g, 0, none⟩) x ((0 + 1 : Nat) : Int) w1 = _ := b1
    rw [b1, eu, e1, bnd_ok]
    exact ⟨w2, rfl, b2.mono fun k hk => Nat.le_trans a3.size hk, a3.trans' b3 fun _ _ e => e⟩

end Go.Sh

/- The document's spring: its draws. -/
set_option linter.unusedVariables false
namespace Go.Sh
open Go.Fw Go.Sha Go.RowKit Go.Proofs.Tryd

theorem ref_loop {K : Nat} (hK : 18446744073709551616 ≤ K) {C S : List Int} {h lim c : Int} (hk : known h = true) {ks v : List Int} (hks : ∀ x ∈ ks, InK .u8 x) (hkl : ks.length ≤ 64) {g : Nat} (hg : 5 ≤ g) {n : Nat} (hn : n ≤ 65536) {p : Sl} {B : Nat} (hgB : g < B) {sk : Sl} (hsk : ∀ k, sk.blk = some k → k < B) :
    ∀ (d t f : Nat) (w : World) (o sv : Sl), t + d = cnt h n → d < f → TabsR w C S → Bk 84 w g [.int .i64 h, .int .i64 lim, .int .i64 c, slV sk, slV sv] → Vw 5 w sk (ints .u8 ks) → Vw 5 w sv (ints .u8 (genV C S h ks v t)) → (∀ x ∈ genV C S h ks v t, InK .u8 x) → (genV C S h ks v t).length ≤ 64 →
      Own 5 w o (ints .u8 (genO C S h ks v t)) → Fresh B o → (∀ k, sv.blk = some k → o.blk ≠ some k) → B ≤ w.heap.size →
      ∃ o' sv' w', ref06_Spring_Draw_l3 K f (some ⟨g, 0, none⟩) (n : Int) p o w = some ((o', ()), w') ∧ Bk 84 w' g [.int .i64 h, .int .i64 lim, .int .i64 c, slV sk, slV sv'] ∧ Vw 5 w' sk (ints .u8 ks) ∧ Vw 5 w' sv' (ints .u8 (genV C S h ks v (cnt h n))) ∧ (∀ x ∈ genV C S h ks v (cnt h n), InK .u8 x) ∧ (genV C S h ks v (cnt h n)).length ≤ 64 ∧
        Own 5 w' o' (ints .u8 (genO C S h ks v (cnt h n))) ∧ Fresh B o' ∧ Upd (fun k => k = g ∨ B ≤ k) w w' := by
  obtain ⟨hc1, hc2⟩ := cnt_bound hk n
  obtain ⟨_, h28, h64⟩ := szH_ok hk
  intro d
  induction d with
  | zero =>
    intro t f w o sv ht hf T b hk1 hv1 hvi hvl ho hfr hne hB
    obtain ⟨f, rfl⟩ : ∃ m, f = m + 1 := ⟨f - 1, by omega⟩
    have htc : t = cnt h n := by omega
    subst htc
    have hol : o.len = cnt h n * szH h := by rw [ho.len, ints_length, genO_len hk]
    have eu : ref06_Spring_Draw_l3 K (f + 1) = ref06_Spring_Draw_l3_b K (ref06_Spring_Draw_l3 K f) := rfl
    rw [eu]
    unfold ref06_Spring_Draw_l3_b
    rw [if_neg (by rw [hol]; simp; exact_mod_cast hc1)]
    exact ⟨o, sv, w, rfl, b, hk1, hv1, hvi, hvl, ho, hfr, Upd.refl _ w⟩
  | succ d ih =>
    intro t f w o sv ht hf T b hk1 hv1 hvi hvl ho hfr hne hB
    obtain ⟨f, rfl⟩ : ∃ m, f = m + 1 := ⟨f - 1, by omega⟩
    have hol : o.len = t * szH h := by rw [ho.len, ints_length, genO_len hk]
    have htn := hc2 t (by omega)
    have q0 : Upd none_ w w.drew := (Upd.refl none_ w).drew
    obtain ⟨r, w2, k1, k2, u2, kf⟩ := refCode_ok hK h (T.upd0 q0) ((hk1.upd0 q0).src ints_one) hks (by omega) ((hv1.upd0 q0).src ints_one) hvi (by omega)
    have q2 := q0.and0 u2
    have z1 := q2.size
    have hb2 := b.upd0 q2
    obtain ⟨w3, f1, f2, f3⟩ := hb2.stC (i := 4) (by simp) (slV r)
    have f2 : Bk 84 w3 g [.int .i64 h, .int .i64 lim, .int .i64 c, slV sk, slV r] := f2
    have sk3 := (hk1.upd0 q2).upd f3 fun k hk e => vw_ne (hk1.upd0 q2) hb2 (by decide) k hk e
    have r3 := k2.vw.upd f3 fun k hk e => vw_ne k2.vw hb2 (by decide) k hk e
    have o3 : Own 5 w3 o (ints .u8 (genO C S h ks v t)) := (ho.upd0 q2).upd f3 fun k hk e => by have := hfr k hk; omega
    have hro : ∀ k, r.blk = some k → o.blk ≠ some k := fun k hk e => by
      have h1 : w.heap.size ≤ k := kf k hk
      have h2 := ho.lt e
      omega
    have rl : (genV C S h ks v (t + 1)).length ≤ 64 := codeOf_len6 _ _ _ _ _
    have hrl : r.len = (genV C S h ks v (t + 1)).length := by rw [r3.len, ints_length]; rfl
    have hmul : t * szH h ≤ 65536 := by omega
    obtain ⟨o4, w4, d1, d2, d3, d4, d5⟩ := apd_ok sliceB o3 (r3.src ints_one) (by show (o.len + r.len) * 1 ≤ _; omega)
    have z3 := f3.size
    have z4 := d4.size
    have e34 : ints .u8 (genO C S h ks v t) ++ ints .u8 (codeOf C S h ks (genV C S h ks v t)) = ints .u8 (genO C S h ks v (t + 1)) := by rw [← ints_append]; rfl
    rw [e34] at d3
    have hf4 : Fresh B o4 := by
      intro k hk
      rcases d5 with e | e
      · exact hfr k (e ▸ hk)
      · rw [e] at hk; have := Option.some.inj hk; omega
    have hne4 : ∀ k, r.blk = some k → o4.blk ≠ some k := fun k hk e => by
      rcases d5 with e5 | e5
      · exact hro k hk (e5 ▸ e)
      · have h1 := r3.lt hk
        rw [e5] at e; have := Option.some.inj e; omega
    have X3 : Upd (fun k => k = g ∨ B ≤ k) w w3 := (q2.mono (T := fun k => k = g ∨ B ≤ k) fun _ _ e => e.elim).trans' (f3.mono (T := fun k => k = g ∨ B ≤ k) fun k _ e => .inl e) fun _ _ e => e
    have X4 : Upd (fun k => k = g ∨ B ≤ k) w w4 := X3.trans' (d4.mono (T := fun k => k = g ∨ B ≤ k) fun k _ e => .inr (hfr k e)) fun _ _ e => e
    obtain ⟨o5, sv5, w5, i1, i2, i3, i4, i5, i6, i7, i8, i9⟩ := ih (t + 1) f w4 o4 r (by omega) (by omega) (T.upd X4 fun k hk e => by omega) (f2.upd d4 (fun e => by have := hfr g e; omega)) (sk3.upd d4 fun k hk e => by have h1 := hsk k hk; have h2 := hfr k e; omega) (r3.upd d4 fun k hk e => hro k hk e) (codeOf_in6 _ _ _ _ _) rl d3 hf4 hne4 (by omega)
    refine ⟨o5, sv5, w5, ?_, i2, i3, i4, i5, i6, i7, i8, X4.trans' i9 fun _ _ e => e⟩
    have eu : ref06_Spring_Draw_l3 K (f + 1) = ref06_Spring_Draw_l3_b K (ref06_Spring_Draw_l3 K f) := rfl
    have m0 : ldI .i64 ((⟨g, 0, none⟩ : Addr).add 0) w.drew = some h := by rw [add_lit]; exact b.drew.ldI rfl
    have m3 : ldS ((⟨g, 0, none⟩ : Addr).add 3) w.drew = some sk := by rw [add_lit]; exact b.drew.ldS rfl
    have m4 : ldS ((⟨g, 0, none⟩ : Addr).add 4) w.drew = some sv := by rw [add_lit]; exact b.drew.ldS rfl
    have l3 : ldS ((⟨g, 0, none⟩ : Addr).add 4) w3 = some r := by rw [add_lit]; exact f2.ldS rfl
    have g1 : stC ((⟨g, 0, none⟩ : Addr).add 4) (.slice r.a r.len r.cap) w2 = some w3 := by rw [add_lit]; exact f1
    rw [eu]
    unfold ref06_Spring_Draw_l3_b
    rw [if_pos (by rw [hol]; simp; exact_mod_cast htn), Option.bind_some, Option.bind_some, Option.bind_some, m0, Option.bind_some, m3, Option.bind_some, m4, Option.bind_some, k1, bnd_ok, Option.bind_some, g1, Option.bind_some, Option.bind_some, l3, Option.bind_some, d1, bnd_ok, i1]

theorem ref_s0 {K : Nat} {w : World} {g : Nat} {h lim d : Int} {ks vs : List Int} {R : Nat → Prop} (s : SprAt R 84 w g h lim d ks vs) {x : Sl} {t : Nat} (hx : x.len = t) (n : Int) :
    ∃ w', ref06_Spring_Draw_s0 K (some ⟨g, 0, none⟩) n x w = some (if drawErr lim d n t = 0 then .norm () else .ret (nilS, drawErr lim d n t, ()), w') ∧ Upd none_ w w' := by
  subst hx
  unfold ref06_Spring_Draw_s0 drawErr
  rw [if_neg (show ¬ (some (⟨g, 0, none⟩ : Addr)).isNone = true from Bool.noConfusion)]
  by_cases h1 : n < 0
  · rw [if_pos (decide_eq_true h1), if_pos h1]
    exact ⟨w, rfl, Upd.refl _ w⟩
  · rw [if_neg (fun e => h1 (of_decide_eq_true e)), if_neg h1]
    have hs1 : ref06_Spring_Draw_s1 K n x w = some ((decide (n > 65536 ∨ x.len > 65536), ()), w) := by
      unfold ref06_Spring_Draw_s1
      by_cases h2 : n > 65536
      · rw [if_pos (decide_eq_true h2), decide_eq_true (show n > 65536 ∨ _ from .inl h2)]
      · rw [if_neg (fun e => h2 (of_decide_eq_true e))]
        by_cases h3 : x.len > 65536
        · rw [decide_eq_true (show ((x.len : Nat) : Int) > 65536 by omega), decide_eq_true (show n > 65536 ∨ _ from .inr h3)]
        · rw [decide_eq_false (show ¬ ((x.len : Nat) : Int) > 65536 by omega), decide_eq_false (show ¬ (n > 65536 ∨ x.len > 65536) from fun e => e.elim h2 h3)]
    rw [hs1, bnd_ok]
    by_cases h2 : n > 65536 ∨ x.len > 65536
    · rw [if_pos (decide_eq_true h2), if_pos h2]
      exact ⟨w, rfl, Upd.refl _ w⟩
    · obtain ⟨sk, sv, b, _⟩ := s.ex
      have l2 : ldI .i64 ((⟨g, 0, none⟩ : Addr).add 2) w.drew = some d := by rw [add_lit]; exact b.drew.ldI rfl
      have l1 : ldI .i64 ((⟨g, 0, none⟩ : Addr).add 1) w.drew = some lim := by rw [add_lit]; exact b.drew.ldI rfl
      rw [if_neg (fun e => h2 (of_decide_eq_true e)), if_neg h2, Option.bind_some, Option.bind_some, l2, Option.bind_some, l1, Option.bind_some]
      by_cases h3 : d = lim
      · rw [if_pos (by simpa using h3), if_pos h3]
        exact ⟨w.drew, rfl, (Upd.refl _ w).drew⟩
      · rw [if_neg (by simpa using h3), if_neg h3]
        exact ⟨w.drew, rfl, (Upd.refl _ w).drew⟩

theorem refDraw_err {K : Nat} (hK : 18446744073709551616 ≤ K) {w : World} {g : Nat} {h lim d : Int} {ks vs : List Int} {R : Nat → Prop} (s : SprAt R 84 w g h lim d ks vs) {p : Sl} {xss : List (List Int)} {Q : Nat → Prop} (hp : PartsW w p xss Q) (hQ : ∀ k, Q k → k < w.heap.size) (hlim : xss.flatten.length ≤ 33553408) {n : Int} (he : drawErr lim d n xss.flatten.length ≠ 0) :
    ∃ w', ref06_Spring_Draw K (some ⟨g, 0, none⟩) n p w = some ((nilS, drawErr lim d n xss.flatten.length, ()), w') ∧ Upd none_ w w' := by
  obtain ⟨x, w1, a1, a2, a3, a4⟩ := rjoined_ok hK hp hQ (by omega)
  have hxl : x.len = xss.flatten.length := by rw [a2.len, ints_length]
  obtain ⟨w', h1, h2⟩ := ref_s0 (K := K) (s.upd0 a3) hxl n
  rw [if_neg he] at h1
  refine ⟨w', ?_, a3.and0 h2⟩
  unfold ref06_Spring_Draw
  rw [a1, bnd_ok, h1, bnd_ok]

theorem refDraw_ok {K : Nat} (hK : 18446744073709551616 ≤ K) {C S : List Int} {w : World} (T : TabsR w C S) {g : Nat} (hg : 5 ≤ g) {h lim d : Int} (hk : known h = true) (hd0 : 0 ≤ d) (hd1 : d < 9223372036854775807) {ks vs : List Int} {R : Nat → Prop} (s : SprAt R 84 w g h lim d ks vs) {p : Sl} {xss : List (List Int)} {Q : Nat → Prop} (hp : PartsW w p xss Q) (hQ : ∀ k, Q k → k < w.heap.size) {n : Nat} (he : drawErr lim d (n : Int) xss.flatten.length = 0) :
    ∃ r w', ref06_Spring_Draw K (some ⟨g, 0, none⟩) (n : Int) p w = some ((r, 0, ()), w') ∧
      SprAt (fun k => w.heap.size ≤ k ∧ r.blk ≠ some k) 84 w' g h lim (d + 1) (nxtS C S h (ks, vs) n xss.flatten).1 (nxtS C S h (ks, vs) n xss.flatten).2 ∧
      Vw 5 w' r (ints .u8 (outS C S h (ks, vs) n xss.flatten)) ∧ Fresh w.heap.size r ∧ Upd (· = g) w w' := by
  obtain ⟨m, hm1, hn, ht⟩ := drawErr_zero he
  obtain rfl : n = m := by omega
  obtain ⟨x, w0, j1, j2, j3, j4⟩ := rjoined_ok hK hp hQ (by omega)
  have hxl : x.len = xss.flatten.length := by rw [j2.len, ints_length]
  have hxi : ∀ z ∈ xss.flatten, InK .u8 z := fun z hz => by
    obtain ⟨l, hl, hz⟩ := List.mem_flatten.1 hz
    exact hp.inn l hl z hz
  obtain ⟨w1, a1, u1⟩ := ref_s0 (K := K) (s.upd0 j3) hxl (n : Int)
  rw [if_pos he] at a1
  have q1 := j3.and0 u1
  have T1 := T.upd0 q1
  have s1 := s.upd0 q1
  have x1 := j2.upd0 u1
  have hlt := s.lt
  have hxg : ∀ k, x.blk = some k → k ≠ g := fun k hk e => by have := j4 k hk; omega
  have hxw : ∀ {w' : World}, Own 5 w' x (ints .u8 xss.flatten) → ∀ q, x.a = some q → q.block < w'.heap.size ∧ q.block ≠ g := fun o q hq => ⟨o.lt (by rw [Sl.blk, hq]; rfl), hxg _ (by rw [Sl.blk, hq]; rfl)⟩
  -- what is taken in first
  have hpre : ∃ w2, ref06_Spring_Draw_s2 K (some ⟨g, 0, none⟩) x (decide (((x.len : Nat) : Int) > 0)) w1 = some ((), w2) ∧ SprAt (fun _ => True) 84 w2 g h lim d (preS C S h (ks, vs) xss.flatten).1 (preS C S h (ks, vs) xss.flatten).2 ∧ Upd (· = g) w1 w2 := by
    unfold ref06_Spring_Draw_s2 preS
    by_cases hx : xss.flatten = []
    · have h0 : x.len = 0 := by rw [hxl, hx]; rfl
      rw [if_neg (fun e => by have := of_decide_eq_true e; omega), if_pos hx]
      exact ⟨w1, rfl, s1.any, Upd.refl _ w1⟩
    · have h0 : x.len ≠ 0 := by rw [hxl]; exact fun e => hx (List.eq_nil_of_length_eq_zero e)
      rw [if_pos (decide_eq_true (by omega)), if_neg hx]
      obtain ⟨w2, b1, b2, b3⟩ := ref_update hK T1 hg s1 (x1.src ints_one) hxi (hxw x1) (by omega)
      rw [b1, bnd_ok]
      exact ⟨w2, rfl, b2.any, b3⟩
  obtain ⟨w2, b1, s2, u2⟩ := hpre
  have T2 := T1.upd u2 fun k hk e => by omega
  have x2 := x1.upd u2 fun k hk e => hxg k hk e
  obtain ⟨k1, hk1⟩ : ∃ k1, (preS C S h (ks, vs) xss.flatten).1 = k1 := ⟨_, rfl⟩
  obtain ⟨v1, hv1⟩ : ∃ v1, (preS C S h (ks, vs) xss.flatten).2 = v1 := ⟨_, rfl⟩
  unfold nxtS outS
  rw [hk1, hv1] at s2 ⊢
  obtain ⟨sk, sv, c1, c2, c3, _⟩ := s2.ex
  have hcb := cnt_le_fuel hk n
  obtain ⟨o, sv', w3, d1, d2, d3, d4, d5, d6, d7, d8, d9⟩ := ref_loop hK (C := C) (S := S) hk (v := v1) s2.kin s2.kl hg hn (lim := lim) (c := d) (g := g) (p := x) (B := w2.heap.size) s2.lt (fun k hk => c2.lt hk) (cnt h n) 0 K w2 nilS sv (by omega) (by omega) T2 c1 c2 c3 s2.vin s2.vl (Own.nil _ w2) (fun k hk => by cases hk) (fun k hk e => by cases e) (Nat.le_refl _)
  have u3 : Upd (· = g) w2 w3 := Upd.old d9
  have T3 := T2.upd u3 fun k hk e => by omega
  have x3 := x2.upd u3 fun k hk e => hxg k hk e
  have s3 : SprAt (fun _ => True) 84 w3 g h lim d k1 (genV C S h k1 v1 (cnt h n)) := ⟨⟨sk, sv', d2, d3, d4, fun _ _ => trivial⟩, s2.kin, d5, s2.kl, d6⟩
  obtain ⟨w4, e1, s4, u4⟩ := ref_update hK T3 hg s3 (x3.src ints_one) hxi (hxw x3) (by omega)
  obtain ⟨sk4, sv4, f1, f2, f3, f4⟩ := s4.ex
  obtain ⟨w5, i1, i2, i3⟩ := f1.stC (i := 2) (by simp) (.int .i64 (d + 1))
  have hol : o.len = cnt h n * szH h := by rw [d7.len, ints_length, genO_len hk]
  have hcb2 := (cnt_bound hk n).1
  have hcap := d7.cap
  have hv := (d7.cut (n := n) (by omega)).vw
  rw [ints_take] at hv
  have hz1 := q1.size
  have hz2 := u2.size
  have hz3 := u3.size
  have hng : ∀ k, o.blk = some k → k ≠ g := fun k hk e => by have := d8 k hk; have := s2.lt; omega
  have i2 : Bk 84 w5 g [.int .i64 h, .int .i64 lim, .int .i64 (d + 1), slV sk4, slV sv4] := i2
  have s5 := f2.upd i3 fun k hk e => vw_ne f2 f1 (by decide) k hk e
  have s6 := f3.upd i3 fun k hk e => vw_ne f3 f1 (by decide) k hk e
  refine ⟨⟨o.a, n, o.cap⟩, w5, ?_, ⟨⟨sk4, sv4, i2, s5, s6, fun k hk => ⟨by have := f4 k hk; omega, fun e => by have h1 := f4 k hk; have h2 := d7.lt e; omega⟩⟩, s4.kin, s4.vin, s4.kl, s4.vl⟩, (hv.upd u4 fun k hk e => hng k hk e).upd i3 fun k hk e => hng k hk e, fun k hk => by have := d8 k hk; omega, (((q1.mono (T := (· = g)) fun _ _ e => e.elim).trans' u2 fun _ _ e => e).trans' u3 fun _ _ e => e).trans' (u4.trans' i3 fun _ _ e => e) fun _ _ e => e⟩
  have l2 : ldI .i64 ((⟨g, 0, none⟩ : Addr).add 2) w4 = some d := by rw [add_lit]; exact f1.ldI rfl
  have g2 : stC ((⟨g, 0, none⟩ : Addr).add 2) (.int .i64 (d + 1)) w4 = some w5 := by rw [add_lit]; exact i1
  have ew : IntKind.i64.wrap (d + 1) = d + 1 := w64 (by omega) (by omega)
  have esl : sla o.a 0 o.cap 1 = o.a := sla_zero ..
  have d1 : ref06_Spring_Draw_l3 K K (some ⟨g, 0, none⟩) (n : Int) x nilS w2 = some ((o, ()), w3) := d1
  unfold ref06_Spring_Draw
  rw [j1, bnd_ok, a1, bnd_ok]
  dsimp only
  rw [b1, bnd_ok, d1, bnd_ok]
  dsimp only
  rw [e1, bnd_ok, Option.bind_some, l2, Option.bind_some, Option.bind_some, ew, g2, Option.bind_some]
  rw [if_pos (by omega), Int.toNat_natCast, esl, Nat.sub_zero, Nat.sub_zero]

end Go.Sh

/- The document's new spring. -/
set_option linter.unusedVariables false
namespace Go.Sh
open Go.Fw Go.Sha Go.RowKit Go.Proofs.Tryd

theorem built59 (h lim : Int) (a : Sl) : prog.built 84 [(0, (.int .i64 h)), (1, (.int .i64 lim)), (3, (.slice a.a a.len a.cap))] = some #[.int .i64 h, .int .i64 lim, .int .i64 0, slV a, slV nilS] := by kernel_rfl

theorem ones_loop {K : Nat} {h lim : Int} {e n p : Sl} {m : Nat} (hm : m ≤ 64) {g : Nat} {sk : Sl} {B : Nat} (hgB : g < B) :
    ∀ (d i f : Nat) (w : World) (sv : Sl), i + d = m → d < f → Bk 84 w g [.int .i64 h, .int .i64 lim, .int .i64 0, slV sk, slV sv] → Own 5 w sv (ints .u8 (List.replicate i 1)) → Fresh B sv → B ≤ w.heap.size →
      ∃ w' sv', ref06_New_l3 K f e n p (m : Int) ⟨g, 0, none⟩ (i : Int) w = some ((), w') ∧ Bk 84 w' g [.int .i64 h, .int .i64 lim, .int .i64 0, slV sk, slV sv'] ∧ Own 5 w' sv' (ints .u8 (List.replicate m 1)) ∧ Upd (fun k => k = g ∨ B ≤ k) w w' := by
  intro d
  induction d with
  | zero =>
    intro i f w sv hi hf b o fr hB
    obtain ⟨f, rfl⟩ : ∃ q, f = q + 1 := ⟨f - 1, by omega⟩
    obtain rfl : i = m := by omega
    have eu : ref06_New_l3 K (f + 1) = ref06_New_l3_b K (ref06_New_l3 K f) := rfl
    rw [eu]
    unfold ref06_New_l3_b
    rw [if_neg (by simp)]
    exact ⟨w, sv, rfl, b, o, Upd.refl _ w⟩
  | succ d ih =>
    intro i f w sv hi hf b o fr hB
    obtain ⟨f, rfl⟩ : ∃ q, f = q + 1 := ⟨f - 1, by omega⟩
    have hsl : sv.len = i := by rw [o.len, ints_length, List.length_replicate]
    obtain ⟨w1, s2, w2, b1, b2, o2, u2, f2⟩ := pushO 1 o (by omega)
    have U2 : Upd (fun k => k = g ∨ B ≤ k) w w2 := u2.mono fun k hk e => .inr (fr k e)
    have hz := u2.size
    have bk2 := b.upd u2 (fun e => by have := fr g e; omega)
    obtain ⟨w3, c1, c2, c3⟩ := bk2.stC (i := 4) (by simp) (slV s2)
    have c2 : Bk 84 w3 g [.int .i64 h, .int .i64 lim, .int .i64 0, slV sk, slV s2] := c2
    have fr2 : Fresh B s2 := fun k hk => (f2 k hk).elim (fr k) fun e => by omega
    have e1 : List.replicate i (1 : Int) ++ [1] = List.replicate (i + 1) 1 := by rw [List.replicate_succ']
    rw [e1] at o2
    have o3 := o2.upd c3 fun k hk e => by have := fr2 k hk; omega
    obtain ⟨w', sv', d1, d2, d3, d4⟩ := ih (i + 1) f w3 s2 (by omega) (by omega) c2 o3 fr2 (by have := c3.size; omega)
    refine ⟨w', sv', ?_, d2, d3, (U2.trans' (c3.mono (T := fun k => k = g ∨ B ≤ k) fun k _ e => .inl e) fun _ _ e => e).trans' d4 fun _ _ e => e⟩
    have eu : ref06_New_l3 K (f + 1) = ref06_New_l3_b K (ref06_New_l3 K f) := rfl
    have l4 : ldS ((⟨g, 0, none⟩ : Addr).add 4) w = some sv := by rw [add_lit]; exact b.ldS rfl
    have s4 : stC ((⟨g, 0, none⟩ : Addr).add 4) (.slice s2.a s2.len s2.cap) w2 = some w3 := by rw [add_lit]; exact c1
    have ew : IntKind.i64.wrap ((i : Int) + 1) = ((i + 1 : Nat) : Int) := by rw [w64 (by omega) (by omega)]; rfl
    rw [eu]
    unfold ref06_New_l3_b
    rw [if_pos (decide_eq_true (by omega)), l4, Option.bind_some, b1, bnd_ok]
    dsimp only
    rw [b2, bnd_ok, s4, Option.bind_some, ew, d1]

theorem refNew_s0 {K : Nat} {h lim : Int} {e n p : Sl} (w : World) :
    ref06_New_s0 K lim e n p (sizeOfH h) w = some (if newErr h lim e.len n.len p.len = 0 then .norm () else .ret (none, newErr h lim e.len n.len p.len, ()), w) := by
  unfold ref06_New_s0 newErr
  cases hk : known h with
  | false => rw [sizeOf_none hk, if_pos (by decide), if_pos rfl]; rfl
  | true =>
    obtain ⟨e1, h28, h64⟩ := szH_ok hk
    have ht : ¬ (true = false) := by decide
    rw [e1, if_neg (by simp; omega), if_neg ht]
    have hs : ref06_New_s1 K lim w = some ((decide (lim < 1 ∨ lim > 16777216), ()), w) := by
      unfold ref06_New_s1
      by_cases h1 : lim < 1
      · rw [if_pos (decide_eq_true h1), decide_eq_true (show lim < 1 ∨ _ from .inl h1)]
      · rw [if_neg (fun e => h1 (of_decide_eq_true e))]
        by_cases h2 : lim > 16777216
        · rw [decide_eq_true h2, decide_eq_true (show lim < 1 ∨ _ from .inr h2)]
        · rw [decide_eq_false h2, decide_eq_false (show ¬ (lim < 1 ∨ lim > 16777216) by omega)]
    rw [hs, bnd_ok]
    by_cases h2 : lim < 1 ∨ lim > 16777216
    · rw [if_pos (decide_eq_true h2), if_pos h2]; rfl
    · have hs2 : ref06_New_s2 K e w = some ((decide (¬ (16 ≤ e.len ∧ e.len ≤ 65536)), ()), w) := by
        unfold ref06_New_s2
        by_cases h1 : e.len < 16
        · rw [if_pos (decide_eq_true (by omega)), decide_eq_true (show ¬ (16 ≤ e.len ∧ e.len ≤ 65536) by omega)]
        · rw [if_neg (fun e' => h1 (by have := of_decide_eq_true e'; omega))]
          by_cases h3 : e.len > 65536
          · rw [decide_eq_true (show ((e.len : Nat) : Int) > 65536 by omega), decide_eq_true (show ¬ (16 ≤ e.len ∧ e.len ≤ 65536) by omega)]
          · rw [decide_eq_false (show ¬ ((e.len : Nat) : Int) > 65536 by omega), decide_eq_false (show ¬ ¬ (16 ≤ e.len ∧ e.len ≤ 65536) by omega)]
      rw [if_neg (fun e => h2 (of_decide_eq_true e)), if_neg h2, hs2, bnd_ok]
      by_cases h3 : ¬ (16 ≤ e.len ∧ e.len ≤ 65536)
      · rw [if_pos (decide_eq_true h3), if_pos h3]; rfl
      · rw [if_neg (fun e => h3 (of_decide_eq_true e)), if_neg h3]
        by_cases h4 : n.len > 65536
        · rw [if_pos (decide_eq_true (by omega)), if_pos (show n.len > 65536 ∨ _ from .inl h4)]; rfl
        · rw [if_neg (fun e => h4 (by have := of_decide_eq_true e; omega))]
          by_cases h5 : p.len > 65536
          · rw [if_pos (decide_eq_true (by omega)), if_pos (show n.len > 65536 ∨ _ from .inr h5)]; rfl
          · rw [if_neg (fun e => h5 (by have := of_decide_eq_true e; omega)), if_neg (show ¬ (n.len > 65536 ∨ p.len > 65536) by omega)]; rfl

theorem refNew_err {K : Nat} {h lim : Int} {e n p : Sl} {w : World} (he : newErr h lim e.len n.len p.len ≠ 0) :
    ref06_New K h lim e n p w = some ((none, newErr h lim e.len n.len p.len, ()), w) := by
  unfold ref06_New
  rw [refSize_ok, Option.bind_some, refNew_s0, if_neg he, bnd_ok]

theorem refNew_ok {K : Nat} (hK : 18446744073709551616 ≤ K) {C S : List Int} {h lim : Int} {e n p : Sl} {es ns ps : List Int} {w : World} (T : TabsR w C S) (pe : PartOk w (e, es)) (pn : PartOk w (n, ns)) (pp : PartOk w (p, ps)) (he : newErr h lim es.length ns.length ps.length = 0) :
    ∃ g w', ref06_New K h lim e n p w = some ((some ⟨g, 0, none⟩, 0, ()), w') ∧ w.heap.size ≤ g ∧ SprAt (fun k => w.heap.size ≤ k) 84 w' g h lim 0 (seedS C S h (es ++ (ns ++ ps))).1 (seedS C S h (es ++ (ns ++ ps))).2 ∧ Upd none_ w w' := by
  obtain ⟨hk, l1, l2, e1, e2, n1, p1⟩ := newErr_zero he
  obtain ⟨hsz, h28, h64⟩ := szH_ok hk
  have el : e.len = es.length := by rw [pe.1.len, ints_length]
  have nl : n.len = ns.length := by rw [pn.1.len, ints_length]
  have pl : p.len = ps.length := by rw [pp.1.len, ints_length]
  have h5 : 5 ≤ w.heap.size := T.lt
  obtain ⟨w1, a1, a2, a3⟩ := mkS_full w (n := szH h) (by omega)
  obtain ⟨w2, n2, b2, u2, z2⟩ := newB_ok #[.int .i64 h, .int .i64 lim, .int .i64 0, slV ⟨some ⟨w.heap.size, 0, none⟩, szH h, szH h⟩, slV nilS] 84 w1
  have q2 := a3.and0 u2
  have hz1 := a3.size
  obtain ⟨w3, sv, c1, c2, c3, c4⟩ := ones_loop (K := K) (h := h) (lim := lim) (e := e) (n := n) (p := p) (m := szH h) h64 (g := w1.heap.size) (sk := ⟨some ⟨w.heap.size, 0, none⟩, szH h, szH h⟩) (B := w2.heap.size) b2.lt (szH h) 0 K w2 nilS (by omega) (by omega) b2 (Own.nil _ w2) (fun k hk => by cases hk) (Nat.le_refl _)
  have c1 : ref06_New_l3 K K e n p (szH h : Int) ⟨w1.heap.size, 0, none⟩ 0 w2 = some ((), w3) := c1
  have c4 : Upd (· = w1.heap.size) w2 w3 := Upd.old c4
  have q3 : Upd none_ w w3 := q2.trans' c4 fun k hk e => by omega
  have k3 : Vw 5 w3 ⟨some ⟨w.heap.size, 0, none⟩, szH h, szH h⟩ (ints .u8 (List.replicate (szH h) 0)) := (a2.vw.upd0 u2).upd c4 fun k hk e => by
    have h1 := a2.lt hk; omega
  have s3 : SprAt (fun _ => True) 84 w3 w1.heap.size h lim 0 (List.replicate (szH h) 0) (List.replicate (szH h) 1) := ⟨⟨_, sv, c2, k3, c3.vw, fun _ _ => trivial⟩, reps_in _ _ in0, reps_in _ _ in1, by rw [List.length_replicate]; exact h64, by rw [List.length_replicate]; exact h64⟩
  obtain ⟨w4, d1, d2, d3⟩ := some_parts (w := w3) [(e, es), (n, ns), (p, ps)] (fun q hq => by
    simp only [List.mem_cons, List.not_mem_nil, or_false] at hq
    rcases hq with rfl | rfl | rfl
    · exact up6 pe q3
    · exact up6 pn q3
    · exact up6 pp q3) (by simp) (by simp)
  have d1 : bldS prog 32 3 #[(0, (.slice e.a e.len e.cap)), (1, (.slice n.a n.len n.cap)), (2, (.slice p.a p.len p.cap))] w3 = some (⟨some ⟨w3.heap.size, 0, none⟩, 3, 3⟩, w4) := d1
  have d2 : Parts w4 ⟨some ⟨w3.heap.size, 0, none⟩, 3, 3⟩ [es, ns, ps] (fun k => k < w4.heap.size) := d2
  have hfl : ([es, ns, ps] : List (List Int)).flatten = es ++ (ns ++ ps) := by simp
  obtain ⟨x, w5, f1, f2, f3, f4⟩ := rjoined_ok hK d2.weak (fun k hk => hk) (by rw [hfl]; simp; omega)
  rw [hfl] at f2
  have q5 := (q3.and0 d3).and0 f3
  have s5 := s3.upd0 (d3.and0 f3)
  have hz3 := q3.size
  have hz4 := d3.size
  have hl3 := s3.lt
  have hin : ∀ z ∈ es ++ (ns ++ ps), InK .u8 z := fun z hz => by
    rcases List.mem_append.1 hz with hz | hz
    · exact pe.2.1 z hz
    · rcases List.mem_append.1 hz with hz | hz
      · exact pn.2.1 z hz
      · exact pp.2.1 z hz
  obtain ⟨w6, g1, g2, g3⟩ := ref_update hK (T.upd0 q5) (g := w1.heap.size) (by omega) s5 (f2.src ints_one) hin (fun q hq => ⟨f2.lt (by rw [Sl.blk, hq]; rfl), fun e => by have := f4 q.block (by rw [Sl.blk, hq]; rfl); omega⟩) (by simp; omega)
  refine ⟨w1.heap.size, w6, ?_, a3.size, g2.mono fun k hk => Nat.le_trans q5.size hk, q5.trans' g3 fun k hk e => by omega⟩
  unfold ref06_New
  rw [refSize_ok, Option.bind_some, refNew_s0, el, nl, pl, if_pos he, bnd_ok]
  dsimp only
  rw [hsz, a1, bnd_ok, built59, Option.bind_some, n2, bnd_ok, c1, bnd_ok]
  rw [← el, ← nl, ← pl] at *
  rw [d1, bnd_ok, f1, bnd_ok, g1, bnd_ok]

end Go.Sh

/- Both springs of a seed. -/
set_option linter.unusedVariables false
namespace Go.Sh
open Go.Fw Go.Sha Go.RowKit Go.Proofs.Tryd

/-- a Seed's cells -/
def seedC (h lim : Int) (e n p : Sl) : Array Value := #[.int .i64 h, .int .i64 lim, slV e, slV n, slV p]
def seedL (h lim : Int) (e n p : Sl) : List Value := [.int .i64 h, .int .i64 lim, slV e, slV n, slV p]

/-- a copy with marks behind it -/
def MarkAt (w : World) (g cap : Nat) (bs : List Int) : Prop := Own 5 w ⟨some ⟨g, 0, none⟩, bs.length + 70, cap⟩ (ints .u8 (bs ++ marks))

theorem MarkAt.upd {w w' : World} {g cap : Nat} {bs : List Int} {X : Nat → Prop} (m : MarkAt w g cap bs) (u : Upd X w w') (hX : ¬ X g) : MarkAt w' g cap bs := Own.upd m u fun k hk e => by
  have : g = k := by simpa [Sl.blk] using hk
  exact hX (this ▸ e)
theorem MarkAt.part {w : World} {g cap : Nat} {bs : List Int} (m : MarkAt w g cap bs) (hi : ∀ x ∈ bs, InK .u8 x) (hl : bs.length ≤ 140737488351232) : PartOk w (⟨some ⟨g, 0, none⟩, bs.length, cap⟩, bs) :=
  ⟨(marked_front m).src ints_one, hi, hl, fun q hq _ => (marked_front m).lt (by rw [Sl.blk, hq]; rfl)⟩
theorem MarkAt.spoil {K : Nat} (hK : 18446744073709551616 ≤ K) {w : World} {g cap : Nat} {bs : List Int} (m : MarkAt w g cap bs) (hl : bs.length ≤ 140737488351232) :
    ∃ w', book_SpoilBytes K ⟨some ⟨g, 0, none⟩, bs.length, cap⟩ w = some ((), w') ∧ Upd (· = g) w w' := by
  obtain ⟨w', h1, h2⟩ := SpoilBytes_ok hK (marked_front m).vw hl
  exact ⟨w', h1, h2.mono fun k _ hk => by have : g = k := by simpa [Sl.blk] using hk
                                          exact this.symm⟩

/-- what is told of the handed in, and the spoiling -/
theorem begun_s0_ok {K : Nat} (hK : 18446744073709551616 ≤ K) {w : World} {h lim : Int} {e n p : Sl} {es ns ps : List Int} {c : Nat} (bk : Bk 24 w c (seedL h lim e n p)) (he : RdS .u8 w e es) (hn : RdS .u8 w n ns) (hp : RdS .u8 w p ps) {gx gy gz cx cy cz : Nat}
    (mx : MarkAt w gx cx es) (my : MarkAt w gy cy ns) (mz : MarkAt w gz cz ps) (le : es.length ≤ 140737488351232) (ln : ns.length ≤ 140737488351232) (lp : ps.length ≤ 140737488351232) {s t : Option Addr} (hst : s.isNone = t.isNone) (er : Int) :
    ∃ w', law06_begun_s0 K ⟨c, 0, none⟩ ⟨some ⟨gx, 0, none⟩, es.length, cx⟩ ⟨some ⟨gy, 0, none⟩, ns.length, cy⟩ ⟨some ⟨gz, 0, none⟩, ps.length, cz⟩ s er t er w = some ((true, ()), w') ∧ Upd none_ w w' := by
  have l2 : ∀ {w' : World}, Bk 24 w' c (seedL h lim e n p) → ldS ((⟨c, 0, none⟩ : Addr).add 2) w' = some e := fun b => by rw [add_lit]; exact b.ldS rfl
  have l3 : ∀ {w' : World}, Bk 24 w' c (seedL h lim e n p) → ldS ((⟨c, 0, none⟩ : Addr).add 3) w' = some n := fun b => by rw [add_lit]; exact b.ldS rfl
  have l4 : ∀ {w' : World}, Bk 24 w' c (seedL h lim e n p) → ldS ((⟨c, 0, none⟩ : Addr).add 4) w' = some p := fun b => by rw [add_lit]; exact b.ldS rfl
  obtain ⟨w1, a1, u1⟩ := WholeBytes_ok hK mx he le
  obtain ⟨w2, a2, u2⟩ := WholeBytes_ok hK (my.upd u1 id) (hn.upd0 u1) ln
  obtain ⟨w3, a3, u3⟩ := WholeBytes_ok hK ((mz.upd u1 id).upd u2 id) (hp.upd0 (u1.and0 u2)) lp
  refine ⟨w3, ?_, (u1.and0 u2).and0 u3⟩
  have hd : ∀ {l : List Int}, decide (l = l) = true := fun {l} => decide_eq_true rfl
  rw [hd] at a1 a2 a3
  unfold law06_begun_s0 law06_num
  rw [Option.bind_some, if_pos (by simp), if_pos (by rw [hst]; simp), l2 bk, Option.bind_some, a1, bnd_ok, if_pos rfl, l3 (bk.upd0 u1), Option.bind_some, a2, bnd_ok, if_pos rfl, l4 (bk.upd0 (u1.and0 u2)), Option.bind_some, a3, bnd_ok]

theorem begun_ok {β : Type} {K : Nat} (hK : 18446744073709551616 ≤ K) {C S : List Int} {h lim : Int} {e n p : Sl} {es ns ps : List Int} {w : World} (T : TabsR w C S) (pe : PartOk w (e, es)) (pn : PartOk w (n, ns)) (pp : PartOk w (p, ps)) {k : ((Option Addr) × (Option Addr) × Bool × Unit) → World → Option β} {r : β}
    (Herr : ∀ w', newErr h lim es.length ns.length ps.length ≠ 0 → Upd none_ w w' → k (none, none, true, ()) w' = some r)
    (Hok : ∀ g t w', newErr h lim es.length ns.length ps.length = 0 → w.heap.size ≤ g → w.heap.size ≤ t → SprAt (fun k => w.heap.size ≤ k) 56 w' g h lim 0 (seedS C S h (es ++ (ns ++ ps))).1 (seedS C S h (es ++ (ns ++ ps))).2 →
      SprAt (fun k => w.heap.size ≤ k) 84 w' t h lim 0 (seedS C S h (es ++ (ns ++ ps))).1 (seedS C S h (es ++ (ns ++ ps))).2 → Upd none_ w w' → k (some ⟨g, 0, none⟩, some ⟨t, 0, none⟩, true, ()) w' = some r) :
    law06_begun K (seedC h lim e n p) w k = some r := by
  obtain ⟨le, ln, lp⟩ : es.length ≤ 140737488351232 ∧ ns.length ≤ 140737488351232 ∧ ps.length ≤ 140737488351232 := ⟨pe.2.2.1, pn.2.2.1, pp.2.2.1⟩
  obtain ⟨w1, n1, b1, u1, z1⟩ := newB_ok (seedC h lim e n p) 24 w
  have b1 : Bk 24 w1 w.heap.size (seedL h lim e n p) := b1
  have pe1 := up6 pe u1
  have pn1 := up6 pn u1
  have pp1 := up6 pp u1
  obtain ⟨gx, cx, w2, x1, x2, x3, x4⟩ := Bytes_ok hK pe1.1 le
  obtain ⟨gy, cy, w3, y1, y2, y3, y4⟩ := Bytes_ok hK (up6 pn1 x4).1 ln
  obtain ⟨gz, cz, w4, q1, q2, q3, q4⟩ := Bytes_ok hK (up6 (up6 pp1 x4) y4).1 lp
  have hzx := x4.size
  have hzy := y4.size
  have hzz := q4.size
  have X2 : MarkAt w2 gx cx es := x2
  have X4 : MarkAt w4 gx cx es := (X2.upd y4 id).upd q4 id
  have Y3 : MarkAt w3 gy cy ns := y2
  have Y4 : MarkAt w4 gy cy ns := Y3.upd q4 id
  have Z4 : MarkAt w4 gz cz ps := q2
  have lx : gx < w2.heap.size := Own.lt x2 rfl
  have ly : gy < w3.heap.size := Own.lt y2 rfl
  have lz : gz < w4.heap.size := Own.lt q2 rfl
  have U4 : Upd none_ w1 w4 := (x4.and0 y4).and0 q4
  have V4 : Upd none_ w w4 := u1.and0 U4
  have b4 := b1.upd0 U4
  have hz4 := V4.size
  have f2 : ∀ {w' : World}, Bk 24 w' w.heap.size (seedL h lim e n p) → ldS ((⟨w.heap.size, 0, none⟩ : Addr).add 2) w' = some e := fun b => by rw [add_lit]; exact b.ldS rfl
  have f3 : ∀ {w' : World}, Bk 24 w' w.heap.size (seedL h lim e n p) → ldS ((⟨w.heap.size, 0, none⟩ : Addr).add 3) w' = some n := fun b => by rw [add_lit]; exact b.ldS rfl
  have f4 : ∀ {w' : World}, Bk 24 w' w.heap.size (seedL h lim e n p) → ldS ((⟨w.heap.size, 0, none⟩ : Addr).add 4) w' = some p := fun b => by rw [add_lit]; exact b.ldS rfl
  have f0 : ∀ {w' : World}, Bk 24 w' w.heap.size (seedL h lim e n p) → ldI .i64 ((⟨w.heap.size, 0, none⟩ : Addr).add 0) w' = some h := fun b => by rw [add_lit]; exact b.ldI rfl
  have f1 : ∀ {w' : World}, Bk 24 w' w.heap.size (seedL h lim e n p) → ldI .i64 ((⟨w.heap.size, 0, none⟩ : Addr).add 1) w' = some lim := fun b => by rw [add_lit]; exact b.ldI rfl
  have pe4 := up6 pe V4
  have pn4 := up6 pn V4
  have pp4 := up6 pp V4
  have sx : (es.length : Nat) = es.length := rfl
  -- the end, whatever New has said
  have tail : ∀ (w5 : World) (s t : Option Addr) (er : Int), Upd none_ w4 w5 → s.isNone = t.isNone →
      (∀ w', Upd (fun k => k = gx ∨ k = gy ∨ k = gz) w5 w' → k (s, t, true, ()) w' = some r) →
      (bnd (law06_begun_s0 K ⟨w.heap.size, 0, none⟩ ⟨some ⟨gx, 0, none⟩, es.length, cx⟩ ⟨some ⟨gy, 0, none⟩, ns.length, cy⟩ ⟨some ⟨gz, 0, none⟩, ps.length, cz⟩ s er t er w5) fun y_33 w_34 =>
        bnd (book_SpoilBytes K ⟨some ⟨gx, 0, none⟩, es.length, cx⟩ w_34) fun r_35 w_36 =>
        bnd (book_SpoilBytes K ⟨some ⟨gy, 0, none⟩, ns.length, cy⟩ w_36) fun r_37 w_38 =>
        bnd (book_SpoilBytes K ⟨some ⟨gz, 0, none⟩, ps.length, cz⟩ w_38) fun r_39 w_40 =>
        k (s, t, y_33.1, ()) w_40) = some r := by
    intro w5 s t er u5 hst H
    obtain ⟨w6, c1, u6⟩ := begun_s0_ok hK (b4.upd0 u5) ((pe4.1.upd0 u5).rds) ((pn4.1.upd0 u5).rds) ((pp4.1.upd0 u5).rds) (X4.upd u5 id) (Y4.upd u5 id) (Z4.upd u5 id) le ln lp hst er
    have u56 := u5.and0 u6
    obtain ⟨w7, d1, u7⟩ := (X4.upd u56 id).spoil hK le
    have Y7 := (Y4.upd u56 id).upd u7 (by omega)
    have Z7 := (Z4.upd u56 id).upd u7 (by omega)
    obtain ⟨w8, d2, u8⟩ := Y7.spoil hK ln
    obtain ⟨w9, d3, u9⟩ := (Z7.upd u8 (by omega)).spoil hK lp
    rw [c1, bnd_ok, d1, bnd_ok, d2, bnd_ok, d3, bnd_ok]
    exact H w9 ((((u6.mono (T := fun k => k = gx ∨ k = gy ∨ k = gz) fun _ _ e => e.elim).trans' u7 fun _ _ e => .inl e).trans' u8 fun _ _ e => .inr (.inl e)).trans' u9 fun _ _ e => .inr (.inr e))
  have old : ∀ {w5 w' : World}, Upd none_ w4 w5 → Upd (fun k => k = gx ∨ k = gy ∨ k = gz) w5 w' → Upd none_ w w' := fun u5 u => (V4.and0 u5).trans' u fun k hk e => by omega
  unfold law06_begun
  rw [n1, bnd_ok, f2 b1, Option.bind_some, x1, bnd_ok, f3 (b1.upd0 x4), Option.bind_some, y1, bnd_ok, f4 (b1.upd0 (x4.and0 y4)), Option.bind_some, q1, bnd_ok, f0 b4, Option.bind_some, f1 b4, Option.bind_some]
  dsimp only
  by_cases he : newErr h lim es.length ns.length ps.length = 0
  · refine new_ok hK (T.to.upd0 V4) (X4.part pe.2.1 le) (Y4.part pn.2.1 ln) (Z4.part pp.2.1 lp) he fun g w5 hg s5 u5 => ?_
    have b5 := b4.upd0 u5
    obtain ⟨t, w6, m1, m2, m3, m4⟩ := refNew_ok hK ((T.upd0 V4).upd0 u5) (up6 pe4 u5) (up6 pn4 u5) (up6 pp4 u5) he
    have hz5 := u5.size
    rw [f0 b5, Option.bind_some, f1 b5, Option.bind_some, f2 b5, Option.bind_some, f3 b5, Option.bind_some, f4 b5, Option.bind_some, m1, bnd_ok]
    refine tail w6 _ _ 0 (u5.and0 m4) rfl fun w' u => ?_
    refine Hok g t w' he (by omega) (by omega) ?_ ?_ (old (u5.and0 m4) u)
    · exact ((s5.upd0 m4).upd u (by omega) fun k hk e => by omega).mono fun k hk => by omega
    · exact (m3.upd u (by omega) fun k hk e => by omega).mono fun k hk => by omega
  · refine new_err he fun w5 u5 => ?_
    have b5 := b4.upd0 u5
    have el : e.len = es.length := by rw [pe.1.len, ints_length]
    have nl : n.len = ns.length := by rw [pn.1.len, ints_length]
    have pl : p.len = ps.length := by rw [pp.1.len, ints_length]
    have hre := refNew_err (K := K) (h := h) (lim := lim) (e := e) (n := n) (p := p) (w := w5) (by rw [el, nl, pl]; exact he)
    rw [el, nl, pl] at hre
    rw [f0 b5, Option.bind_some, f1 b5, Option.bind_some, f2 b5, Option.bind_some, f3 b5, Option.bind_some, f4 b5, Option.bind_some, hre, bnd_ok]
    exact tail w5 none none _ u5 rfl fun w' u => Herr w' he (old u5 u)

theorem SprAt.ne {R R' : Nat → Prop} {t t' : TypeId} {w : World} {g g' : Nat} {h lim d h' lim' d' : Int} {ks vs ks' vs' : List Int} (s : SprAt R t w g h lim d ks vs) (s' : SprAt R' t' w g' h' lim' d' ks' vs') (ht : t ≠ t') : g ≠ g' := by
  obtain ⟨_, _, k1, _⟩ := s.ex
  obtain ⟨_, _, k2, _⟩ := s'.ex
  exact bk_ne k1 k2 ht
theorem SprAt.other {R R' : Nat → Prop} {t t' : TypeId} {w w' : World} {g g' : Nat} {h lim d h' lim' d' : Int} {ks vs ks' vs' : List Int} (s : SprAt R t w g h lim d ks vs) (s' : SprAt R' t' w g' h' lim' d' ks' vs') (ht : t' ≠ 5) (hg : g ≠ g') (u : Upd (· = g') w w') : SprAt R t w' g h lim d ks vs := by
  obtain ⟨_, _, k2, _⟩ := s'.ex
  exact s.upd1 u k2 ht hg

/-- what must come whatever the arguments are -/
theorem sprFirst_ok {β : Type} {K : Nat} (hK : 18446744073709551616 ≤ K) {C S : List Int} {w : World} (T : Tabs w C S) {k : (Bool × Unit) → World → Option β} {r : β}
    (H : ∀ w', Upd none_ w w' → k (true, ()) w' = some r) : law06_first K w k = some r := by
  obtain ⟨w1, w2, h1, h2, h3, u2, z2⟩ := bytesC (P := prog) sliceB (by kernel_rfl) [48, 49, 50, 51, 52, 53, 54, 55, 56, 57, 97, 98, 99, 100, 101, 102] (by decide) (by decide) w
  have h1 : bldS prog 22 16 #[(0, (.int .u8 48)), (1, (.int .u8 49)), (2, (.int .u8 50)), (3, (.int .u8 51)), (4, (.int .u8 52)), (5, (.int .u8 53)), (6, (.int .u8 54)), (7, (.int .u8 55)), (8, (.int .u8 56)), (9, (.int .u8 57)), (10, (.int .u8 97)), (11, (.int .u8 98)), (12, (.int .u8 99)), (13, (.int .u8 100)), (14, (.int .u8 101)), (15, (.int .u8 102))] w = some (⟨some ⟨w.heap.size, 0, none⟩, 16, 16⟩, w1) := h1
  have h2 : cnv prog 22 22 (.slice (some ⟨w.heap.size, 0, none⟩) 16 16) w1 = some (.slice (some ⟨w.heap.size, 0, none⟩) 16 16, w2) := h2
  have pk : PartOk w2 (⟨some ⟨w.heap.size, 0, none⟩, 16, 16⟩, [48, 49, 50, 51, 52, 53, 54, 55, 56, 57, 97, 98, 99, 100, 101, 102]) :=
    ⟨h3, (fun x hx => by
      have : (0 : Int) ≤ x ∧ x < 256 := by
        simp only [List.mem_cons, List.not_mem_nil, or_false] at hx
        omega
      exact ⟨this.1, by simp only [IntKind.bits]; omega⟩), by simp, fun q hq _ => by
      have : q = ⟨w.heap.size, 0, none⟩ := (Option.some.inj hq).symm
      rw [this]; exact z2⟩
  have pn : PartOk w2 (nilS, []) := ⟨⟨rfl, Nat.le_refl _, .inl ⟨rfl, rfl, rfl⟩, ints_one⟩, by simp, by simp, fun q hq _ => by cases hq⟩
  have h5 : 5 ≤ w.heap.size := T.lt
  unfold law06_first
  rw [h1, bnd_ok]
  dsimp only
  rw [h2, bnd_ok]
  have ea : asS (.slice (some ⟨w.heap.size, 0, none⟩) 16 16) = some ⟨some ⟨w.heap.size, 0, none⟩, 16, 16⟩ := rfl
  rw [ea, Option.bind_some]
  refine new_ok hK (T.upd0 u2) pk pn pn (by decide) fun g w3 hg s3 u3 => ?_
  have hs0 : law06_first_s0 K (some ⟨g, 0, none⟩) 0 w3 = some ((false, ()), w3) := rfl
  rw [hs0, bnd_ok, if_neg (by decide)]
  have q3 := u2.and0 u3
  obtain ⟨b, w4, c1, c2, c3, c4, c5, c6⟩ := draw_ok hK (T.upd0 q3) (g := g) (by omega) (by decide) (by decide) (by decide) s3 (p := nilS) (qs := []) (Q := fun _ => False) id (PartsL.nil w3 _) (by decide) (n := 5) (by decide)
  have c1 : spring_Spring_Draw K (some ⟨g, 0, none⟩) 5 nilS w3 = some ((b, 0, ()), w4) := c1
  have bl : b.len = 5 := by rw [c3.len, ints_length, outS_len (by decide)]
  rw [c1, bnd_ok]
  unfold law06_num
  rw [Option.bind_some, if_pos (show ((0 : Int) == 0) = true from rfl), bl, if_pos (by decide), left_ok c2 (by decide), bnd_ok]
  exact H _ ((q3.trans' c6 fun k hk e => by omega).drew)

end Go.Sh

/- What the statements of chapter 6 have in common. -/
set_option linter.unusedVariables false
namespace Go.Sh
open Go.Fw Go.Sha Go.RowKit Go.Proofs.Tryd

/-- what is asked behind a law: it is true, and nothing is changed -/
noncomputable def kT (W : World) (y : Bool × Unit) (w' : World) : Option Unit := by
  classical exact if y.1 = true ∧ Upd none_ W w' then some () else none
theorem kT_ok {W w' : World} (u : Upd none_ W w') : kT W (true, ()) w' = some () := by
  unfold kT; rw [if_pos ⟨rfl, u⟩]
theorem kT_some {W w' : World} {y : Bool × Unit} (h : kT W y w' = some ()) : y = (true, ()) ∧ Upd none_ W w' := by
  unfold kT at h
  split at h
  · rename_i h1; exact ⟨Prod.ext h1.1 rfl, h1.2⟩
  · cases h

theorem partsW_nil (w : World) (Q : Nat → Prop) : PartsW w nilS [] Q := ⟨rfl, Nat.le_refl _, by simp, by simp, by simp, .inl rfl⟩

theorem seed_lens {h lim : Int} {e n p : Sl} {w : World} {c : Nat} (b : Bk 24 w c (seedL h lim e n p)) :
    ldI .i64 ((⟨c, 0, none⟩ : Addr).add 0) w = some h ∧ ldI .i64 ((⟨c, 0, none⟩ : Addr).add 1) w = some lim ∧ ldS ((⟨c, 0, none⟩ : Addr).add 2) w = some e ∧ ldS ((⟨c, 0, none⟩ : Addr).add 3) w = some n ∧ ldS ((⟨c, 0, none⟩ : Addr).add 4) w = some p ∧ ldA 5 ⟨c, 0, none⟩ w = some (seedC h lim e n p) := by
  rw [add_lit, add_lit, add_lit, add_lit, add_lit]
  exact ⟨b.ldI rfl, b.ldI rfl, b.ldS rfl, b.ldS rfl, b.ldS rfl, b.ldA (i := 0) (n := 5) (by simp [seedL])⟩

theorem good_tail {h lim : Int} {e n p : Sl} {w : World} {c : Nat} (b : Bk 24 w c (seedL h lim e n p)) :
    ((ldI .i64 ((⟨c, 0, none⟩ : Addr).add 1) w).bind fun v_4 =>
  if (decide (v_4 ≥ 1)) = true then ((ldI .i64 ((⟨c, 0, none⟩ : Addr).add 1) w).bind fun v_5 =>
  if (decide (v_5 ≤ 16777216)) = true then ((ldS ((⟨c, 0, none⟩ : Addr).add 2) w).bind fun v_6 =>
  if (decide (((v_6.len : Nat) : Int) ≥ 16)) = true then ((ldS ((⟨c, 0, none⟩ : Addr).add 2) w).bind fun v_7 =>
  if (decide (((v_7.len : Nat) : Int) ≤ 65536)) = true then ((ldS ((⟨c, 0, none⟩ : Addr).add 3) w).bind fun v_8 =>
  if (decide (((v_8.len : Nat) : Int) ≤ 65536)) = true then ((ldS ((⟨c, 0, none⟩ : Addr).add 4) w).bind fun v_9 =>
  some (((decide (((v_9.len : Nat) : Int) ≤ 65536)), ()), w)) else (some ((false, ()), w))) else (some ((false, ()), w))) else (some ((false, ()), w))) else (some ((false, ()), w))) else (some ((false, ()), w))) =
    some ((decide (1 ≤ lim ∧ lim ≤ 16777216 ∧ 16 ≤ e.len ∧ e.len ≤ 65536 ∧ n.len ≤ 65536 ∧ p.len ≤ 65536), ()), w) := by
  obtain ⟨f0, f1, f2, f3, f4, f5⟩ := seed_lens b
  simp only [f1, f2, f3, f4, Option.bind_some]
  by_cases c1 : 1 ≤ lim
  · rw [if_pos (decide_eq_true c1)]
    by_cases c2 : lim ≤ 16777216
    · rw [if_pos (decide_eq_true c2)]
      by_cases c3 : 16 ≤ e.len
      · rw [if_pos (decide_eq_true (by omega))]
        by_cases c4 : e.len ≤ 65536
        · rw [if_pos (decide_eq_true (by omega))]
          by_cases c5 : n.len ≤ 65536
          · rw [if_pos (decide_eq_true (by omega))]
            by_cases c6 : p.len ≤ 65536
            · rw [decide_eq_true (show ((p.len : Nat) : Int) ≤ 65536 by omega), decide_eq_true (show 1 ≤ lim ∧ lim ≤ 16777216 ∧ 16 ≤ e.len ∧ e.len ≤ 65536 ∧ n.len ≤ 65536 ∧ p.len ≤ 65536 from ⟨c1, c2, c3, c4, c5, c6⟩)]
            · rw [decide_eq_false (show ¬ ((p.len : Nat) : Int) ≤ 65536 by omega), decide_eq_false (fun h : 1 ≤ lim ∧ lim ≤ 16777216 ∧ 16 ≤ e.len ∧ e.len ≤ 65536 ∧ n.len ≤ 65536 ∧ p.len ≤ 65536 => c6 h.2.2.2.2.2)]
          · rw [if_neg (fun h => c5 (by have := of_decide_eq_true h; omega)), decide_eq_false (fun h : 1 ≤ lim ∧ lim ≤ 16777216 ∧ 16 ≤ e.len ∧ e.len ≤ 65536 ∧ n.len ≤ 65536 ∧ p.len ≤ 65536 => c5 h.2.2.2.2.1)]
        · rw [if_neg (fun h => c4 (by have := of_decide_eq_true h; omega)), decide_eq_false (fun h : 1 ≤ lim ∧ lim ≤ 16777216 ∧ 16 ≤ e.len ∧ e.len ≤ 65536 ∧ n.len ≤ 65536 ∧ p.len ≤ 65536 => c4 h.2.2.2.1)]
      · rw [if_neg (fun h => c3 (by have := of_decide_eq_true h; omega)), decide_eq_false (fun h : 1 ≤ lim ∧ lim ≤ 16777216 ∧ 16 ≤ e.len ∧ e.len ≤ 65536 ∧ n.len ≤ 65536 ∧ p.len ≤ 65536 => c3 h.2.2.1)]
    · rw [if_neg (fun h => c2 (of_decide_eq_true h)), decide_eq_false (fun h : 1 ≤ lim ∧ lim ≤ 16777216 ∧ 16 ≤ e.len ∧ e.len ≤ 65536 ∧ n.len ≤ 65536 ∧ p.len ≤ 65536 => c2 h.2.1)]
  · rw [if_neg (fun h => c1 (of_decide_eq_true h)), decide_eq_false (fun h : 1 ≤ lim ∧ lim ≤ 16777216 ∧ 16 ≤ e.len ∧ e.len ≤ 65536 ∧ n.len ≤ 65536 ∧ p.len ≤ 65536 => c1 h.1)]

theorem newErr_iff {h lim : Int} {e n p : Nat} : newErr h lim e n p = 0 ↔ known h = true ∧ (1 ≤ lim ∧ lim ≤ 16777216 ∧ 16 ≤ e ∧ e ≤ 65536 ∧ n ≤ 65536 ∧ p ≤ 65536) := by
  constructor
  · intro h; exact newErr_zero h
  · rintro ⟨h1, h2⟩
    have ht : ¬ (true = false) := by decide
    unfold newErr
    rw [h1, if_neg ht, if_neg (by omega), if_neg (by omega), if_neg (by omega)]

theorem good_ok {h lim : Int} {e n p : Sl} (w : World) :
    ∃ w', law06_good (seedC h lim e n p) w = some ((decide (newErr h lim e.len n.len p.len = 0), ()), w') ∧ Upd none_ w w' := by
  obtain ⟨w1, n1, b1, u1, z1⟩ := newB_ok (seedC h lim e n p) 24 w
  have b1 : Bk 24 w1 w.heap.size (seedL h lim e n p) := b1
  obtain ⟨f0, f1, f2, f3, f4, f5⟩ := seed_lens b1
  have tl := good_tail b1
  refine ⟨w1, ?_, u1⟩
  have hd : known h = true → decide (newErr h lim e.len n.len p.len = 0) = decide (1 ≤ lim ∧ lim ≤ 16777216 ∧ 16 ≤ e.len ∧ e.len ≤ 65536 ∧ n.len ≤ 65536 ∧ p.len ≤ 65536) := fun hk => by
    rw [decide_eq_decide, newErr_iff]; exact ⟨fun h => h.2, fun h => ⟨hk, h⟩⟩
  unfold law06_good
  rw [n1, bnd_ok, f0, Option.bind_some]
  by_cases h1 : h = 224
  · rw [if_pos (by rw [h1]; rfl), tl, hd (by rw [h1]; rfl)]
  · rw [if_neg (by simpa using h1), Option.bind_some]
    by_cases h2 : h = 256
    · rw [if_pos (by rw [h2]; rfl), tl, hd (by rw [h2]; rfl)]
    · rw [if_neg (by simpa using h2), Option.bind_some]
      by_cases h3 : h = 384
      · rw [if_pos (by rw [h3]; rfl), tl, hd (by rw [h3]; rfl)]
      · rw [if_neg (by simpa using h3), Option.bind_some]
        by_cases h4 : h = 512
        · rw [if_pos (by rw [h4]; rfl), tl, hd (by rw [h4]; rfl)]
        · rw [if_neg (by simpa using h4)]
          have hk : known h = false := by simp [known, h1, h2, h3, h4]
          rw [decide_eq_false (fun he => by have := (newErr_iff.1 he).1; rw [hk] at this; cases this)]

theorem up6' {w w' : World} {p : Sl × List Int} {X : Nat → Prop} (hp : PartOk w p) (u : Upd X w w') (hn : ∀ q, p.1.a = some q → p.2 ≠ [] → ¬ X q.block) : PartOk w' p :=
  ⟨src_updW hp.1 u hn, hp.2.1, hp.2.2.1, fun q hq hne => by have := hp.2.2.2 q hq hne; have := u.size; omega⟩

/-- one part, as a list of parts -/
theorem one_partL {w : World} {b : Sl} {xs : List Int} (pb : PartOk w (b, xs)) :
    ∃ w', bldS prog 32 1 #[(0, (.slice b.a b.len b.cap))] w = some (⟨some ⟨w.heap.size, 0, none⟩, 1, 1⟩, w') ∧
      PartsL w' ⟨some ⟨w.heap.size, 0, none⟩, 1, 1⟩ [(b, xs)] (fun k => k = w.heap.size ∨ ∃ q, b.a = some q ∧ xs ≠ [] ∧ k = q.block) ∧ Upd none_ w w' := by
  obtain ⟨w', c1, c2, c3, c4⟩ := bldS1_ok sliceSS (slV b) rfl w
  refine ⟨w', c1, ⟨c2.src (fun v hv => by rw [List.mem_singleton.1 hv]; rfl), fun p hp => ?_, fun p hp _ => .inl (by
    have : p = ⟨w.heap.size, 0, none⟩ := (Option.some.inj hp).symm
    rw [this])⟩, c3⟩
  obtain rfl := List.mem_singleton.1 hp
  exact ⟨up6 pb c3, fun q hq hne => .inr ⟨q, hq, hne, rfl⟩⟩

end Go.Sh

/- A Seed that came in. -/
set_option linter.unusedVariables false
namespace Go.Sh
open Go.Fw Go.Sha Go.RowKit Go.Proofs.Tryd Go.Deep Go.ChangeShapes Go.WideShapes

theorem shape_lt {W : World} {g : Nat} {x : TypeId × Nat} (h : W.shape? g = some x) : g < W.heap.size := by
  unfold World.shape? at h
  cases hh : W.heap[g]? with
  | none => rw [hh] at h; cases h
  | some o => exact (Array.getElem?_eq_some_iff.1 hh).1

set_option maxRecDepth 100000 in
theorem cell_lt {W : World} {base : Nat} {s : Sl} (h : Cell.okWide prog W .any base 22 (slV s)) : ∀ q, s.a = some q → q.block < W.heap.size := by
  intro q hq
  have h : Cell.ok prog W .any base 22 (slV s) := by
    unfold Cell.okWide at h
    rw [sliceB.ht] at h
    exact h
  unfold Cell.ok slV at h
  rw [sliceB.ht, hq] at h
  obtain ⟨_, _, _, _, row, cells, hs, _⟩ := h
  exact shape_lt hs

theorem BytesIn.part {W : World} {s : Sl} {xs : List Int} (h : BytesIn W s xs) (hb : ∀ q, s.a = some q → q.block < W.heap.size) : PartOk W (s, xs) := ⟨h.src, h.inn, h.len, fun q hq _ => hb q hq⟩

theorem int_cells : prog.cellsOf 3 = 1 := by kernel_rfl
theorem cells_of_TB : prog.cellsOf 22 = 1 := by kernel_rfl

set_option maxRecDepth 100000 in
/-- a Seed that came in -/
theorem open_seed {H : Type} {enc : TypeId × Value → H} {W : World} {d : DataW H} {p : List MemPlace} {v : Value} {base : Nat} (hv : Value.okWide prog W .any base 24 v) (h : DataW.Trod enc prog W 0 (fun _ => true) true 24 v d p) (hw : ∀ n ∈ d.weights prog 24, n ≤ reachBytes) :
    ∃ hash lim e n q es ns qs, v = .agg (seedC hash lim e n q) ∧ PartOk W (e, es) ∧ PartOk W (n, ns) ∧ PartOk W (q, qs) := by
  have hu := underlying24
  have hs0 := okWide_struct (P := prog) (t := 24) hu hv
  obtain ⟨cs, hcv, hcs⟩ := hs0
  subst hcv
  obtain ⟨fuel, hf⟩ := h
  obtain ⟨xs, m, _, hx, hcl, hxl, hfs⟩ := DataW.trod_struct hu hf
  have hsz : prog.cellsOf 24 = 5 := by kernel_rfl
  rw [hsz] at hcs
  have hcc : (Value.agg cs).cells.toList = cs.toList := rfl
  simp only [hcc] at hfs
  have hl5 : cs.toList.length = 5 := by simpa using hcs
  obtain ⟨c0, c1, c2, c3, c4, hc⟩ : ∃ a b c d e, cs.toList = [a, b, c, d, e] := by
    match hm : cs.toList, hl5 with
    | [a, b, c, d, e], _ => exact ⟨a, b, c, d, e, rfl⟩
  have hx5 : xs.length = 5 := hxl
  obtain ⟨y0, y1, y2, y3, y4, hy⟩ : ∃ a b c d e, xs = [a, b, c, d, e] := by
    match hm : xs, hx5 with
    | [a, b, c, d, e], _ => exact ⟨a, b, c, d, e, rfl⟩
  subst hy
  rw [hc] at hfs
  have f0 := hfs 0 _ rfl
  have f1 := hfs 1 _ rfl
  have f2 := hfs 2 _ rfl
  have f3 := hfs 3 _ rfl
  have f4 := hfs 4 _ rfl
  simp only [int_cells, cells_of_TB, List.drop_zero, List.drop_succ_cons, List.take_succ_cons, List.take_zero, List.getElem?_cons_zero, List.getElem?_cons_succ] at f0 f1 f2 f3 f4
  have hd : d = .agg [y0.1, y1.1, y2.1, y3.1, y4.1] := (Prod.mk.inj hx).1
  have hwt : ∀ n ∈ y0.1.weights prog 3 ++ (y1.1.weights prog 3 ++ (y2.1.weights prog 22 ++ (y3.1.weights prog 22 ++ (y4.1.weights prog 22 ++ [])))), n ≤ reachBytes := by
    intro n hn
    refine hw n ?_
    rw [hd]
    simp only [DataW.weights, hu, List.map_cons, List.map_nil, DataW.weightsEach]
    exact hn
  obtain ⟨n0, e0, _, w0⟩ := DataW.trod_int underlying3 f0
  obtain ⟨n1, e1, _, w1⟩ := DataW.trod_int underlying3 f1
  obtain ⟨s2, p2, e2, g2⟩ := open_bytes_t f2 (fun n hn => hwt n (by simp [hn]))
  obtain ⟨s3, p3, e3, g3⟩ := open_bytes_t f3 (fun n hn => hwt n (by simp [hn]))
  obtain ⟨s4, p4, e4, g4⟩ := open_bytes_t f4 (fun n hn => hwt n (by simp [hn]))
  have hcs2 : cs = seedC n0 n1 s2 s3 s4 := by
    apply Array.ext'
    rw [hc, (List.cons.inj e0).1, (List.cons.inj e1).1, (List.cons.inj e2).1, (List.cons.inj e3).1, (List.cons.inj e4).1]
    rfl
  subst hcs2
  have hv2 : ∃ cs, Value.agg (seedC n0 n1 s2 s3 s4) = .agg cs ∧ cs.size = prog.cellsOf 24 ∧ Row.okWide prog W .any base 24 cs := by
    simpa only [Value.okWide, underlying24] using hv
  obtain ⟨cs, he, _, ts, hts, _, hall⟩ := hv2
  obtain rfl := Value.agg.inj he
  have ht : ts = [3, 3, 22, 22, 22] := Option.some.inj (hts.symm.trans (by kernel_rfl))
  subst ht
  refine ⟨n0, n1, s2, s3, s4, p2, p3, p4, rfl, g2.part ?_, g3.part ?_, g4.part ?_⟩
  · obtain ⟨u, hu, hc⟩ := hall 2 (slV s2) rfl
    obtain rfl := Option.some.inj hu
    exact cell_lt hc
  · obtain ⟨u, hu, hc⟩ := hall 3 (slV s3) rfl
    obtain rfl := Option.some.inj hu
    exact cell_lt hc
  · obtain ⟨u, hu, hc⟩ := hall 4 (slV s4) rfl
    obtain rfl := Option.some.inj hu
    exact cell_lt hc

end Go.Sh

/- A script that came in. -/
set_option linter.unusedVariables false
namespace Go.Sh
open Go.Fw Go.Sha Go.RowKit Go.Proofs.Tryd Go.Deep Go.ChangeShapes Go.WideShapes

/-- an Op's cells -/
def opC (kind at_ n : Int) (ent extra : Sl) : Array Value := #[.int .i64 kind, .int .i64 at_, .int .i64 n, slV ent, slV extra]

structure OpD where
  kind : Int
  at_ : Int
  n : Int
  ent : Sl
  extra : Sl
  es : List Int
  xss : List (List Int)

structure OpOk (w : World) (B : Nat) (o : OpD) : Prop where
  ent : Src w o.ent (ints .u8 o.es)
  inn : ∀ x ∈ o.es, InK .u8 x
  lim : o.es.length ≤ 140737488351232
  eb : ∀ q, o.ent.a = some q → o.es ≠ [] → q.block < B
  parts : PartsW w o.extra o.xss fun k => k < B
  ext0 : o.extra.a = none → o.extra.cap = 0
  many : o.xss.length ≤ 1048575
  tot : o.xss.flatten.length ≤ 1099511627776

structure Script (w : World) (B : Nat) (s : Sl) (ops : List OpD) : Prop where
  len : s.len = ops.length
  lim : ops.length ≤ 140737488355328
  rd : ops = [] ∨ ∃ p : Addr, s.a = some p ∧ p.block < B ∧ ∀ i o, ops[i]? = some o → Rd w (p.add (i * 5)) (opC o.kind o.at_ o.n o.ent o.extra).toList ∧ OpOk w B o

theorem add_block (p : Addr) (i : Nat) : (p.add i).block = p.block := by unfold Addr.add; split <;> rfl

theorem OpOk.upd {w w' : World} {B : Nat} {o : OpD} {X : Nat → Prop} (h : OpOk w B o) (u : Upd X w w') (hX : ∀ k, k < B → ¬ X k) : OpOk w' B o :=
  ⟨src_updW h.ent u fun q hq hne => hX _ (h.eb q hq hne), h.inn, h.lim, h.eb, h.parts.upd u hX, h.ext0, h.many, h.tot⟩
theorem Script.upd {w w' : World} {B : Nat} {s : Sl} {ops : List OpD} {X : Nat → Prop} (h : Script w B s ops) (u : Upd X w w') (hX : ∀ k, k < B → ¬ X k) : Script w' B s ops := by
  refine ⟨h.len, h.lim, h.rd.imp id fun ⟨p, h1, h2, h3⟩ => ⟨p, h1, h2, fun i o ho => ⟨(h3 i o ho).1.upd u fun _ => ?_, (h3 i o ho).2.upd u hX⟩⟩⟩
  rw [add_block]; exact hX _ h2

/-- the parts of a list that came in, told one by one -/
theorem PartsW.parts {w : World} {s : Sl} {xss : List (List Int)} {Q : Nat → Prop} (h : PartsW w s xss Q) (hQ : ∀ k, Q k → k < w.heap.size) : Parts w s xss Q :=
  ⟨h.len, h.cap, h.inn, h.lens, h.many, h.rd.imp id fun ⟨p, ss, h1, h2, h3, h4, h5⟩ => ⟨p, ss, h1, h2, h3, h4, fun i hi => ⟨(h5 i hi).1, fun q hq hne => ⟨(h5 i hi).2 q hq hne, hQ _ ((h5 i hi).2 q hq hne)⟩⟩⟩⟩

theorem PartsW.list {w : World} {s : Sl} {xss : List (List Int)} {Q : Nat → Prop} (h : PartsW w s xss Q) (h0 : s.a = none → s.cap = 0) (hQ : ∀ k, Q k → k < w.heap.size) :
    ∃ qs : List (Sl × List Int), qs.map (·.2) = xss ∧ PartsL w s qs Q := by
  rcases h.rd with e | ⟨p, ss, h1, h2, h3, h4, h5⟩
  · subst e
    have hl : s.len = 0 := h.len
    refine ⟨[], rfl, ⟨⟨by simp [hl], h.cap, ?_, by simp⟩, by simp, fun p hp hne => (hne rfl).elim⟩⟩
    cases ha : s.a with
    | none => exact .inl ⟨rfl, h0 ha, rfl⟩
    | some p => exact .inr ⟨p, rfl, fun i v hv => by simp at hv⟩
  · have hz : (ss.zip xss).map (·.1) = ss := by
      rw [List.map_fst_zip]; omega
    have hz2 : (ss.zip xss).map (·.2) = xss := by
      rw [List.map_snd_zip]; omega
    refine ⟨ss.zip xss, hz2, ⟨⟨?_, h.cap, .inr ⟨p, h1, ?_⟩, ?_⟩, fun q hq => ?_, fun q hq _ => ?_⟩⟩
    · rw [h.len, List.length_map, List.length_zip]; omega
    · have : (ss.zip xss).map (fun p => slV p.1) = ss.map slV := by rw [← hz, List.map_map, hz]; rfl
      rw [this]; exact h4
    · intro v hv
      obtain ⟨x, _, rfl⟩ := List.mem_map.1 hv
      rfl
    · obtain ⟨i, hi, rfl⟩ := List.mem_iff_getElem.1 hq
      have hi2 : i < xss.length := by rw [List.length_zip] at hi; omega
      have hi1 : i < ss.length := by omega
      obtain ⟨k1, k2⟩ := h5 i hi2
      have e1 : ss.getD i nilS = ss[i] := by simp [List.getD_eq_getElem?_getD, hi1]
      have e2 : xss.getD i [] = xss[i] := by simp [List.getD_eq_getElem?_getD, hi2]
      rw [e1, e2] at k1 k2
      rw [List.getElem_zip]
      exact ⟨⟨k1, h.inn _ (List.getElem_mem hi2), h.lens _ (List.getElem_mem hi2), fun q hq hne => hQ _ (k2 q hq hne)⟩, fun q hq hne => k2 q hq hne⟩
    · rw [h1] at hq; obtain rfl := Option.some.inj hq; exact h3

/-! ### The bulk of a reading -/

open Go.Proofs.YtgdoljnhhabghaaDoor.Rows in
theorem bulk_pos {H : Type} (d : DataW H) : 1 ≤ uptoBulk d := by
  cases d with
  | lit l => cases l <;> simp [uptoBulk]
  | _ => simp [uptoBulk]
open Go.Proofs.YtgdoljnhhabghaaDoor.Rows in
theorem bulk_mem {H : Type} : ∀ {ds : List (DataW H)} {d : DataW H}, d ∈ ds → uptoBulk d ≤ uptoBulkAll ds
  | [], _, h => by cases h
  | x :: r, d, h => by
    rw [uptoBulkAll]
    rcases List.mem_cons.1 h with rfl | h
    · omega
    · have := bulk_mem h; omega
open Go.Proofs.YtgdoljnhhabghaaDoor.Rows in
theorem bulk_len {H : Type} : ∀ (ds : List (DataW H)), ds.length ≤ uptoBulkAll ds
  | [] => Nat.zero_le _
  | x :: r => by
    rw [uptoBulkAll, List.length_cons]
    have := bulk_pos x; have := bulk_len r; omega

open Go.Proofs.YtgdoljnhhabghaaDoor.Rows in
theorem small_bytes {H : Type} {enc : TypeId × Value → H} {W : World} {x : DataW H × List MemPlace} {fuel : Nat} {s : Sl} (hf : DataW.trod enc prog W 0 (fun _ => true) true fuel 22 [slV s] = some x) : s.len ≤ uptoBulk x.1 := by
  rcases open_ints sliceB.ht und_B cells_of_B hf with ⟨hcs, hy⟩ | ⟨a', len', cap', zs, hcs, hb', hl', hm', hz, hy, hcell, hwz⟩
  · have : s.len = 0 := by
      have := (List.cons.inj hcs).1
      simp only [Value.slice.injEq] at this
      exact this.2.1
    rw [this]; exact Nat.zero_le _
  · have hl : s.len = len' := by
      have := (List.cons.inj hcs).1
      simp only [Value.slice.injEq] at this
      exact this.2.1
    have hz : zs.length = cap' := by simpa using hz
    have h1 := bulk_len (lits (H := H) .u8 (zs.take len'))
    rw [hy]
    simp only [uptoBulk]
    have h2 : (lits (H := H) .u8 (zs.take len')).length = len' := by simp only [lits, List.length_map, List.length_take]; omega
    omega

open Go.Proofs.YtgdoljnhhabghaaDoor.Rows in
theorem small_parts {H : Type} {enc : TypeId × Value → H} {W : World} {x : DataW H × List MemPlace} {fuel : Nat} {s : Sl} {xss : List (List Int)} {Q : Nat → Prop} (hf : DataW.trod enc prog W 0 (fun _ => true) true fuel 32 [slV s] = some x) (h : PartsW W s xss Q) :
    xss.length + 1 ≤ uptoBulk x.1 ∧ ∀ xs ∈ xss, xs.length ≤ uptoBulk x.1 := by
  rcases open_slice sliceSS.ht hf with ⟨hcs, hx⟩ | ⟨a', len', cap', m, n, D, Pl, hcs, _, hl, hm, hmm, hx, hrows⟩
  · have : s.len = 0 := by
      have := (List.cons.inj hcs).1
      simp only [Value.slice.injEq] at this
      exact this.2.1
    have h0 : xss = [] := List.eq_nil_of_length_eq_zero (by have := h.len; omega)
    subst h0
    exact ⟨bulk_pos _, fun xs hxs => by cases hxs⟩
  have hs := (List.cons.inj hcs).1
  simp only [Value.slice.injEq] at hs
  obtain ⟨ha, hlen, hcap⟩ := hs
  have hxl : xss.length = len' := by rw [← h.len]; exact hlen
  have hm2 : m = cap' := by simpa using hmm
  rw [hx]
  simp only [uptoBulk]
  have hbl := bulk_len ((List.range len').map D)
  rw [List.length_map, List.length_range] at hbl
  refine ⟨by omega, fun xs hxs => ?_⟩
  obtain ⟨i, hi, rfl⟩ := List.mem_iff_getElem.1 hxs
  rcases h.rd with e | ⟨p, ss, h1, h2, h3, h4, h5⟩
  · rw [e] at hi; cases hi
  obtain ⟨cs', k1, k2⟩ := hrows i (by omega)
  rw [cells_of_TB, Nat.mul_one] at k1
  obtain ⟨_, kl, kc⟩ := World.cells?_some k1
  rw [ha] at h1
  obtain rfl := Option.some.inj h1
  have hsi : i < ss.length := by omega
  have h6 := h4 i (slV ss[i]) (by simp [hsi])
  have h7 := kc 0 (by omega)
  have h8 : (a'.add i).add 0 = a'.add i := by rw [add_add]; rfl
  rw [h8, h6] at h7
  have hcs' : cs' = [slV ss[i]] := by
    match cs', kl, h7 with
    | [v], _, h7 => simp at h7; rw [h7]
  rw [hcs'] at k2
  have h9 := small_bytes k2
  have h10 : uptoBulk (D i) ≤ uptoBulkAll ((List.range len').map D) := bulk_mem (List.mem_map.2 ⟨i, List.mem_range.2 (by omega), rfl⟩)
  have h11 := (h5 i hi).1.len
  have e1 : ss.getD i nilS = ss[i] := by simp [List.getD_eq_getElem?_getD, hsi]
  have e2 : xss.getD i [] = xss[i] := by simp [List.getD_eq_getElem?_getD, hi]
  rw [e1, e2, ints_length] at h11
  have h9 : ss[i].len ≤ uptoBulk (D i) := h9
  omega

theorem flat_le {b : Nat} : ∀ {xss : List (List Int)}, (∀ xs ∈ xss, xs.length ≤ b) → xss.flatten.length ≤ xss.length * b
  | [], _ => Nat.zero_le _
  | x :: r, h => by
    rw [List.flatten_cons, List.length_append, List.length_cons, Nat.succ_mul]
    have := h x (List.mem_cons_self ..)
    have := flat_le (xss := r) fun xs hxs => h xs (List.mem_cons_of_mem _ hxs)
    omega

theorem bytes_of_op : prog.bytesOf 34 = 72 := by kernel_rfl
theorem cells_of_op : prog.cellsOf 34 = 5 := by kernel_rfl
theorem cells_of_BB : prog.cellsOf 32 = 1 := by kernel_rfl

theorem open_parts_t {H : Type} {enc : TypeId × Value → H} {W : World} {x : DataW H × List MemPlace} {fuel : Nat} {cs : List Value} (hf : DataW.trod enc prog W 0 (fun _ => true) true fuel 32 cs = some x) (hw : ∀ n ∈ x.1.weights prog 32, n ≤ reachBytes) :
    ∃ s xss, cs = [slV s] ∧ PartsW W s xss (fun k => k < W.heap.size) ∧ (s.a = none → s.cap = 0) := by
  have hsh : ∃ a len cap, cs = [.slice a len cap] ∧ (a = none → cap = 0) := by
    rcases open_slice sliceSS.ht hf with ⟨h, _⟩ | ⟨a, len, cap, m, n, D, Pl, h, _⟩
    · exact ⟨_, _, _, h, fun _ => rfl⟩
    · exact ⟨_, _, _, h, fun e => by cases e⟩
  obtain ⟨a, len, cap, rfl, h0⟩ := hsh
  obtain ⟨xss, h⟩ := open_parts (H := H) (enc := enc) (W := W) (d := x.1) (p := x.2) (a := a) (len := len) (cap := cap) ⟨fuel, hf⟩ hw
  exact ⟨⟨a, len, cap⟩, xss, rfl, h, h0⟩

theorem src_lt3 {w : World} {s : Sl} {xs : List Int} (h : Src w s (ints .u8 xs)) : ∀ q, s.a = some q → xs ≠ [] → q.block < w.heap.size := by
  intro q hq hne
  rcases h.rd with ⟨a1, _⟩ | ⟨p, a1, a2⟩
  · rw [a1] at hq; cases hq
  · rw [a1] at hq; obtain rfl := Option.some.inj hq
    exact a2.lt fun e => hne (by cases xs with | nil => rfl | cons y r => cases e)

set_option maxRecDepth 100000 in
theorem open_op {H : Type} {enc : TypeId × Value → H} {W : World} {x : DataW H × List MemPlace} {fuel : Nat} {cs : List Value} (hf : DataW.trod enc prog W 0 (fun _ => true) true fuel 34 cs = some x) (hw : ∀ n ∈ x.1.weights prog 34, n ≤ reachBytes) (hbulk : Go.Proofs.YtgdoljnhhabghaaDoor.Rows.uptoBulk x.1 ≤ 1048576) :
    ∃ o : OpD, cs = (opC o.kind o.at_ o.n o.ent o.extra).toList ∧ OpOk W W.heap.size o := by
  have hb1 : Go.Proofs.YtgdoljnhhabghaaDoor.Rows.uptoBulk x.1 ≤ 1048576 := hbulk
  have hu := underlying34
  obtain ⟨xs, m, _, hx, hcl, hxl, hfs⟩ := DataW.trod_struct hu hf
  rw [cells_of_op] at hcl
  obtain ⟨c0, c1, c2, c3, c4, hc⟩ : ∃ a b c d e, cs = [a, b, c, d, e] := by
    match cs, hcl with
    | [a, b, c, d, e], _ => exact ⟨a, b, c, d, e, rfl⟩
  have hx5 : xs.length = 5 := hxl
  obtain ⟨y0, y1, y2, y3, y4, hy⟩ : ∃ a b c d e, xs = [a, b, c, d, e] := by
    match xs, hx5 with
    | [a, b, c, d, e], _ => exact ⟨a, b, c, d, e, rfl⟩
  subst hy
  rw [hc] at hfs
  have f0 := hfs 0 _ rfl
  have f1 := hfs 1 _ rfl
  have f2 := hfs 2 _ rfl
  have f3 := hfs 3 _ rfl
  have f4 := hfs 4 _ rfl
  simp only [int_cells, cells_of_BB, cells_of_TB, List.drop_zero, List.drop_succ_cons, List.take_succ_cons, List.take_zero, List.getElem?_cons_zero, List.getElem?_cons_succ] at f0 f1 f2 f3 f4
  have hd : x.1 = .agg [y0.1, y1.1, y2.1, y3.1, y4.1] := by rw [hx]; rfl
  have hwt : ∀ n ∈ y0.1.weights prog 3 ++ (y1.1.weights prog 3 ++ (y2.1.weights prog 3 ++ (y3.1.weights prog 22 ++ (y4.1.weights prog 32 ++ [])))), n ≤ reachBytes := by
    intro n hn
    refine hw n ?_
    rw [hd]
    simp only [DataW.weights, hu, List.map_cons, List.map_nil, DataW.weightsEach]
    exact hn
  obtain ⟨n0, e0, _, w0⟩ := DataW.trod_int underlying3 f0
  obtain ⟨n1, e1, _, w1⟩ := DataW.trod_int underlying3 f1
  obtain ⟨n2, e2, _, w2⟩ := DataW.trod_int underlying3 f2
  obtain ⟨s3, p3, e3, g3⟩ := open_bytes_t f3 (fun n hn => hwt n (by simp [hn]))
  obtain ⟨s4, p4, e4, g4, g5⟩ := open_parts_t f4 (fun n hn => hwt n (by simp [hn]))
  have hy4 : Go.Proofs.YtgdoljnhhabghaaDoor.Rows.uptoBulk y4.1 ≤ Go.Proofs.YtgdoljnhhabghaaDoor.Rows.uptoBulk x.1 := by
    rw [hd]
    simp only [Go.Proofs.YtgdoljnhhabghaaDoor.Rows.uptoBulk, Go.Proofs.YtgdoljnhhabghaaDoor.Rows.uptoBulkAll]
    omega
  rw [(List.cons.inj e4).1] at f4
  obtain ⟨m1, m2⟩ := small_parts f4 g4
  have hfl := flat_le (b := 1048576) fun xs hxs => Nat.le_trans (m2 xs hxs) (by omega)
  refine ⟨⟨n0, n1, n2, s3, s4, p3, p4⟩, ?_, ⟨g3.src, g3.inn, g3.len, src_lt3 g3.src, g4, g5, by show p4.length ≤ _; omega, by show p4.flatten.length ≤ _; omega⟩⟩
  rw [hc, (List.cons.inj e0).1, (List.cons.inj e1).1, (List.cons.inj e2).1, (List.cons.inj e3).1, (List.cons.inj e4).1]
  rfl

theorem open_script {H : Type} {enc : TypeId × Value → H} {W : World} {d : DataW H} {p : List MemPlace} {a : Option Addr} {len cap : Nat} (h : DataW.Trod enc prog W 0 (fun _ => true) true 25 (.slice a len cap) d p) (hw : ∀ n ∈ d.weights prog 25, n ≤ reachBytes) (hbulk : Go.Proofs.YtgdoljnhhabghaaDoor.Rows.uptoBulk d ≤ 1048576) :
    ∃ ops, Script W W.heap.size ⟨a, len, cap⟩ ops := by
  obtain ⟨fuel, hf⟩ := h
  rcases open_slice underlying25 hf with ⟨hcs, hx⟩ | ⟨a', len', cap', m, n, D, Pl, hcs, _, hl, hm, hmm, hx, hrows⟩
  · simp [Value.cells] at hcs
    obtain ⟨rfl, rfl, rfl⟩ := hcs
    exact ⟨[], rfl, Nat.zero_le _, .inl rfl⟩
  simp [Value.cells] at hcs
  obtain ⟨rfl, rfl, rfl⟩ := hcs
  have hm2 : m = cap := by simpa using hmm
  have hd := (Prod.mk.inj hx).1
  subst hd
  have hrb : reachBytes = 140737488351232 := rfl
  have hwt : ∀ n ∈ (len + (m - len)) * 72 :: (DataW.weightsAll prog 34 ((List.range len).map D)), n ≤ 140737488351232 := by
    intro n hn
    refine hw n ?_
    simp only [DataW.weights, underlying25, bytes_of_op, List.length_map, List.length_range]
    rcases List.mem_cons.1 hn with rfl | hn
    · exact List.mem_cons_self ..
    · exact List.mem_cons_of_mem _ (List.mem_append_left _ hn)
  have hcap := hwt _ (List.mem_cons_self ..)
  have hcap2 : len + (m - len) ≤ 140737488351232 := by omega
  have each : ∀ i, ∃ o : OpD, i < len → Rd W (a'.add (i * 5)) (opC o.kind o.at_ o.n o.ent o.extra).toList ∧ OpOk W W.heap.size o := by
    intro i
    by_cases hi : i < len
    · obtain ⟨cs', h1, h2⟩ := hrows i (by omega)
      rw [cells_of_op] at h1
      obtain ⟨_, hlen, hcell⟩ := World.cells?_some h1
      obtain ⟨o, ho, hok⟩ := open_op h2 (fun n hn => by
        have := hwt n (List.mem_cons_of_mem _ (weights_all (List.mem_map.2 ⟨i, List.mem_range.2 hi, rfl⟩) n hn))
        rw [hrb]; exact this) (by
        have h10 : Go.Proofs.YtgdoljnhhabghaaDoor.Rows.uptoBulk (D i) ≤ Go.Proofs.YtgdoljnhhabghaaDoor.Rows.uptoBulkAll ((List.range len).map D) := bulk_mem (List.mem_map.2 ⟨i, List.mem_range.2 hi, rfl⟩)
        simp only [Go.Proofs.YtgdoljnhhabghaaDoor.Rows.uptoBulk] at hbulk
        show Go.Proofs.YtgdoljnhhabghaaDoor.Rows.uptoBulk (D i) ≤ _
        omega)
      refine ⟨o, fun _ => ⟨fun j v hv => ?_, hok⟩⟩
      rw [← ho] at hv
      have hj := (List.getElem?_eq_some_iff.1 hv).1
      rw [hcell j (by omega)]; exact hv
    · exact ⟨⟨0, 0, 0, nilS, nilS, [], []⟩, fun h => absurd h hi⟩
  obtain ⟨f, hfo⟩ := Classical.axiomOfChoice each
  refine ⟨(List.range len).map f, by simp, by simp; omega, ?_⟩
  by_cases h0 : len = 0
  · left; rw [h0]; rfl
  right
  have hb0 := (hfo 0 (by omega)).1.lt (by simp [opC])
  rw [add_block] at hb0
  refine ⟨a', rfl, hb0, fun i o ho => ?_⟩
  have hi : i < len := by have := (List.getElem?_eq_some_iff.1 ho).1; simpa using this
  have he : o = f i := by
    rw [List.getElem?_map, List.getElem?_range hi] at ho
    exact (Option.some.inj ho).symm
  rw [he]; exact hfo i hi

end Go.Sh

/- The statement SpringRepeats. -/
set_option linter.unusedVariables false
namespace Go.Sh
open Go.Fw Go.Sha Go.RowKit Go.Proofs.Tryd

theorem ldA_at {w : World} {p : Addr} {vs : List Value} (h : Rd w p vs) (hne : vs ≠ []) : ldA vs.length p w = some vs.toArray := by
  have hsp : p.spot = none := by
    obtain ⟨v, r, rfl⟩ : ∃ v r, vs = v :: r := by
      cases vs with
      | nil => exact absurd rfl hne
      | cons v r => exact ⟨v, r, rfl⟩
    have h0 := h 0 v rfl
    unfold World.cell? at h0
    split at h0
    · have h0 : (if (p.add 0).spot.isSome = true then none else _) = some v := h0
      split at h0
      · cases h0
      · rename_i hs
        cases hq : p.spot with
        | none => rfl
        | some x => exact absurd (by unfold Addr.add; simp [hq]) hs
    · cases h0
  obtain ⟨g, o, sp⟩ := p
  have hsp : sp = none := hsp
  subst hsp
  obtain ⟨m, hm⟩ : ∃ m, vs.length = m + 1 := ⟨vs.length - 1, by have := List.length_pos_iff.2 hne; omega⟩
  have hlast := h m (vs[m]'(by omega)) (List.getElem?_eq_getElem (by omega))
  rw [add_lit] at hlast
  unfold World.cell? at hlast
  unfold ldA
  split at hlast
  · rename_i c e fz hb
    simp only [Option.isSome_none, Bool.false_eq_true, if_false] at hlast
    have hsz : o + m < c.size := (Array.getElem?_eq_some_iff.1 hlast).1
    simp only [hb]
    rw [if_pos ⟨trivial, by omega⟩]
    congr 1
    apply Array.ext (by simp; omega)
    intro i h1 h2
    have h2' : i < vs.length := by simpa using h2
    have hi := h i vs[i] (List.getElem?_eq_getElem h2')
    rw [add_lit] at hi
    simp only [World.cell?, hb, Option.isSome_none, Bool.false_eq_true, if_false] at hi
    have := (Array.getElem?_eq_some_iff.1 hi).2
    simp [this]
  · cases hlast

theorem bldS0 (w : World) : ∃ w', bldS prog 22 0 #[] w = some (⟨some ⟨w.heap.size, 0, none⟩, 0, 0⟩, w') ∧ Own 5 w' ⟨some ⟨w.heap.size, 0, none⟩, 0, 0⟩ [] ∧ Upd none_ w w' := by
  obtain ⟨i, hi, hsz, hz, hby⟩ := sliceB.info
  have hr : (Instr.buildSlice 22 0 #[]).run prog w = .ok (.slice (some ⟨w.heap.size, 0, none⟩) 0 0) (w.alloc (.cells #[] 5)) := by
    simp [Instr.buildSlice, run_underlying sliceB.ht, sizeOf, typeInfo, hi, Instr.fill, newRow]
    have e : (Array.map (fun x => (default : Value)) (Array.range 0)) = #[] := Array.eq_empty_of_size_eq_zero (by simp)
    rw [e]
  refine ⟨w.alloc (.cells #[] 5), ?_, ⟨rfl, .inr ⟨w.heap.size, #[], rfl, heap_alloc_new w _, Nat.le_refl _, Nat.zero_le _, by simp, by simp⟩⟩, Upd.alloc _ _ _⟩
  unfold bldS; rw [hr]

theorem bytes_loop {K : Nat} {s : Sl} {xss : List (List Int)} {Q : Nat → Prop} {w : World} (hp : PartsW w s xss Q) :
    ∀ (d i n acc : Nat), i + d = xss.length → d < n → acc + (xss.drop i).flatten.length ≤ 4611686018427387904 → law06_bytes_l0 K n s (acc : Int) (i : Int) w = some (.norm (((acc + (xss.drop i).flatten.length : Nat) : Int), ())) := by
  intro d
  have hpl := hp.len
  have hmany := hp.many
  induction d with
  | zero =>
    intro i n acc hi hn ha
    obtain ⟨n, rfl⟩ : ∃ m, n = m + 1 := ⟨n - 1, by omega⟩
    show law06_bytes_l0_b K w _ s (acc : Int) (i : Int) = _
    unfold law06_bytes_l0_b
    rw [if_neg (by simp; omega), List.drop_of_length_le (by omega)]
    rfl
  | succ d ih =>
    intro i n acc hi hn ha
    obtain ⟨n, rfl⟩ : ∃ m, n = m + 1 := ⟨n - 1, by omega⟩
    obtain ⟨p, t, h1, h2, h3, h5, h6, h7⟩ := hp.at (i := i) (by omega)
    have hdr : xss.drop i = xss.getD i [] :: xss.drop (i + 1) := drop_getD (by omega) []
    rw [hdr, List.flatten_cons, List.length_append] at ha ⊢
    have e1 : IntKind.i64.wrap ((i : Int) + 1) = ((i + 1 : Nat) : Int) := by rw [w64 (by omega) (by omega)]; rfl
    have e2 : IntKind.i64.wrap ((acc : Int) + ((t.len : Nat) : Int)) = ((acc + (xss.getD i []).length : Nat) : Int) := by rw [w64 (by omega) (by omega)]; omega
    show law06_bytes_l0_b K w (law06_bytes_l0 K n · · · w) s (acc : Int) (i : Int) = _
    unfold law06_bytes_l0_b
    rw [if_pos (by simp; omega), h1, Option.bind_some, if_pos (show (0 : Int) ≤ (i : Int) ∧ (i : Int) < ((s.len : Nat) : Int) by rw [hpl]; omega), Int.toNat_natCast, Nat.mul_one, h2, Option.bind_some, e2, e1]
    have := ih (i + 1) n (acc + (xss.getD i []).length) (by omega) (by omega) (by omega)
    rw [Nat.add_assoc] at this
    exact this

theorem lbytes_ok {K : Nat} (hK : 18446744073709551616 ≤ K) {s : Sl} {xss : List (List Int)} {Q : Nat → Prop} {w : World} (hp : PartsW w s xss Q) (hl : xss.flatten.length ≤ 4611686018427387904) :
    law06_bytes K s w = some (((xss.flatten.length : Nat) : Int), ()) := by
  have hm := hp.many
  have h := bytes_loop (K := K) hp xss.length 0 K 0 (by omega) (by omega) (by simpa using hl)
  rw [List.drop_zero, Nat.zero_add] at h
  have h : law06_bytes_l0 K K s 0 0 w = _ := h
  unfold law06_bytes
  rw [h, Option.bind_some]

/-- the state behind a feed, whatever it answers -/
def fedS (C S : List Int) (h : Int) (kv : List Int × List Int) (es xs : List Int) : List Int × List Int := if feedErr es.length xs.length = 0 then updS C S h kv (es ++ xs) else kv
def fedD (d : Int) (es xs : List Int) : Int := if feedErr es.length xs.length = 0 then 0 else d

theorem op_part {w : World} {B : Nat} {o : OpD} (ho : OpOk w B o) (hB : B ≤ w.heap.size) : PartOk w (o.ent, o.es) := ⟨ho.ent, ho.inn, ho.lim, fun q hq hne => by have := ho.eb q hq hne; omega⟩

theorem op_feed {K : Nat} (hK : 18446744073709551616 ≤ K) {C S : List Int} {w : World} (T : Tabs w C S) {g : Nat} (hg : 5 ≤ g) {h lim d : Int} {kv : List Int × List Int} {R : Nat → Prop} (s : SprAt R 56 w g h lim d kv.1 kv.2) {B : Nat} (hB : B ≤ g) {o : OpD} (ho : OpOk w B o) :
    ∃ w', spring_Spring_Feed K (some ⟨g, 0, none⟩) o.ent o.extra w = some ((feedErr o.es.length o.xss.flatten.length, ()), w') ∧
      SprAt (fun _ => True) 56 w' g h lim (fedD d o.es o.xss.flatten) (fedS C S h kv o.es o.xss.flatten).1 (fedS C S h kv o.es o.xss.flatten).2 ∧ Upd (· = g) w w' := by
  have hlt := s.lt
  have hQ : ∀ k, k < B → k < w.heap.size := fun k hk => by omega
  have hP := ho.parts.parts hQ
  have hel : o.ent.len = o.es.length := by rw [ho.ent.len, ints_length]
  unfold fedS fedD
  by_cases he : feedErr o.es.length o.xss.flatten.length = 0
  · rw [if_pos he, if_pos he, he]
    obtain ⟨qs, hqs, L⟩ := ho.parts.list ho.ext0 hQ
    have hql : qs.length = o.xss.length := by rw [← hqs, List.length_map]
    have hm := ho.many
    obtain ⟨w', a1, a2, a3⟩ := feed_ok hK T hg s (op_part ho (by omega)) (fun q hq hne e => by have := ho.eb q hq hne; omega) (fun h => by have : g < B := h; omega) L (by omega) (by rw [hqs]; exact he)
    rw [hqs] at a2
    exact ⟨w', a1, a2.any, a3⟩
  · rw [if_neg he, if_neg he]
    have := feed_err (g := g) hK hel hP he
    exact ⟨w, this, s.any, Upd.refl _ w⟩

theorem op_draw {K : Nat} (hK : 18446744073709551616 ≤ K) {C S : List Int} {w : World} (T : Tabs w C S) {g : Nat} (hg : 5 ≤ g) {h lim d : Int} (hk : known h = true) (hd0 : 0 ≤ d) (hd1 : d < 9223372036854775807) {kv : List Int × List Int} {R : Nat → Prop} (s : SprAt R 56 w g h lim d kv.1 kv.2) {B : Nat} (hB : B ≤ g) {o : OpD} (ho : OpOk w B o) {n : Nat} (he : drawErr lim d (n : Int) o.xss.flatten.length = 0) :
    ∃ r w', spring_Spring_Draw K (some ⟨g, 0, none⟩) (n : Int) o.extra w = some ((r, 0, ()), w') ∧
      SprAt (fun k => w.heap.size ≤ k ∧ r.blk ≠ some k) 56 w' g h lim (d + 1) (nxtS C S h kv n o.xss.flatten).1 (nxtS C S h kv n o.xss.flatten).2 ∧
      Vw 5 w' r (ints .u8 (outS C S h kv n o.xss.flatten)) ∧ r.len = n ∧ Fresh w.heap.size r ∧ Upd (· = g) w w' := by
  have hlt := s.lt
  have hQ : ∀ k, k < B → k < w.heap.size := fun k hk => by omega
  obtain ⟨qs, hqs, L⟩ := ho.parts.list ho.ext0 hQ
  have hql : qs.length = o.xss.length := by rw [← hqs, List.length_map]
  have hm := ho.many
  obtain ⟨r, w', c1, c2, c3, c4, c5, c6⟩ := draw_ok hK T hg hk hd0 hd1 s (fun h => by have : g < B := h; omega) L (by omega) (n := n) (by rw [hqs]; exact he)
  rw [hqs] at c2 c3
  exact ⟨r, w', c1, c2, c3, by rw [c3.len, ints_length, outS_len hk], c5, c6⟩

end Go.Sh

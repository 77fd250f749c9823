/- Texts of this claim, put together: Lent, Sums, Open, Laid, EscX, EscY, EscZ, EscZa, EscZb, EscZc, EscZd -/
import Derived.Test.YteomkfcfhlljkaaDoorAllShiiimmk
import Derived.Test.YteomkfcfhlljkaaDoorAllLawedokpe
import Derived.Test.YteomkfcfhlljkaaDoorAllFwocfjfh
import Derived.Deep.Matrix
import Derived.SizedLaws
import Derived.Handed
import Derived.Test.YteomkfcfhlljkaaDoorRows
import Derived.Lib.LaidTab
import Derived.Test.YteomkfcfhlljkaaDoorAllLawaajmbp
/- What is lent to the program: copies of parts with marks behind them, and what is left of them; nothing is lost. -/
set_option linter.unusedVariables false
namespace Go.Sh
open Go.Fw Go.Sha Go.RowKit Go.Proofs.Tryd

/-- one of the copies -/
def LentOne (w : World) (B N : Nat) (l : Sl) (p : Sl × List Int) : Prop :=
  ∃ g cap, p.1 = ⟨some ⟨g, 0, none⟩, p.2.length, cap⟩ ∧ B ≤ g ∧ g < N ∧ l.blk ≠ some g ∧ OwnS 5 w ⟨some ⟨g, 0, none⟩, p.2.length + 70, cap⟩ (ints .u8 (p.2 ++ marks))

/-- the copies, in blocks from B on up to N -/
structure Lent (w : World) (B N : Nat) (l : Sl) (xss : List (List Int)) : Prop where
  ex : ∃ ps : List (Sl × List Int), ps.map Prod.snd = xss ∧ OwnS 23 w l (ps.map fun p => slV p.1) ∧ ∀ p ∈ ps, LentOne w B N l p
  fr : ∀ k, l.blk = some k → B ≤ k ∧ k < N
  nn : N ≤ w.heap.size

theorem Lent.upd {w w' : World} {B N : Nat} {l : Sl} {xss : List (List Int)} {X : Nat → Prop} (h : Lent w B N l xss) (u : Upd X w w') (hn : ∀ k, B ≤ k → k < N → ¬ X k) : Lent w' B N l xss := by
  obtain ⟨⟨ps, h1, h2, h3⟩, h4, h5⟩ := h
  refine ⟨⟨ps, h1, h2.upd u fun k hk => hn k (h4 k hk).1 (h4 k hk).2, fun p hp => ?_⟩, h4, Nat.le_trans h5 u.size⟩
  obtain ⟨g, cap, a1, a2, a3, a4, a5⟩ := h3 p hp
  exact ⟨g, cap, a1, a2, a3, a4, a5.upd u fun k hk => by simp [Sl.blk] at hk; subst hk; exact hn _ a2 a3⟩
theorem Lent.upd0 {w w' : World} {B N : Nat} {l : Sl} {xss : List (List Int)} (h : Lent w B N l xss) (u : Upd none_ w w') : Lent w' B N l xss := h.upd u fun _ _ _ => id

theorem LentOne.src {w : World} {B N : Nat} {l : Sl} {p : Sl × List Int} (h : LentOne w B N l p) : Src w p.1 (ints .u8 p.2) := by
  obtain ⟨g, cap, a1, a2, a3, a4, a5⟩ := h
  rw [a1]; exact (marked_front a5).src ints_one

theorem Lent.parts {w w0 : World} {B N : Nat} {l s : Sl} {xss : List (List Int)} {Q : Nat → Prop} (h : Lent w B N l xss) (hp : PartsW w0 s xss Q) : Parts w l xss fun k => B ≤ k ∧ k < N := by
  obtain ⟨⟨ps, a1, a2, a3⟩, a4, a5⟩ := h
  have hll : l.len = xss.length := by rw [a2.len, ← a1]; simp
  refine ⟨hll, a2.cap.1, hp.inn, hp.lens, hp.many, ?_⟩
  have hsrc := a2.src (fun v hv => by obtain ⟨x, _, rfl⟩ := List.mem_map.1 hv; rfl)
  rcases hsrc.rd with ⟨b1, b2, b3⟩ | ⟨p, b1, b2⟩
  · left
    have : ps = [] := by simpa using b3
    rw [← a1, this]; rfl
  · right
    refine ⟨p, ps.map Prod.fst, b1, by rw [← a1]; simp, a4 p.block (by simp [Sl.blk, b1]), by rw [List.map_map]; exact b2, fun i hi => ?_⟩
    have hi2 : i < ps.length := by rw [← a1] at hi; simpa using hi
    have e1 : (ps.map Prod.fst).getD i nilS = ps[i].1 := by simp [List.getD_eq_getElem?_getD, hi2]
    have e2 : xss.getD i [] = ps[i].2 := by rw [← a1]; simp [List.getD_eq_getElem?_getD, hi2]
    have h0 := a3 ps[i] (List.getElem_mem hi2)
    rw [e1, e2]
    refine ⟨h0.src, fun q hq _ => ?_⟩
    obtain ⟨g, cap, f1, f2, f3, f4, f5⟩ := h0
    rw [f1] at hq
    obtain rfl := Option.some.inj hq
    exact ⟨⟨f2, f3⟩, by show g < w.heap.size; omega⟩

theorem Lent.at {w : World} {B N : Nat} {l : Sl} {xss : List (List Int)} (h : Lent w B N l xss) {i : Nat} (hi : i < xss.length) :
    ∃ p g cap, l.a = some p ∧ l.len = xss.length ∧ ldS (p.add i) w = some ⟨some ⟨g, 0, none⟩, (xss.getD i []).length, cap⟩ ∧ B ≤ g ∧ g < N ∧ l.blk ≠ some g ∧ OwnS 5 w ⟨some ⟨g, 0, none⟩, (xss.getD i []).length + 70, cap⟩ (ints .u8 (xss.getD i [] ++ marks)) := by
  obtain ⟨⟨ps, a1, a2, a3⟩, a4, a5⟩ := h
  have hll : l.len = xss.length := by rw [a2.len, ← a1]; simp
  have hi2 : i < ps.length := by rw [← a1] at hi; simpa using hi
  have e2 : xss.getD i [] = ps[i].2 := by rw [← a1]; simp [List.getD_eq_getElem?_getD, hi2]
  obtain ⟨g, cap, f1, f2, f3, f4, f5⟩ := a3 ps[i] (List.getElem_mem hi2)
  have hsrc := a2.src (fun v hv => by obtain ⟨x, _, rfl⟩ := List.mem_map.1 hv; rfl)
  rcases hsrc.rd with ⟨b1, b2, b3⟩ | ⟨p, b1, b2⟩
  · have : ps = [] := by simpa using b3
    rw [this] at hi2; simp at hi2
  · rw [e2]
    refine ⟨p, g, cap, b1, hll, ?_, f2, f3, f4, f5⟩
    have := b2 i (slV ps[i].1) (by simp [hi2])
    rw [f1] at this
    simp [ldS, this, asS, slV]

theorem digestOf_in (h : Int) (C H0 xs : List Int) : ∀ x ∈ digestOf h C H0 xs, InK .u8 x := by
  have key : ∀ (H : List Int) (m i : Nat), ∀ x ∈ outW H m i, InK .u8 x := by
    intro H m i
    induction i with
    | zero => intro x hx; simp [outW] at hx
    | succ i ih =>
      intro x hx
      simp only [outW, List.mem_append] at hx
      rcases hx with hx | hx
      · exact ih x hx
      · exact bigB_in _ m x hx
  intro x hx
  exact key _ _ _ x (List.mem_of_mem_take hx)
end Go.Sh

/- DigestSums: every Sum of any parts. -/
set_option linter.unusedVariables false
namespace Go.Sh
open Go.Fw Go.Sha Go.RowKit Go.Proofs.Tryd

theorem known256 : known 256 = true := rfl

end Go.Sh

/- What a reading of a [][]byte gives. -/
set_option linter.unusedVariables false
namespace Go.Sh
open Go.Fw Go.Sha Go.RowKit Go.Proofs.Tryd Go.Deep Go.ChangeShapes Go.WideShapes

theorem wf_u8 {n : Int} (h : (Lit.int .u8 n).wf = true) : InK .u8 n := by
  have h2 : 0 ≤ n ∧ n ≤ 255 := by simpa [Lit.wf, IntKind.bits, IntKind.min, IntKind.max, IntKind.signed] using h
  exact ⟨h2.1, by have := h2.2; simp only [IntKind.bits]; omega⟩

theorem bytes_of_B : 1 ≤ prog.bytesOf 5 := of_decide_eq_true (by kernel_rfl)
theorem und_B : prog.underlying 5 = some (.int .u8) := by kernel_rfl
theorem cells_of_B : prog.cellsOf 5 = 1 := by kernel_rfl
/-- what is in reach -/
theorem lits_len {H : Type} {κ : IntKind} {zs : List Int} {n : Nat} : (lits (H := H) κ (zs.take n)).length + (lits (H := H) κ (zs.drop n)).length = zs.length := by
  simp only [lits, List.length_map, List.length_take, List.length_drop]; omega

/-- a slice of bytes that came in -/
structure BytesIn (W : World) (s : Sl) (xs : List Int) : Prop where
  src : Src W s (ints .u8 xs)
  inn : ∀ x ∈ xs, InK .u8 x
  len : xs.length ≤ 140737488351232
  cap : s.cap ≤ 140737488351232

theorem open_bytes_t {H : Type} {enc : TypeId × Value → H} {W : World} {x : DataW H × List MemPlace} {fuel : Nat} {cs : List Value} (hf : DataW.trod enc prog W 0 (fun _ => true) true fuel 23 cs = some x) (hw : ∀ n ∈ x.1.weights prog 23, n ≤ reachBytes) :
    ∃ s xs, cs = [slV s] ∧ BytesIn W s xs := by
  rcases open_ints sliceB.ht und_B cells_of_B hf with ⟨hcs, hy⟩ | ⟨a', len', cap', zs, hcs, hb', hl', hm', hz, hy, hcell, hwz⟩
  · exact ⟨nilS, [], hcs, ⟨rfl, Nat.le_refl _, .inl ⟨rfl, rfl, rfl⟩, ints_one⟩, by simp, by simp, by simp [nilS]⟩
  · have hz : zs.length = cap' := by simpa using hz
    have hzl : zs.length ≤ 140737488351232 := by
      have := hw (zs.length * prog.bytesOf 5) (by
        rw [hy]
        simp only [DataW.weights, sliceB.ht, lits_len]
        exact List.mem_cons_self ..)
      exact Nat.le_trans (Nat.le_mul_of_pos_right _ bytes_of_B) this
    refine ⟨⟨some a', len', cap'⟩, zs.take len', hcs, ⟨by simp; omega, hl', .inr ⟨a', rfl, fun j v hv => ?_⟩, ints_one⟩, fun x hx => wf_u8 (hwz x (List.mem_of_mem_take hx)), by simp; omega, by show cap' ≤ _; omega⟩
    have hj : j < len' ∧ j < zs.length := by
      have := (List.getElem?_eq_some_iff.1 hv).1
      simp at this; omega
    rw [hcell j hj.2]
    simp only [ints, List.getElem?_map, List.getElem?_take, if_pos hj.1] at hv
    rw [List.getElem?_eq_getElem hj.2] at hv
    rw [List.getD_eq_getElem?_getD, List.getElem?_eq_getElem hj.2]
    exact hv

end Go.Sh

/- What the rows lay of the package-level variables: the tables. -/
set_option linter.unusedVariables false
namespace Go.Sh
open Go.Fw Go.Sha Go.RowKit Go.Proofs.Tryd Go.Deep Go.ChangeShapes Go.WideShapes

def cubesC : List Int := [4794697086780616226, 8158064640168781261, 13096744586834688815, 16840607885511220156, 4131703408338449720, 6480981068601479193, 10538285296894168987, 12329834152419229976, 15566598209576043074, 1334009975649890238, 2608012711638119052, 6128411473006802146, 8268148722764581231, 9286055187155687089, 11230858885718282805, 13951009754708518548, 16472876342353939154, 17275323862435702243, 1135362057144423861, 2597628984639134821, 3308224258029322869, 5365058923640841347, 6679025012923562964, 8573033837759648693, 10970295158949994411, 12119686244451234320, 12683024718118986047, 13788192230050041572, 14330467153632333762, 15395433587784984357, 489312712824947311, 1452737877330783856, 2861767655752347644, 3322285676063803686, 5560940570517711597, 5996557281743188959, 7280758554555802590, 8532644243296465576, 9350256976987008742, 10552545826968843579, 11727347734174303076, 12113106623233404929, 14000437183269869457, 14369950271660146224, 15101387698204529176, 15463397548674623760, 17586052441742319658, 1182934255886127544, 1847814050463011016, 2177327727835720531, 2830643537854262169, 3796741975233480872, 4115178125766777443, 5681478168544905931, 6601373596472566643, 7507060721942968483, 8399075790359081724, 8693463985226723168, 9568029438360202098, 10144078919501101548, 10430055236837252648, 11840083180663258601, 13761210420658862357, 14299343276471374635, 14566680578165727644, 15097957966210449927, 16922976911328602910, 17689382322260857208, 500013540394364858, 748580250866718886, 1242879168328830382, 1977374033974150939, 2944078676154940804, 3659926193048069267, 4368137639120453308, 4836135668995329356, 5532061633213252278, 6448918945643986474, 6902733635092675308, 7801388544844847127]
def squaresS : List Int := [7640891576956012808, 13503953896175478587, 4354685564936845355, 11912009170470909681, 5840696475078001361, 11170449401992604703, 2270897969802886507, 6620516959819538809, 14680500436340154072, 7105036623409894663, 10473403895298186519, 1526699215303891257, 7436329637833083697, 10282925794625328401, 15784041429090275239, 5167115440072839076]

theorem tab_in {P : Program} {w : World} : ∀ {laid : List (String × DataW Unit)} {ps : List MemPlace}, DataW.LaidVars P w laid ps → ∀ {name : String} {k : IntKind} {zs : List Int} {g : Nat} {t e : TypeId} {n : Nat},
    (name, Lib.tabData k zs) ∈ laid → P.globalNamed name = some g → (P.globals[g]?).map (·.type) = some t → P.underlying t = some (.array n e) → P.underlying e = some (.int k) → P.cellsOf e = 1 → P.cellsOf t = n → Lib.TabIs P w name k zs
  | [], _, _, _, _, _, _, _, _, _, hm, _, _, _, _, _, _ => by simp at hm
  | x :: rest, ps, h, name, k, zs, g, t, e, n, hm, hg, hty, ht, he, hce, hct => by
    obtain ⟨g', t', cs, fuel, p, q, hg', ht', hvar, hd, h2, _⟩ := h
    rcases List.mem_cons.1 hm with rfl | hm
    · obtain rfl := Option.some.inj (hg.symm.trans hg')
      obtain rfl := Option.some.inj (hty.symm.trans ht')
      unfold Lib.TabIs
      rw [hvar, ← Lib.cells_of_tab ht he hce hct hd]
    · exact tab_in h2 hm hg hty ht he hce hct

theorem tab_rd {P : Program} {w : World} {name : String} {zs : List Int} {g : Nat} (h : Lib.TabIs P w name .u64 zs) (hg : P.globalNamed name = some g) : Rd w ⟨g, 0, none⟩ (ints .u64 zs) := by
  intro i v hv
  rw [add_lit, Nat.zero_add]
  have hi : i < zs.length := by have := (List.getElem?_eq_some_iff.1 hv).1; simpa using this
  rw [h.cell hg i hi]
  simp only [ints, List.getElem?_map, List.getElem?_eq_getElem hi] at hv
  rw [List.getD_eq_getElem?_getD, List.getElem?_eq_getElem hi]
  exact hv

theorem squares_in : ∀ i, InK .u64 (squaresS.getD i 0) := by
  have h : ∀ x ∈ squaresS, 0 ≤ x ∧ x < 18446744073709551616 := by decide +kernel
  intro i
  rw [List.getD_eq_getElem?_getD]
  cases hx : squaresS[i]? with
  | none => exact ⟨by decide, by decide⟩
  | some x => exact h x (List.mem_of_getElem? hx)

def laid4 : List (String × DataW Unit) := [("coffer/cofferref01.cubes", Lib.tabData .u64 cubesC), ("coffer/cofferref01.squares", Lib.tabData .u64 squaresS), ("coffer/digest.cubes", Lib.tabData .u64 cubesC), ("coffer/digest.squares", Lib.tabData .u64 squaresS)]

theorem tabs4 {w : World} (h : laidMetH prog laid4 w) : TabsR w cubesC squaresS := by
  obtain ⟨ps, h, _⟩ : laidMet prog laid4 w := h
  exact ⟨⟨rfl, rfl, squares_in,
    tab_rd (tab_in h (name := "coffer/digest.cubes") (zs := cubesC) (g := 3) (t := 175) (e := 149) (n := 80) (by simp [laid4]) (by kernel_rfl) (by kernel_rfl) (by kernel_rfl) (by kernel_rfl) (by kernel_rfl) (by kernel_rfl)) (by kernel_rfl),
    tab_rd (tab_in h (name := "coffer/digest.squares") (zs := squaresS) (g := 4) (t := 173) (e := 149) (n := 16) (by simp [laid4]) (by kernel_rfl) (by kernel_rfl) (by kernel_rfl) (by kernel_rfl) (by kernel_rfl) (by kernel_rfl)) (by kernel_rfl)⟩,
    tab_rd (tab_in h (name := "coffer/cofferref01.cubes") (zs := cubesC) (g := 2) (t := 175) (e := 149) (n := 80) (by simp [laid4]) (by kernel_rfl) (by kernel_rfl) (by kernel_rfl) (by kernel_rfl) (by kernel_rfl) (by kernel_rfl)) (by kernel_rfl),
    tab_rd (tab_in h (name := "coffer/cofferref01.squares") (zs := squaresS) (g := 1) (t := 173) (e := 149) (n := 16) (by simp [laid4]) (by kernel_rfl) (by kernel_rfl) (by kernel_rfl) (by kernel_rfl) (by kernel_rfl) (by kernel_rfl)) (by kernel_rfl)⟩

end Go.Sh

/- A row: a secret with its check; the program, the document. -/
set_option linter.unusedVariables false
set_option maxRecDepth 100000
namespace Go.Sh
open Go.Fw Go.Gf Go.Sha Go.RowKit Go.Proofs.Tryd

/-- the digest of a set's number and a secret, as numbers of the field -/
def checkL (C S : List Int) (set : Nat) (sec : List F) : List F := ((digestOf 256 C (firstH S 256) (([b8 (set / 256), b8 set] ++ sec).map bF)).map toF).take 4
def rowP (C S : List Int) (set : Nat) (sec : List F) : List F := sec ++ checkL C S set sec

theorem map_to {D : List Int} (h : ∀ x ∈ D, InK .u8 x) : (D.map toF).map bF = D := by
  rw [List.map_map]
  conv => rhs; rw [← List.map_id D]
  exact List.map_congr_left fun x hx => bF_toF (h x hx)
theorem fb_to {D : List Int} (h : ∀ x ∈ D, InK .u8 x) : fb (D.map toF) = ints .u8 D := by unfold fb; rw [map_to h]
theorem map_in (l : List F) : ∀ x ∈ l.map bF, InK .u8 x := fun x hx => by obtain ⟨a, _, rfl⟩ := List.mem_map.1 hx; exact bF_in a
theorem digest_len256 (C H0 xs : List Int) : (digestOf 256 C H0 xs).length = 32 := by
  unfold digestOf
  rw [List.length_take, outW_len]; rfl
theorem check_len (C S : List Int) (set : Nat) (sec : List F) : (checkL C S set sec).length = 4 := by
  unfold checkL
  rw [List.length_take, List.length_map, digest_len256]; rfl
theorem row_len (C S : List Int) (set : Nat) (sec : List F) : (rowP C S set sec).length = sec.length + 4 := by
  unfold rowP; rw [List.length_append, check_len]

/-- a list of slices that is laid here -/
theorem parts_newF {w w' : World} {g n c : Nat} {ts : List Sl} {xss : List (List Int)} (ho : OwnS 23 w' ⟨some ⟨g, 0, none⟩, n, c⟩ (ts.map slV)) (hne : ts ≠ []) (hl : ts.length = xss.length) (hu : Upd none_ w w') (hg : g < w'.heap.size)
    (hin : ∀ xs ∈ xss, ∀ x ∈ xs, InK .u8 x) (hlen : ∀ xs ∈ xss, xs.length ≤ 140737488351232) (hm : xss.length * 24 ≤ 140737488351232)
    (hs : ∀ i, i < xss.length → Src w (ts.getD i nilS) (ints .u8 (xss.getD i [])) ∧ ∀ q, (ts.getD i nilS).a = some q → xss.getD i [] ≠ [] → q.block < w.heap.size) :
    Parts w' ⟨some ⟨g, 0, none⟩, n, c⟩ xss fun k => k < w'.heap.size := by
  have h0 := ho.1
  have hn : n = xss.length := by rw [List.length_map] at h0; exact (h0.symm.trans hl)
  have hsrc := ho.src (fun v hv => by obtain ⟨x, _, rfl⟩ := List.mem_map.1 hv; rfl)
  refine ⟨hn, ho.cap.1, hin, hlen, hm, .inr ⟨⟨g, 0, none⟩, ts, rfl, hl, hg, ?_, fun i hi => ?_⟩⟩
  · rcases hsrc.rd with ⟨b1, _, _⟩ | ⟨q, b1, b2⟩
    · cases b1
    · obtain rfl := Option.some.inj b1; exact b2
  · obtain ⟨a1, a2⟩ := hs i hi
    exact ⟨a1.upd0 hu, fun q hq hne => ⟨Nat.lt_of_lt_of_le (a2 q hq hne) hu.size, Nat.lt_of_lt_of_le (a2 q hq hne) hu.size⟩⟩

theorem set_hi {s : Nat} : IntKind.u8.wrap (Int.fdiv (s : Int) (2 ^ 8)) = bF (b8 (s / 256)) := by
  have : Int.fdiv (s : Int) (2 ^ 8) = ((s / 256 : Nat) : Int) := fdiv_pow s 8
  rw [this, b8_i64]
theorem set_hiR {s : Nat} (hs : s < 65536) : IntKind.u8.wrap (IntKind.u16.wrap (Int.tdiv (s : Int) 256)) = bF (b8 (s / 256)) := by
  have : Int.tdiv (s : Int) 256 = ((s / 256 : Nat) : Int) := rfl
  have e : IntKind.u16.wrap ((s / 256 : Nat) : Int) = ((s / 256 : Nat) : Int) := by rw [wrap_u16F]; omega
  rw [this, e, b8_i64]
theorem set_loR {s : Nat} : IntKind.u8.wrap (Int.tmod (s : Int) 256) = bF (b8 s) := by
  have : Int.tmod (s : Int) 256 = ((s % 256 : Nat) : Int) := rfl
  rw [this, b8_i64]
  unfold b8 bF
  simp

theorem row_ok {K : Nat} (hK : 18446744073709551616 ≤ K) {w : World} {C S : List Int} (T : Tabs w C S) {set : Nat} {sv : Sl} {sec : List F} (hs : BSrc w sv sec) (hl : sec.length ≤ 1000) :
    ∃ s' w', escrow_row K (set : Int) sv w = some ((s', ()), w') ∧ OwnS 5 w' s' (fb (rowP C S set sec)) ∧ Upd none_ w w' ∧ Fresh w.heap.size s' := by
  obtain ⟨w1, a1, a2, a3, a4⟩ := bldS_ok sliceB (fb [b8 (set / 256), b8 set]) (fun v hv => by obtain ⟨x, _, rfl⟩ := List.mem_map.1 hv; rfl) (by rw [fb_length]; simp) (by rw [fb_length]; simp) w
  have a1 : bldS prog 23 2 #[(0, (.int .u8 (bF (b8 (set / 256))))), (1, (.int .u8 (bF (b8 set))))] w = some (⟨some ⟨w.heap.size, 0, none⟩, 2, 2⟩, w1) := a1
  have a2 : OwnS 5 w1 ⟨some ⟨w.heap.size, 0, none⟩, 2, 2⟩ (fb [b8 (set / 256), b8 set]) := a2
  have hs1 := hs.upd0 a3
  have q1 := a3.size
  obtain ⟨w2, b1, b2, b3, b4⟩ := bldS_ok sliceR ([⟨some ⟨w.heap.size, 0, none⟩, 2, 2⟩, sv].map slV) (fun v hv => by obtain ⟨x, _, rfl⟩ := List.mem_map.1 hv; rfl) (by simp) (by simp) w1
  have b1 : bldS prog 67 2 #[(0, (.slice (some ⟨w.heap.size, 0, none⟩) 2 2)), (1, (.slice sv.a sv.len sv.cap))] w1 = some (⟨some ⟨w1.heap.size, 0, none⟩, 2, 2⟩, w2) := b1
  have hlt := src_ltF hs
  have hp := parts_newF (w := w1) (xss := [[b8 (set / 256), b8 set].map bF, sec.map bF]) b2 (by simp) rfl b3 (by omega) (fun xs hxs => by
      simp only [List.mem_cons, List.not_mem_nil, or_false] at hxs
      rcases hxs with rfl | rfl
      · exact map_in _
      · exact map_in _) (fun xs hxs => by
      simp only [List.mem_cons, List.not_mem_nil, or_false] at hxs
      rcases hxs with rfl | rfl
      · rw [List.length_map]; simp
      · rw [List.length_map]; omega) (by simp) (fun j hj => by
      match j, hj with
      | 0, _ => exact ⟨a2.src ints_one, fun q hq _ => by obtain rfl := Option.some.inj hq; show w.heap.size < _; omega⟩
      | 1, _ => exact ⟨hs1, fun q hq hne => by have := hlt q hq (fun e => hne (by show sec.map bF = []; rw [e]; rfl)); omega⟩)
  have hfl : ([[b8 (set / 256), b8 set].map bF, sec.map bF] : List (List Int)).flatten = ([b8 (set / 256), b8 set] ++ sec).map bF := by simp
  obtain ⟨d, w3, d1, d2, d3⟩ := Sum_ok hK known256 ((T.upd0 a3).upd0 b3) hp (fun _ hk => hk) (by rw [hfl, List.length_map, List.length_append]; show 2 + sec.length ≤ _; omega)
  rw [hfl] at d2
  have d1 : digest_Sum K 256 ⟨some ⟨w1.heap.size, 0, none⟩, 2, 2⟩ w2 = some ((d, 0, ()), w3) := d1
  have hdl : d.len = 32 := by rw [d2.src.len, ints_length, digest_len256]
  have hdc := d2.src.cap
  have u3 := (a3.and0 b3).and0 d3
  have ud : Upd none_ w w3.drew := u3.drew
  obtain ⟨s4, w4, e1, e2, e3, e4⟩ := clone_ok K (hs.upd0 ud) (by omega)
  have h4l := e2.len
  rw [fb_length] at h4l
  have hsd : Src w4 ⟨sla d.a 0 d.cap 1, 4 - 0, d.cap - 0⟩ (fb (checkL C S set sec)) := by
    have h := ((d2.src.cut (n := 4) (by omega)).upd0 (Upd.refl none_ w3).drew).upd0 e3
    rw [← fb_to (digestOf_in 256 C _ _), fb_take] at h
    rw [sla_zero, Nat.sub_zero, Nat.sub_zero]; exact h
  obtain ⟨s5, w5, f1, f2, f3, f4, f5⟩ := apd_ok sliceB e2 hsd (by show (s4.len + (4 - 0)) * 1 ≤ _; omega)
  rw [← fb_append] at f3
  have q3 : w.heap.size ≤ w3.drew.heap.size := u3.size
  have q4 := e3.size
  have cc : (0 : Int) ≤ 4 ∧ (4 : Int) ≤ ((d.cap : Nat) : Int) := by omega
  refine ⟨s5, w5, ?_, f3, (ud.and0 e3).trans' f4 fun k hk e => by have := e4 k e; omega, fun k hk => ?_⟩
  · unfold escrow_row
    rw [set_hi, b8_i64, a1, bnd_ok]
    dsimp only
    rw [b1, bnd_ok, d1, bnd_ok, if_pos cc, e1, bnd_ok, f1, bnd_ok]
  · rcases f5 with e | e
    · rw [e] at hk; have := e4 k hk; omega
    · rw [e] at hk; have e2 : w4.heap.size = k := Option.some.inj hk; omega

theorem rRow_ok {K : Nat} (hK : 18446744073709551616 ≤ K) {w : World} {C S : List Int} (T : TabsR w C S) {set : Nat} (hset : set < 65536) {sv : Sl} {sec : List F} (hs : BSrc w sv sec) (hl : sec.length ≤ 1000) :
    ∃ s' w', ref11_Row K (set : Int) sv w = some ((s', ()), w') ∧ OwnS 5 w' s' (fb (rowP C S set sec)) ∧ Upd none_ w w' ∧ Fresh w.heap.size s' := by
  have hsl : sv.len = sec.length := by rw [hs.len, fb_length]
  obtain ⟨w1, a1, a2, a3, a4⟩ := bldS_ok sliceB (fb [b8 (set / 256), b8 set]) (fun v hv => by obtain ⟨x, _, rfl⟩ := List.mem_map.1 hv; rfl) (by rw [fb_length]; simp) (by rw [fb_length]; simp) w
  have a1 : bldS prog 23 2 #[(0, (.int .u8 (bF (b8 (set / 256))))), (1, (.int .u8 (bF (b8 set))))] w = some (⟨some ⟨w.heap.size, 0, none⟩, 2, 2⟩, w1) := a1
  have a2 : OwnS 5 w1 ⟨some ⟨w.heap.size, 0, none⟩, 2, 2⟩ (fb [b8 (set / 256), b8 set]) := a2
  have q1 := a3.size
  obtain ⟨s2, w2, b1, b2, b3, b4, b5⟩ := apd_ok sliceB a2 (hs.upd0 a3) (by show (2 + sv.len) * 1 ≤ _; omega)
  rw [← fb_append] at b3
  have u2 : Upd none_ w w2 := a3.trans' b4 fun j hj e => by have e2 : w.heap.size = j := Option.some.inj e; omega
  obtain ⟨d, w3, d1, d2, d3, d4⟩ := refSum_ok hK (T.upd0 u2) (h := 256) (b3.src ints_one) (map_in _) (by rw [List.length_map, List.length_append]; show 2 + sec.length ≤ _; omega)
  have hsum : sumOf C S 256 (([b8 (set / 256), b8 set] ++ sec).map bF) = digestOf 256 C (firstH S 256) (([b8 (set / 256), b8 set] ++ sec).map bF) := by unfold sumOf; rw [if_pos known256]
  rw [hsum] at d2
  have hdl : d.len = 32 := by rw [d2.len, ints_length, digest_len256]
  have hdc := d2.cap.1
  have u3 := u2.and0 d3
  obtain ⟨s4, w4, e1, e2, e3, e4, e5⟩ := apd_ok sliceB (OwnS.nil 5 w3) (hs.upd0 u3) (by show (0 + sv.len) * 1 ≤ _; omega)
  have e3 : OwnS 5 w4 s4 (fb sec) := e3
  have e4 : Upd none_ w3 w4 := e4.mono fun k _ e => by cases e
  have hf4 : ∀ k, s4.blk = some k → w3.heap.size ≤ k := fun k hk => by
    rcases e5 with e | e
    · rw [e] at hk; cases hk
    · rw [e] at hk; have e2 : w3.heap.size = k := Option.some.inj hk; omega
  have h4l := e3.len
  rw [fb_length] at h4l
  have hsd : Src w4 ⟨sla d.a 0 d.cap 1, 4 - 0, d.cap - 0⟩ (fb (checkL C S set sec)) := by
    have h := (((d2.src ints_one).cut (n := 4) (by omega))).upd0 e4
    rw [← fb_to (digestOf_in 256 C _ _), fb_take] at h
    rw [sla_zero, Nat.sub_zero, Nat.sub_zero]; exact h
  obtain ⟨s5, w5, f1, f2, f3, f4, f5⟩ := apd_ok sliceB e3 hsd (by show (s4.len + (4 - 0)) * 1 ≤ _; omega)
  rw [← fb_append] at f3
  have q3 := u3.size
  have q4 := e4.size
  have cc : (0 : Int) ≤ 4 ∧ (4 : Int) ≤ ((d.cap : Nat) : Int) := by omega
  refine ⟨s5, w5, ?_, f3, (u3.and0 e4).trans' f4 fun k hk e => by have := hf4 k e; omega, fun k hk => ?_⟩
  · unfold ref11_Row
    rw [set_hiR hset, set_loR, a1, bnd_ok]
    dsimp only
    rw [b1, bnd_ok, d1, bnd_ok, e1, bnd_ok, if_pos cc, f1, bnd_ok]
  · rcases f5 with e | e
    · rw [e] at hk; have := hf4 k hk; omega
    · rw [e] at hk; have e2 : w4.heap.size = k := Option.some.inj hk; omega

end Go.Sh

/- Lines: a row's polynomials as closures; what they give at a place. -/
set_option linter.unusedVariables false
set_option maxRecDepth 100000
namespace Go.Sh
open Go.Fw Go.Gf Go.RowKit Go.Proofs.Tryd

theorem sliceL : OneSlice prog 96 98 .nilFunc 8 := ⟨by kernel_rfl, ⟨t98, by kernel_rfl, by kernel_rfl, by kernel_rfl, by kernel_rfl⟩, by decide, rfl, rfl⟩

def lnV (g : Nat) : Value := .func (.func 81) #[] #[.pointer (some ⟨g, 0, none⟩)]
def LineAt (P : Nat → Prop) (w : World) (v : Value) (l : List F) : Prop := ∃ g s, v = lnV g ∧ P g ∧ Bk 23 w g [slF s] ∧ BSrc w s l ∧ ∀ q, s.a = some q → P q.block
theorem LineAt.upd {P Q X : Nat → Prop} {w w' : World} {v : Value} {l : List F} (h : LineAt P w v l) (u : Upd X w w') (hn : ∀ k, P k → ¬ X k) (hq : ∀ k, P k → Q k) : LineAt Q w' v l := by
  obtain ⟨g, s, a, b, c, d, e⟩ := h
  exact ⟨g, s, a, hq g b, c.upd u (hn g b), Fw.Src.upd d u fun q hq => hn _ (e q hq), fun q hx => hq _ (e q hx)⟩
theorem LineAt.upd0 {P : Nat → Prop} {w w' : World} {v : Value} {l : List F} (h : LineAt P w v l) (u : Upd none_ w w') : LineAt P w' v l := h.upd u (fun _ _ => id) fun _ => id

theorem thr_loop {K : Nat} (hK : 300 ≤ K) {g : Nat} {s : Sl} {l : List F} (hl : l.length ≤ 100000) (x : F) :
    ∀ (i m : Nat) (w : World), i ≤ l.length → i < m → Bk 23 w g [slF s] → BSrc w s l →
      ∃ w', escrow_through_1_l0 K m (bF x) (some ⟨g, 0, none⟩) (bF (ev (l.drop i) x)) ((i : Int) - 1) w = some ((bF (ev l x), ()), w') ∧ Upd none_ w w' := by
  intro i
  induction i with
  | zero =>
    intro m w hi hm hb hs
    obtain ⟨m, rfl⟩ : ∃ q, m = q + 1 := ⟨m - 1, by omega⟩
    refine ⟨w, ?_, Upd.refl _ _⟩
    show escrow_through_1_l0_b K (escrow_through_1_l0 K m) (bF x) (some ⟨g, 0, none⟩) (bF (ev (l.drop 0) x)) (((0 : Nat) : Int) - 1) w = _
    unfold escrow_through_1_l0_b
    rw [if_neg (by decide), List.drop_zero]
  | succ i ih =>
    intro m w hi hm hb hs
    obtain ⟨m, rfl⟩ : ∃ q, m = q + 1 := ⟨m - 1, by omega⟩
    have hsl : s.len = l.length := by rw [hs.len, fb_length]
    have ud := (Upd.refl none_ w).drew
    obtain ⟨p, p1, p2⟩ := src_cell (hs.upd0 ud) (i := i) (by omega)
    have hld : ldS ⟨g, 0, none⟩ w.drew = some s := (hb.upd0 ud).ldS (i := 0) (a := s.a) (l := s.len) (c := s.cap) rfl
    obtain ⟨w', k1, k2⟩ := ih m w.drew (by omega) (by omega) (hb.upd0 ud) (hs.upd0 ud)
    have e0 : ((i + 1 : Nat) : Int) - 1 = (i : Int) := by omega
    have e1 : IntKind.i64.wrap ((i : Int) - 1) = (i : Int) - 1 := w64 (by omega) (by omega)
    have ee : ev (l.drop (i + 1)) x * x + l[i]'(by omega) = ev (l.drop i) x := by
      rw [List.drop_eq_getElem_cons (show i < l.length by omega), ev_cons, F.add_comm, F.mul_comm]
    have c1 : (0 : Int) ≤ (i : Int) ∧ (i : Int) < ((s.len : Nat) : Int) := by omega
    refine ⟨w', ?_, k2.predrew⟩
    show escrow_through_1_l0_b K (escrow_through_1_l0 K m) (bF x) (some ⟨g, 0, none⟩) (bF (ev (l.drop (i + 1)) x)) (((i + 1 : Nat) : Int) - 1) w = _
    unfold escrow_through_1_l0_b
    rw [e0, if_pos (decide_eq_true (show (i : Int) ≥ 0 by omega)), tm hK, Option.bind_some, Option.bind_some, hld, Option.bind_some, p1, Option.bind_some, if_pos c1, Int.toNat_natCast, Nat.mul_one, p2, Option.bind_some, addF, ee, e1]
    exact k1

theorem dyn_line {β : Type} {K : Nat} (hK : 18446744073709551616 ≤ K) {P : Nat → Prop} {w : World} {v : Value} {l : List F} (h : LineAt P w v l) (hl : l.length ≤ 100000) (x : F) :
    ∃ w', (∀ k : Value → World → Option β, dyn (tab (escrow_at_E K)) v [.int .u8 (bF x)] w k = k (.int .u8 (bF (ev l x))) w') ∧ Upd none_ w w' := by
  obtain ⟨g, s, rfl, _, hb, hs, _⟩ := h
  have hsl : s.len = l.length := by rw [hs.len, fb_length]
  have hld : ldS ⟨g, 0, none⟩ w = some s := hb.ldS (i := 0) (a := s.a) (l := s.len) (c := s.cap) rfl
  obtain ⟨w', k1, k2⟩ := thr_loop (K := K) (by omega) hl x l.length K w (Nat.le_refl _) (by omega) hb hs
  rw [List.drop_length] at k1
  have k1 : escrow_through_1_l0 K K (bF x) (some ⟨g, 0, none⟩) 0 ((l.length : Int) - 1) w = _ := k1
  have hc : escrow_through_1 K (bF x) (some ⟨g, 0, none⟩) w = some ((bF (ev l x), ()), w') := by
    unfold escrow_through_1
    rw [Option.bind_some, hld, Option.bind_some, hsl, w64 (by omega) (by omega), k1, bnd_ok]
  refine ⟨w', fun k => ?_, k2⟩
  have e : ∀ (y : Int) (p : Option Addr), dyn (tab (escrow_at_E K)) (.func (.func 81) #[] #[.pointer p]) [.int .u8 y] w k = bnd (escrow_through_1 K y p w) fun r w2 => k (.int .u8 r.1) w2 := fun _ _ => rfl
  show dyn (tab (escrow_at_E K)) (.func (.func 81) #[] #[.pointer (some ⟨g, 0, none⟩)]) [.int .u8 (bF x)] w k = _
  rw [e, hc, bnd_ok]

/-- lines -/
def LinesAt (P : Nat → Prop) (w : World) (s : Sl) (rows : List (List F)) : Prop :=
  ∃ vs, Src w s vs ∧ vs.length = rows.length ∧ (∀ q, s.a = some q → P q.block) ∧ ∀ i, i < rows.length → LineAt P w (vs.getD i .nilFunc) (rows.getD i [])
theorem LinesAt.upd {P X : Nat → Prop} {w w' : World} {s : Sl} {rows : List (List F)} (h : LinesAt P w s rows) (u : Upd X w w') (hn : ∀ k, P k → ¬ X k) : LinesAt P w' s rows := by
  obtain ⟨vs, a, b, c, d⟩ := h
  exact ⟨vs, Fw.Src.upd a u fun q hq => hn _ (c q hq), b, c, fun i hi => (d i hi).upd u hn fun _ => id⟩
theorem LinesAt.upd0 {P : Nat → Prop} {w w' : World} {s : Sl} {rows : List (List F)} (h : LinesAt P w s rows) (u : Upd none_ w w') : LinesAt P w' s rows := h.upd u fun _ _ => id
theorem LinesAt.len {P : Nat → Prop} {w : World} {s : Sl} {rows : List (List F)} (h : LinesAt P w s rows) : s.len = rows.length := by
  obtain ⟨vs, a, b, c, d⟩ := h
  rw [a.len, b]
theorem LinesAt.ld {P : Nat → Prop} {w : World} {s : Sl} {rows : List (List F)} (h : LinesAt P w s rows) {i : Nat} (hi : i < rows.length) : ∃ p v, s.a = some p ∧ ldV (p.add i) w = some v ∧ LineAt P w v (rows.getD i []) := by
  obtain ⟨vs, a, b, c, d⟩ := h
  rcases a.rd with ⟨_, _, e⟩ | ⟨p, e1, e2⟩
  · rw [e] at b; have b : 0 = rows.length := b; omega
  · refine ⟨p, vs.getD i .nilFunc, e1, ?_, d i hi⟩
    have hv : vs[i]? = some (vs.getD i .nilFunc) := by
      rw [List.getD_eq_getElem?_getD, List.getElem?_eq_getElem (by omega)]; rfl
    exact e2 i _ hv

/-- what the lines give at a place -/
def valsAt (rows : List (List F)) (x : F) : List F := rows.map fun c => ev c x
theorem valsAt_length (rows : List (List F)) (x : F) : (valsAt rows x).length = rows.length := List.length_map ..

theorem at_loop {K : Nat} (hK : 18446744073709551616 ≤ K) {P : Nat → Prop} {ls : Sl} {rows : List (List F)} (hr : rows.length ≤ 1000000) (hc : ∀ c ∈ rows, c.length ≤ 100000) {x : Nat} {B : Nat} (hP : ∀ k, P k → k < B) :
    ∀ (d i m : Nat) (w : World) (s : Sl), i + d = rows.length → d < m → B ≤ w.heap.size → LinesAt P w ls rows → OwnS 5 w s (fb (valsAt (rows.take i) (b8 x))) → (∀ k, s.blk = some k → B ≤ k) →
      ∃ s' w', escrow_at_l0 K m (x : Int) s ls ((rows.length : Nat) : Int) (i : Int) w = some ((s', ()), w') ∧ OwnS 5 w' s' (fb (valsAt rows (b8 x))) ∧ Upd (fun k => s.blk = some k) w w' ∧ ∀ k, s'.blk = some k → s.blk = some k ∨ w.heap.size ≤ k := by
  intro d
  induction d with
  | zero =>
    intro i m w s hi hm hB hL ho hs
    obtain ⟨m, rfl⟩ : ∃ q, m = q + 1 := ⟨m - 1, by omega⟩
    rw [List.take_of_length_le (by omega)] at ho
    refine ⟨s, w, ?_, ho, Upd.refl _ _, fun k hk => .inl hk⟩
    show escrow_at_l0_b K (escrow_at_l0 K m) (x : Int) s ls ((rows.length : Nat) : Int) (i : Int) w = _
    unfold escrow_at_l0_b
    rw [if_neg (by simp only [decide_eq_true_eq]; omega)]
  | succ d ih =>
    intro i m w s hi hm hB hL ho hs
    obtain ⟨m, rfl⟩ : ∃ q, m = q + 1 := ⟨m - 1, by omega⟩
    have hil : i < rows.length := by omega
    have hlen := hL.len
    have e3 : IntKind.i64.wrap ((i : Int) + 1) = ((i + 1 : Nat) : Int) := by rw [w64 (by omega) (by omega)]; rfl
    obtain ⟨p, v, p1, p2, p3⟩ := hL.ld hil
    have hcl : (rows.getD i []).length ≤ 100000 := by
      rw [List.getD_eq_getElem?_getD, List.getElem?_eq_getElem hil]
      exact hc _ (List.getElem_mem hil)
    obtain ⟨w1, q1, q2⟩ := dyn_line (β := (Sl × Unit) × World) hK p3 hcl (b8 x)
    obtain ⟨w2, s2, w3, a1, a2, a3, a4, a5⟩ := push_fb (ho.upd0 q2) (by rw [valsAt_length, List.length_take]; omega) (ev (rows.getD i []) (b8 x))
    have et : valsAt (rows.take i) (b8 x) ++ [ev (rows.getD i []) (b8 x)] = valsAt (rows.take (i + 1)) (b8 x) := by
      rw [List.take_succ_eq_append_getElem hil, List.getD_eq_getElem?_getD, List.getElem?_eq_getElem hil]
      unfold valsAt
      rw [List.map_append]; rfl
    rw [et] at a3
    have u := (q2.mono (T := fun k => s.blk = some k) fun _ _ e => e.elim).trans' a4 fun _ _ e => e
    have z1 := q2.size
    have z2 := u.size
    obtain ⟨s4, w4, b1, b2, b3, b4⟩ := ih (i + 1) m w3 s2 (by omega) (by omega) (by omega) (hL.upd u fun k hk e => by have := hP k hk; have := hs k e; omega) a3 (fun k hk => (a5 k hk).elim (hs k) fun e => by omega)
    have c1 : (0 : Int) ≤ (i : Int) ∧ (i : Int) < ((ls.len : Nat) : Int) := by omega
    refine ⟨s4, w4, ?_, b2, u.trans' b3 (fun k hk e => (a5 k e).elim id fun e2 => absurd hk (by omega)), fun k hk => (b4 k hk).elim (fun e => (a5 k e).imp id fun e2 => by omega) fun e => .inr (by omega)⟩
    show escrow_at_l0_b K (escrow_at_l0 K m) (x : Int) s ls ((rows.length : Nat) : Int) (i : Int) w = _
    unfold escrow_at_l0_b
    rw [if_pos (decide_eq_true (show (i : Int) < ((rows.length : Nat) : Int) by omega)), p1, Option.bind_some, if_pos c1, Int.toNat_natCast, Nat.mul_one, p2, Option.bind_some, b8_i64, q1, asI_int, Option.bind_some, a1, bnd_ok]
    dsimp only
    rw [a2, bnd_ok, e3]
    exact b1

theorem at_ok {K : Nat} (hK : 18446744073709551616 ≤ K) {P : Nat → Prop} {ls : Sl} {rows : List (List F)} (hr : rows.length ≤ 1000000) (hc : ∀ c ∈ rows, c.length ≤ 100000) (x : Nat) {w : World} (hP : ∀ k, P k → k < w.heap.size) (hL : LinesAt P w ls rows) :
    ∃ s' w', escrow_at K ls (x : Int) w = some ((s', ()), w') ∧ OwnS 5 w' s' (fb (valsAt rows (b8 x))) ∧ Upd none_ w w' ∧ Fresh w.heap.size s' := by
  have hlen := hL.len
  obtain ⟨s', w', a1, a2, a3, a4⟩ := at_loop hK hr hc (x := x) hP rows.length 0 K w ⟨none, 0, 0⟩ (by omega) (by omega) (Nat.le_refl _) hL (OwnS.nil _ _) (fun k hk => by cases hk)
  have a1 : escrow_at_l0 K K (x : Int) ⟨none, 0, 0⟩ ls ((rows.length : Nat) : Int) 0 w = _ := a1
  refine ⟨s', w', ?_, a2, a3.mono (fun j _ e => by cases e), fun j hj => (a4 j hj).elim (fun e => by cases e) id⟩
  unfold escrow_at
  rw [hlen, a1, bnd_ok]

end Go.Sh

/- The program's Deal: its loops. -/
set_option linter.unusedVariables false
set_option maxRecDepth 100000
namespace Go.Sh
open Go.Fw Go.Gf Go.RowKit Go.Proofs.Tryd

def colL (R : List F) (n i k : Nat) : List F := (List.range k).map fun j => R.getD (j * n + i) 0
def lineC (row R : List F) (need i : Nat) : List F := row.getD i 0 :: colL R row.length i (need - 1)
def linesC (row R : List F) (need : Nat) : List (List F) := (List.range row.length).map (lineC row R need)
def dealN (set need size : Nat) (rows : List (List F)) (x : Nat) : List ByteArray := (List.range x).map fun i => textOf (lineL set need (i + 1) size (valsAt rows (b8 (i + 1))))
theorem colL_succ (R : List F) (n i k : Nat) : colL R n i (k + 1) = colL R n i k ++ [R.getD (k * n + i) 0] := by simp [colL, List.range_succ]
theorem colL_length (R : List F) (n i k : Nat) : (colL R n i k).length = k := by simp [colL]
theorem dealN_succ (set need size : Nat) (rows : List (List F)) (x : Nat) : dealN set need size rows (x + 1) = dealN set need size rows x ++ [textOf (lineL set need (x + 1) size (valsAt rows (b8 (x + 1))))] := by simp [dealN, List.range_succ]
theorem dealN_length (set need size : Nat) (rows : List (List F)) (x : Nat) : (dealN set need size rows x).length = x := by simp [dealN]
theorem linesC_length (row R : List F) (need : Nat) : (linesC row R need).length = row.length := by simp [linesC]
theorem linesC_get (row R : List F) (need i : Nat) (hi : i < row.length) : (linesC row R need).getD i [] = lineC row R need i := by
  unfold linesC
  rw [List.getD_eq_getElem?_getD, List.getElem?_map, List.getElem?_range hi]; rfl
theorem linesC_len (row R : List F) (need : Nat) : ∀ c ∈ linesC row R need, c.length = need - 1 + 1 := fun c hc => by
  unfold linesC at hc
  obtain ⟨i, _, rfl⟩ := List.mem_map.1 hc
  unfold lineC
  rw [List.length_cons, colL_length]

theorem col_idx {j c n i : Nat} (hj : j < c) (hi : i < n) : j * n + i < c * n := by
  have : (j + 1) * n ≤ c * n := Nat.mul_le_mul_right n hj
  rw [Nat.add_mul, Nat.one_mul] at this
  omega

theorem deal_l1 {K : Nat} {set need count a39 a40 : Int} {sec rnd t13 lines a38 : Sl} {R : List F} {n i c B : Nat} {t : F} (hi : i < n) (hR : R.length = c * n) (hsm : R.length ≤ 1000000) (hc : c ≤ 100) (ht : t13.len = n) (hrb : ∀ q, rnd.a = some q → R ≠ [] → q.block < B) :
    ∀ (d j m : Nat) (w : World) (s : Sl), j + d = c → d < m → B ≤ w.heap.size → BSrc w rnd R → OwnS 5 w s (fb (t :: colL R n i j)) → (∀ k, s.blk = some k → B ≤ k) →
      ∃ s' w', escrow_Deal_l1 K m set sec need count rnd t13 lines (i : Int) s a38 a39 a40 (c : Int) (j : Int) w = some ((s', ()), w') ∧ OwnS 5 w' s' (fb (t :: colL R n i c)) ∧ Upd (fun k => s.blk = some k) w w' ∧ ∀ k, s'.blk = some k → s.blk = some k ∨ w.heap.size ≤ k := by
  intro d
  induction d with
  | zero =>
    intro j m w s hj hm hB hr ho hs
    obtain ⟨m, rfl⟩ : ∃ q, m = q + 1 := ⟨m - 1, by omega⟩
    obtain rfl : j = c := by omega
    refine ⟨s, w, ?_, ho, Upd.refl _ _, fun k hk => .inl hk⟩
    show escrow_Deal_l1_b K (escrow_Deal_l1 K m) set sec need count rnd t13 lines (i : Int) s a38 a39 a40 (j : Int) (j : Int) w = _
    unfold escrow_Deal_l1_b
    rw [if_neg (by simp)]
  | succ d ih =>
    intro j m w s hj hm hB hr ho hs
    obtain ⟨m, rfl⟩ : ∃ q, m = q + 1 := ⟨m - 1, by omega⟩
    have hrl : rnd.len = R.length := by rw [hr.len, fb_length]
    have e3 : IntKind.i64.wrap ((j : Int) + 1) = ((j + 1 : Nat) : Int) := by rw [w64 (by omega) (by omega)]; rfl
    have hx := col_idx (j := j) (c := c) (by omega) hi
    obtain ⟨x, hxe⟩ : ∃ x, x = j * n := ⟨_, rfl⟩
    have e4 : IntKind.i64.wrap ((j : Int) * ((t13.len : Nat) : Int)) = (x : Int) := by rw [ht, ← Int.natCast_mul, ← hxe, w64 (by omega) (by omega)]
    have e5 : IntKind.i64.wrap ((x : Int) + (i : Int)) = ((x + i : Nat) : Int) := by rw [w64 (by omega) (by omega)]; rfl
    rw [← hxe] at hx
    have hxR : x + i < R.length := by omega
    obtain ⟨p, p1, p2⟩ := src_cell hr hxR
    have hgd : R[x + i] = R.getD (j * n + i) 0 := by rw [← hxe, List.getD_eq_getElem?_getD, List.getElem?_eq_getElem hxR]; rfl
    rw [hgd] at p2
    obtain ⟨w1, s2, w2, a1, a2, a3, a4, a5⟩ := push_fb ho (by rw [List.length_cons, colL_length]; omega) (R.getD (j * n + i) 0)
    rw [List.cons_append, ← colL_succ] at a3
    have z := a4.size
    obtain ⟨s3, w3, b1, b2, b3, b4⟩ := ih (j + 1) m w2 s2 (by omega) (by omega) (by omega) (src_updF hr a4 fun q hq hne e => by have := hrb q hq hne; have := hs _ e; omega) a3 (fun k hk => (a5 k hk).elim (hs k) fun e => by omega)
    have c1 : (0 : Int) ≤ ((x + i : Nat) : Int) ∧ ((x + i : Nat) : Int) < ((rnd.len : Nat) : Int) := by omega
    refine ⟨s3, w3, ?_, b2, a4.trans' b3 (fun k hk e => (a5 k e).elim id fun e2 => absurd hk (by omega)), fun k hk => (b4 k hk).elim (a5 k) fun e => .inr (by omega)⟩
    show escrow_Deal_l1_b K (escrow_Deal_l1 K m) set sec need count rnd t13 lines (i : Int) s a38 a39 a40 (c : Int) (j : Int) w = _
    unfold escrow_Deal_l1_b
    rw [if_pos (decide_eq_true (show (j : Int) < (c : Int) by omega)), p1, Option.bind_some, e4, e5, if_pos c1, Int.toNat_natCast, Nat.mul_one, p2, Option.bind_some, a1, bnd_ok]
    dsimp only
    rw [a2, bnd_ok, e3]
    exact b1

theorem push_ln {w : World} {s : Sl} {vs : List Value} (ho : OwnS 98 w s vs) (hl : vs.length ≤ 1000000) (g : Nat) :
    ∃ w1 s' w', bldS prog 96 1 #[(0, lnV g)] w = some (⟨some ⟨w.heap.size, 0, none⟩, 1, 1⟩, w1) ∧ apd prog 96 96 (.slice s.a s.len s.cap) (.slice (some ⟨w.heap.size, 0, none⟩) 1 1) w1 = some (s', w') ∧ OwnS 98 w' s' (vs ++ [lnV g]) ∧ Upd (fun k => s.blk = some k) w w' ∧ ∀ k, s'.blk = some k → s.blk = some k ∨ w.heap.size ≤ k := by
  obtain ⟨w1, a1, a2, a3, a4⟩ := bldS1_ok sliceL (lnV g) rfl w
  have hpl := ho.len
  obtain ⟨s2, w2, b1, b2, b3, b4, b5⟩ := apd_ok sliceL (ho.upd0 a3) (a2.src fun v hv => by rw [List.mem_singleton.1 hv]; rfl) (by show (s.len + 1) * 8 ≤ _; omega)
  have q1 := a3.size
  refine ⟨w1, s2, w2, a1, b1, b3, (a3.mono (T := fun k => s.blk = some k) fun _ _ e => e.elim).trans' b4 fun _ _ e => e, fun k hk => ?_⟩
  rcases b5 with e | e
  · rw [e] at hk; exact .inl hk
  · rw [e] at hk; have e2 : w1.heap.size = k := Option.some.inj hk; exact .inr (by omega)

theorem deal_l0 {K : Nat} (hK : 18446744073709551616 ≤ K) {set count : Int} {sec rnd rs : Sl} {row R : List F} {need B : Nat} (hn1 : 1 ≤ need) (hn : need ≤ 16) (hR : R.length = (need - 1) * row.length) (hsm : row.length ≤ 1000) (hrb : ∀ q, rnd.a = some q → R ≠ [] → q.block < B) (hsb : ∀ q, rs.a = some q → row ≠ [] → q.block < B) :
    ∀ (d i m : Nat) (w : World) (ls : Sl) (vs : List Value), i + d = row.length → d < m → B ≤ w.heap.size → BSrc w rnd R → BSrc w rs row → OwnS 98 w ls vs → vs.length = i → (∀ k, ls.blk = some k → B ≤ k) →
      (∀ j, j < i → LineAt (fun k => B ≤ k ∧ ls.blk ≠ some k ∧ k < w.heap.size) w (vs.getD j .nilFunc) (lineC row R need j)) →
      ∃ ls' w', escrow_Deal_l0 K m set sec (need : Int) count rnd rs ls rs ((row.length : Nat) : Int) (i : Int) w = some ((ls', ()), w') ∧ LinesAt (fun k => B ≤ k ∧ k < w'.heap.size) w' ls' (linesC row R need) ∧ Upd (fun k => ls.blk = some k) w w' := by
  have hRs : R.length ≤ 15 * 1000 := by rw [hR]; exact Nat.mul_le_mul (by omega) hsm
  intro d
  induction d with
  | zero =>
    intro i m w ls vs hi hm hB hr hw ho hv hb hL
    obtain ⟨m, rfl⟩ : ∃ q, m = q + 1 := ⟨m - 1, by omega⟩
    refine ⟨ls, w, ?_, ⟨vs, ho.src fun v hv2 => ?_, by rw [linesC_length]; omega, fun q hq => ⟨hb _ (by simp [Sl.blk, hq]), own_lt ho q hq⟩, fun j hj => ?_⟩, Upd.refl _ _⟩
    · show escrow_Deal_l0_b K (escrow_Deal_l0 K m) set sec (need : Int) count rnd rs ls rs ((row.length : Nat) : Int) (i : Int) w = _
      unfold escrow_Deal_l0_b
      rw [if_neg (by simp only [decide_eq_true_eq]; omega)]
    · obtain ⟨j, hj, rfl⟩ := List.mem_iff_getElem.1 hv2
      obtain ⟨g, s, e, _⟩ := hL j (by omega)
      rw [List.getD_eq_getElem?_getD, List.getElem?_eq_getElem hj] at e
      have e : vs[j] = lnV g := e
      rw [e]; rfl
    · rw [linesC_length] at hj
      rw [linesC_get _ _ _ _ hj]
      exact (hL j (by omega)).upd (Upd.refl none_ w) (fun _ _ => id) fun k hk => ⟨hk.1, hk.2.2⟩
  | succ d ih =>
    intro i m w ls vs hi hm hB hr hw ho hv hb hL
    obtain ⟨m, rfl⟩ : ∃ q, m = q + 1 := ⟨m - 1, by omega⟩
    have hil : i < row.length := by omega
    have hsl : rs.len = row.length := by rw [hw.len, fb_length]
    have e3 : IntKind.i64.wrap ((i : Int) + 1) = ((i + 1 : Nat) : Int) := by rw [w64 (by omega) (by omega)]; rfl
    have e4 : IntKind.i64.wrap ((need : Int) - 1) = ((need - 1 : Nat) : Int) := by rw [w64 (by omega) (by omega)]; omega
    obtain ⟨p, p1, p2⟩ := src_cell hw hil
    have hgd : row[i] = row.getD i 0 := by rw [List.getD_eq_getElem?_getD, List.getElem?_eq_getElem hil]; rfl
    rw [hgd] at p2
    obtain ⟨w1, a1, a2, a3, a4⟩ := bldS1_ok sliceB (.int .u8 (bF (row.getD i 0))) rfl w
    have a2 : OwnS 5 w1 ⟨some ⟨w.heap.size, 0, none⟩, 1, 1⟩ (fb (row.getD i 0 :: colL R row.length i 0)) := a2
    have z1 := a3.size
    obtain ⟨s2, w2, b1, b2, b3, b4⟩ := deal_l1 (K := K) (set := set) (need := (need : Int)) (count := count) (a39 := ((row.length : Nat) : Int)) (a40 := (i : Int)) (sec := sec) (t13 := rs) (lines := ls) (a38 := rs) (t := row.getD i 0) hil hR (by omega) (by omega) hsl hrb (need - 1) 0 K w1 _ (by omega) (by omega) (by omega) (hr.upd0 a3) a2 (fun k hk => by have e : w.heap.size = k := Option.some.inj hk; omega)
    have hs2 : ∀ k, s2.blk = some k → w.heap.size ≤ k := fun k hk => (b4 k hk).elim (fun e => by have e : w.heap.size = k := Option.some.inj e; omega) fun e => by omega
    have u2 : Upd none_ w w2 := a3.trans' b3 fun k hk e => by have e : w.heap.size = k := Option.some.inj e; omega
    have z2 := b3.size
    obtain ⟨w3, c1, c2, c3, c4⟩ := newB_ok #[slF s2] 23 w2
    have c2 : Bk 23 w3 w2.heap.size [slF s2] := c2
    have z3 := c3.size
    have u3 : Upd none_ w w3 := u2.and0 c3
    have hth : escrow_through s2 w2 = some ((lnV w2.heap.size, ()), w3) := by
      unfold escrow_through
      have c1 : newB #[(.slice s2.a s2.len s2.cap)] 23 w2 = _ := c1
      rw [c1, bnd_ok]; rfl
    obtain ⟨w4, s5, w5, d1, d2, d3, d4, d5⟩ := push_ln (ho.upd0 u3) (by omega) w2.heap.size
    have z5 := d4.size
    have u5 : Upd (fun k => ls.blk = some k) w w5 := (u3.mono (T := fun k => ls.blk = some k) fun _ _ e => e.elim).trans' d4 fun _ _ e => e
    have hnew : ∀ k, w.heap.size ≤ k → k < w3.heap.size → s5.blk ≠ some k := fun k h1 h2 e => (d5 k e).elim (fun e => by have := ho.lt e; omega) fun e => by omega
    have hold : ∀ k, k < w.heap.size → ls.blk ≠ some k → s5.blk ≠ some k := fun k h1 h2 e => (d5 k e).elim h2 fun e => by omega
    have hline : LineAt (fun k => B ≤ k ∧ s5.blk ≠ some k ∧ k < w5.heap.size) w5 (lnV w2.heap.size) (lineC row R need i) := by
      have hx : LineAt (fun k => w.heap.size ≤ k ∧ k < w3.heap.size) w3 (lnV w2.heap.size) (lineC row R need i) :=
        ⟨w2.heap.size, s2, rfl, ⟨by omega, by omega⟩, c2, (b2.upd0 c3).src (fb_one _), fun q hq => ⟨hs2 _ (by simp [Sl.blk, hq]), by have := own_lt b2 q hq; omega⟩⟩
      exact hx.upd d4 (fun k hk e => by have := ho.lt e; omega) fun k hk => ⟨by omega, hnew k hk.1 hk.2, by omega⟩
    obtain ⟨ls', w', k1, k2, k3⟩ := ih (i + 1) m w5 s5 (vs ++ [lnV w2.heap.size]) (by omega) (by omega) (by omega)
      (src_updF hr u5 fun q hq hne e => by have := hrb q hq hne; have := hb _ e; omega) (src_updF hw u5 fun q hq hne e => by have := hsb q hq hne; have := hb _ e; omega)
      d3 (by rw [List.length_append, hv]; rfl) (fun k hk => (d5 k hk).elim (hb k) fun e => by omega)
      (fun j hj => by
        by_cases e : j < i
        · have : (vs ++ [lnV w2.heap.size]).getD j .nilFunc = vs.getD j .nilFunc := by
            rw [List.getD_eq_getElem?_getD, List.getElem?_append_left (by omega), List.getD_eq_getElem?_getD]
          rw [this]
          exact (hL j e).upd u5 (fun k hk => hk.2.1) fun k hk => ⟨hk.1, hold k hk.2.2 hk.2.1, by omega⟩
        · obtain rfl : j = i := by omega
          have : (vs ++ [lnV w2.heap.size]).getD j .nilFunc = lnV w2.heap.size := by
            rw [List.getD_eq_getElem?_getD, List.getElem?_append_right (by omega), hv, Nat.sub_self]; rfl
          rw [this]
          exact hline)
    have c1' : (0 : Int) ≤ (i : Int) ∧ (i : Int) < ((rs.len : Nat) : Int) := by omega
    refine ⟨ls', w', ?_, k2, u5.trans' k3 fun k hk e => (d5 k e).elim id fun e2 => absurd hk (by omega)⟩
    show escrow_Deal_l0_b K (escrow_Deal_l0 K m) set sec (need : Int) count rnd rs ls rs ((row.length : Nat) : Int) (i : Int) w = _
    unfold escrow_Deal_l0_b
    have b1 : escrow_Deal_l1 K K set sec (need : Int) count rnd rs ls (i : Int) ⟨some ⟨w.heap.size, 0, none⟩, 1, 1⟩ rs ((row.length : Nat) : Int) (i : Int) ((need - 1 : Nat) : Int) 0 w1 = _ := b1
    rw [if_pos (decide_eq_true (show (i : Int) < ((row.length : Nat) : Int) by omega)), p1, Option.bind_some, if_pos c1', Int.toNat_natCast, Nat.mul_one, p2, Option.bind_some, a1, bnd_ok, e4, b1, bnd_ok]
    dsimp only
    rw [hth, bnd_ok]
    dsimp only
    rw [d1, bnd_ok]
    dsimp only
    rw [d2, bnd_ok, e3]
    exact k1

theorem built102v (a b c d : Int) (s : Sl) : prog.built 102 [(0, (.agg #[.int .u16 a, .int .i64 b, .int .i64 c, .int .i64 d])), (1, (.slice s.a s.len s.cap))] = some #[.int .u16 a, .int .i64 b, .int .i64 c, .int .i64 d, .slice s.a s.len s.cap] := by
  obtain ⟨x, y, z⟩ := s; kernel_rfl

theorem deal_l2 {K : Nat} (hK : 18446744073709551616 ≤ K) {set need count size : Nat} (hset : set < 65536) (hcount : count ≤ 255) {sec ls : Sl} (hsz : sec.len = size) {rows : List (List F)} (hr : rows.length ≤ 1000) (hc : ∀ c ∈ rows, c.length ≤ 100000) {P : Nat → Prop} {B : Nat} (hP : ∀ k, P k → k < B) :
    ∀ (d x m : Nat) (w : World) (out : Sl), x + d = count → d < m → B ≤ w.heap.size → LinesAt P w ls rows → OwnS 9 w out (tx (dealN set need size rows x)) → (∀ k, out.blk = some k → B ≤ k) →
      ∃ out' w', escrow_Deal_l2 K m (set : Int) sec (need : Int) (count : Int) ls out ((x + 1 : Nat) : Int) w = some ((out', ()), w') ∧ OwnS 9 w' out' (tx (dealN set need size rows count)) ∧ Upd (fun k => out.blk = some k) w w' ∧ ∀ k, out'.blk = some k → out.blk = some k ∨ w.heap.size ≤ k := by
  intro d
  induction d with
  | zero =>
    intro x m w out hx hm hB hL ho hb
    obtain ⟨m, rfl⟩ : ∃ q, m = q + 1 := ⟨m - 1, by omega⟩
    obtain rfl : x = count := by omega
    refine ⟨out, w, ?_, ho, Upd.refl _ _, fun k hk => .inl hk⟩
    show escrow_Deal_l2_b K (escrow_Deal_l2 K m) (set : Int) sec (need : Int) (x : Int) ls out ((x + 1 : Nat) : Int) w = _
    unfold escrow_Deal_l2_b
    rw [if_neg (by simp only [decide_eq_true_eq]; omega)]
  | succ d ih =>
    intro x m w out hx hm hB hL ho hb
    obtain ⟨m, rfl⟩ : ∃ q, m = q + 1 := ⟨m - 1, by omega⟩
    have e3 : IntKind.i64.wrap (((x + 1 : Nat) : Int) + 1) = ((x + 1 + 1 : Nat) : Int) := by rw [w64 (by omega) (by omega)]; rfl
    obtain ⟨s1, w1, a1, a2, a3, a4⟩ := at_ok hK (by omega) hc (x + 1) (fun k hk => by have := hP k hk; omega) hL
    obtain ⟨w2, b1, b2⟩ := text_ok hK (s := set) (n := need) (i := x + 1) (z := size) hset (a2.src (fb_one _)) (by rw [valsAt_length]; omega)
    have b1 : escrow_share_text K #[.int .u16 (set : Int), .int .i64 (need : Int), .int .i64 ((x + 1 : Nat) : Int), .int .i64 (size : Int), .slice s1.a s1.len s1.cap] w1 = _ := b1
    have u2 := a3.and0 b2
    obtain ⟨w3, s4, w4, c1, c2, c3, c4, c5⟩ := push_tx (ho.upd0 u2) (by rw [dealN_length]; omega) (textOf (lineL set need (x + 1) size (valsAt rows (b8 (x + 1)))))
    rw [← dealN_succ] at c3
    have u4 : Upd (fun k => out.blk = some k) w w4 := (u2.mono (T := fun k => out.blk = some k) fun _ _ e => e.elim).trans' c4 fun _ _ e => e
    have z := u4.size
    have z2 := u2.size
    obtain ⟨o5, w5, d1, d2, d3, d4⟩ := ih (x + 1) m w4 s4 (by omega) (by omega) (by omega) (hL.upd u4 fun k hk e => by have := hP k hk; have := hb k e; omega) c3 (fun k hk => (c5 k hk).elim (hb k) fun e => by omega)
    refine ⟨o5, w5, ?_, d2, u4.trans' d3 (fun k hk e => (c5 k e).elim id fun e2 => absurd hk (by omega)), fun k hk => (d4 k hk).elim (fun e => (c5 k e).imp id fun e2 => by omega) fun e => .inr (by omega)⟩
    show escrow_Deal_l2_b K (escrow_Deal_l2 K m) (set : Int) sec (need : Int) (count : Int) ls out ((x + 1 : Nat) : Int) w = _
    unfold escrow_Deal_l2_b
    rw [if_pos (decide_eq_true (show ((x + 1 : Nat) : Int) ≤ (count : Int) by omega)), hsz, built84, Option.bind_some, a1, bnd_ok]
    dsimp only
    rw [built102v, Option.bind_some, b1, bnd_ok]
    dsimp only
    rw [c1, bnd_ok]
    dsimp only
    rw [c2, bnd_ok, e3]
    exact d1

end Go.Sh

/- The document's Deal: its loops. -/
set_option linter.unusedVariables false
set_option maxRecDepth 100000
namespace Go.Sh
open Go.Fw Go.Gf Go.RowKit Go.Proofs.Tryd

theorem value_loop {K : Nat} (hK : 18446744073709551616 ≤ K) {s : Sl} {l : List F} (hl : l.length ≤ 100000) {x : Nat} :
    ∀ (d j m : Nat) (w : World) (v : F), j + d = l.length → d < m → BSrc w s l →
      ∃ w', ref11_Value_l0 K m s (x : Int) (bF v) (j : Int) w = some ((bF (v + F.pow (b8 x) j * ev (l.drop j) (b8 x)), ()), w') ∧ Upd none_ w w' := by
  intro d
  induction d with
  | zero =>
    intro j m w v hj hm hs
    obtain ⟨m, rfl⟩ : ∃ q, m = q + 1 := ⟨m - 1, by omega⟩
    have hsl : s.len = l.length := by rw [hs.len, fb_length]
    refine ⟨w, ?_, Upd.refl _ _⟩
    show ref11_Value_l0_b K (ref11_Value_l0 K m) s (x : Int) (bF v) (j : Int) w = _
    unfold ref11_Value_l0_b
    rw [if_neg (by simp only [decide_eq_true_eq]; omega), List.drop_eq_nil_of_le (by omega), ev_nil, F.mul_zero, F.add_zero]
  | succ d ih =>
    intro j m w v hj hm hs
    obtain ⟨m, rfl⟩ : ∃ q, m = q + 1 := ⟨m - 1, by omega⟩
    have hsl : s.len = l.length := by rw [hs.len, fb_length]
    have ud := (Upd.refl none_ w).drew
    have e3 : IntKind.i64.wrap ((j : Int) + 1) = ((j + 1 : Nat) : Int) := by rw [w64 (by omega) (by omega)]; rfl
    obtain ⟨p, p1, p2⟩ := src_cell (hs.upd0 ud) (i := j) (by omega)
    have c1 : (0 : Int) ≤ (j : Int) ∧ (j : Int) < ((s.len : Nat) : Int) := by omega
    obtain ⟨w', k1, k2⟩ := ih (j + 1) m w.drew (v + l[j]'(by omega) * F.pow (b8 x) j) (by omega) (by omega) (hs.upd0 ud)
    have ee : v + l[j]'(by omega) * F.pow (b8 x) j + F.pow (b8 x) (j + 1) * ev (l.drop (j + 1)) (b8 x) = v + F.pow (b8 x) j * ev (l.drop j) (b8 x) := by
      rw [List.drop_eq_getElem_cons (show j < l.length by omega), ev_cons, F.mul_add, F.pow_succ, F.mul_assoc, F.mul_comm (l[j]'(by omega)), F.add_assoc]
    rw [ee] at k1
    refine ⟨w', ?_, k2.predrew⟩
    show ref11_Value_l0_b K (ref11_Value_l0 K m) s (x : Int) (bF v) (j : Int) w = _
    unfold ref11_Value_l0_b
    rw [if_pos (decide_eq_true (show (j : Int) < ((s.len : Nat) : Int) by omega)), p1, Option.bind_some, if_pos c1, Int.toNat_natCast, Nat.mul_one, p2, Option.bind_some, b8_i64, rpower_ok (by omega) _ _ (by omega) (by omega), Option.bind_some, rtimes (by omega), Option.bind_some, addF, e3]
    exact k1

theorem Value_ok {K : Nat} (hK : 18446744073709551616 ≤ K) {w : World} {s : Sl} {l : List F} (hl : l.length ≤ 100000) (x : Nat) (hs : BSrc w s l) :
    ∃ w', ref11_Value K s (x : Int) w = some ((bF (ev l (b8 x)), ()), w') ∧ Upd none_ w w' := by
  obtain ⟨w', k1, k2⟩ := value_loop hK hl (x := x) l.length 0 K w 0 (by omega) (by omega) hs
  rw [F.pow_zero, F.one_mul, F.zero_add, List.drop_zero] at k1
  have k1 : ref11_Value_l0 K K s (x : Int) 0 0 w = _ := k1
  refine ⟨w', ?_, k2⟩
  unfold ref11_Value
  rw [k1, bnd_ok]

theorem rdeal_l2 {K : Nat} {set count x15 : Int} {need : Nat} {sec rnd t13 out vals : Sl} {R : List F} {n i B : Nat} {t : F} (hi : i < n) (hn1 : 1 ≤ need) (hn : need ≤ 16) (hR : R.length = (need - 1) * n) (hsm : R.length ≤ 1000000) (ht : t13.len = n) (hrb : ∀ q, rnd.a = some q → R ≠ [] → q.block < B) :
    ∀ (d j m : Nat) (w : World) (s : Sl), j + d = need - 1 → d < m → B ≤ w.heap.size → BSrc w rnd R → OwnS 5 w s (fb (t :: colL R n i j)) → (∀ k, s.blk = some k → B ≤ k) →
      ∃ s' w', ref11_Deal_l2 K m set sec (need : Int) count rnd t13 out x15 vals (i : Int) s ((j + 1 : Nat) : Int) w = some ((s', ()), w') ∧ OwnS 5 w' s' (fb (t :: colL R n i (need - 1))) ∧ Upd (fun k => s.blk = some k) w w' ∧ ∀ k, s'.blk = some k → s.blk = some k ∨ w.heap.size ≤ k := by
  intro d
  induction d with
  | zero =>
    intro j m w s hj hm hB hr ho hs
    obtain ⟨m, rfl⟩ : ∃ q, m = q + 1 := ⟨m - 1, by omega⟩
    obtain rfl : j = need - 1 := by omega
    refine ⟨s, w, ?_, ho, Upd.refl _ _, fun k hk => .inl hk⟩
    show ref11_Deal_l2_b K (ref11_Deal_l2 K m) set sec (need : Int) count rnd t13 out x15 vals (i : Int) s ((need - 1 + 1 : Nat) : Int) w = _
    unfold ref11_Deal_l2_b
    rw [if_neg (by simp only [decide_eq_true_eq]; omega)]
  | succ d ih =>
    intro j m w s hj hm hB hr ho hs
    obtain ⟨m, rfl⟩ : ∃ q, m = q + 1 := ⟨m - 1, by omega⟩
    have hrl : rnd.len = R.length := by rw [hr.len, fb_length]
    have e3 : IntKind.i64.wrap (((j + 1 : Nat) : Int) + 1) = ((j + 1 + 1 : Nat) : Int) := by rw [w64 (by omega) (by omega)]; rfl
    have hx := col_idx (j := j) (c := need - 1) (by omega) hi
    obtain ⟨x, hxe⟩ : ∃ x, x = j * n := ⟨_, rfl⟩
    have e6 : IntKind.i64.wrap (((j + 1 : Nat) : Int) - 1) = (j : Int) := by rw [w64 (by omega) (by omega)]; omega
    have e4 : IntKind.i64.wrap ((j : Int) * ((t13.len : Nat) : Int)) = (x : Int) := by rw [ht, ← Int.natCast_mul, ← hxe, w64 (by omega) (by omega)]
    have e5 : IntKind.i64.wrap ((x : Int) + (i : Int)) = ((x + i : Nat) : Int) := by rw [w64 (by omega) (by omega)]; rfl
    rw [← hxe] at hx
    have hxR : x + i < R.length := by omega
    obtain ⟨p, p1, p2⟩ := src_cell hr hxR
    have hgd : R[x + i] = R.getD (j * n + i) 0 := by rw [← hxe, List.getD_eq_getElem?_getD, List.getElem?_eq_getElem hxR]; rfl
    rw [hgd] at p2
    obtain ⟨w1, s2, w2, a1, a2, a3, a4, a5⟩ := push_fb ho (by rw [List.length_cons, colL_length]; omega) (R.getD (j * n + i) 0)
    rw [List.cons_append, ← colL_succ] at a3
    have z := a4.size
    obtain ⟨s3, w3, b1, b2, b3, b4⟩ := ih (j + 1) m w2 s2 (by omega) (by omega) (by omega) (src_updF hr a4 fun q hq hne e => by have := hrb q hq hne; have := hs _ e; omega) a3 (fun k hk => (a5 k hk).elim (hs k) fun e => by omega)
    have c1 : (0 : Int) ≤ ((x + i : Nat) : Int) ∧ ((x + i : Nat) : Int) < ((rnd.len : Nat) : Int) := by omega
    refine ⟨s3, w3, ?_, b2, a4.trans' b3 (fun k hk e => (a5 k e).elim id fun e2 => absurd hk (by omega)), fun k hk => (b4 k hk).elim (a5 k) fun e => .inr (by omega)⟩
    show ref11_Deal_l2_b K (ref11_Deal_l2 K m) set sec (need : Int) count rnd t13 out x15 vals (i : Int) s ((j + 1 : Nat) : Int) w = _
    unfold ref11_Deal_l2_b
    rw [if_pos (decide_eq_true (show ((j + 1 : Nat) : Int) < (need : Int) by omega)), p1, Option.bind_some, e6, e4, e5, if_pos c1, Int.toNat_natCast, Nat.mul_one, p2, Option.bind_some, a1, bnd_ok]
    dsimp only
    rw [a2, bnd_ok, e3]
    exact b1

theorem rdeal_l1 {K : Nat} (hK : 18446744073709551616 ≤ K) {set count : Int} {sec rnd rs out : Sl} {row R : List F} {need B x : Nat} (hn1 : 1 ≤ need) (hn : need ≤ 16) (hR : R.length = (need - 1) * row.length) (hsm : row.length ≤ 1000) (hrb : ∀ q, rnd.a = some q → R ≠ [] → q.block < B) (hsb : ∀ q, rs.a = some q → row ≠ [] → q.block < B) :
    ∀ (d i m : Nat) (w : World) (s : Sl), i + d = row.length → d < m → B ≤ w.heap.size → BSrc w rnd R → BSrc w rs row → OwnS 5 w s (fb (valsAt ((linesC row R need).take i) (b8 x))) → (∀ k, s.blk = some k → B ≤ k) →
      ∃ s' w', ref11_Deal_l1 K m set sec (need : Int) count rnd rs out (x : Int) s (i : Int) w = some ((s', ()), w') ∧ OwnS 5 w' s' (fb (valsAt (linesC row R need) (b8 x))) ∧ Upd (fun k => s.blk = some k) w w' ∧ ∀ k, s'.blk = some k → s.blk = some k ∨ w.heap.size ≤ k := by
  have hRs : R.length ≤ 15 * 1000 := by rw [hR]; exact Nat.mul_le_mul (by omega) hsm
  intro d
  induction d with
  | zero =>
    intro i m w s hi hm hB hr hw ho hs
    obtain ⟨m, rfl⟩ : ∃ q, m = q + 1 := ⟨m - 1, by omega⟩
    have hsl : rs.len = row.length := by rw [hw.len, fb_length]
    rw [List.take_of_length_le (by rw [linesC_length]; omega)] at ho
    refine ⟨s, w, ?_, ho, Upd.refl _ _, fun k hk => .inl hk⟩
    show ref11_Deal_l1_b K (ref11_Deal_l1 K m) set sec (need : Int) count rnd rs out (x : Int) s (i : Int) w = _
    unfold ref11_Deal_l1_b
    rw [if_neg (by simp only [decide_eq_true_eq]; omega)]
  | succ d ih =>
    intro i m w s hi hm hB hr hw ho hs
    obtain ⟨m, rfl⟩ : ∃ q, m = q + 1 := ⟨m - 1, by omega⟩
    have hil : i < row.length := by omega
    have hsl : rs.len = row.length := by rw [hw.len, fb_length]
    have e3 : IntKind.i64.wrap ((i : Int) + 1) = ((i + 1 : Nat) : Int) := by rw [w64 (by omega) (by omega)]; rfl
    obtain ⟨p, p1, p2⟩ := src_cell hw hil
    have hgd : row[i] = row.getD i 0 := by rw [List.getD_eq_getElem?_getD, List.getElem?_eq_getElem hil]; rfl
    rw [hgd] at p2
    obtain ⟨w1, a1, a2, a3, a4⟩ := bldS1_ok sliceB (.int .u8 (bF (row.getD i 0))) rfl w
    have a2 : OwnS 5 w1 ⟨some ⟨w.heap.size, 0, none⟩, 1, 1⟩ (fb (row.getD i 0 :: colL R row.length i 0)) := a2
    have z1 := a3.size
    obtain ⟨s2, w2, b1, b2, b3, b4⟩ := rdeal_l2 (K := K) (set := set) (count := count) (x15 := (x : Int)) (sec := sec) (t13 := rs) (out := out) (vals := s) (t := row.getD i 0) hil hn1 hn hR (by omega) hsl hrb (need - 1) 0 K w1 _ (by omega) (by omega) (by omega) (hr.upd0 a3) a2 (fun k hk => by have e : w.heap.size = k := Option.some.inj hk; omega)
    have b1 : ref11_Deal_l2 K K set sec (need : Int) count rnd rs out (x : Int) s (i : Int) ⟨some ⟨w.heap.size, 0, none⟩, 1, 1⟩ 1 w1 = _ := b1
    have hlc : row.getD i 0 :: colL R row.length i (need - 1) = (linesC row R need).getD i [] := by rw [linesC_get _ _ _ _ hil]; rfl
    rw [hlc] at b2
    have hll : ((linesC row R need).getD i []).length ≤ 100000 := by rw [← hlc, List.length_cons, colL_length]; omega
    obtain ⟨w3, c1, c2⟩ := Value_ok hK hll x (b2.src (fb_one _))
    have u3 : Upd none_ w w3 := (a3.trans' b3 fun k hk e => by have e : w.heap.size = k := Option.some.inj e; omega).and0 c2
    obtain ⟨w4, s5, w5, d1, d2, d3, d4, d5⟩ := push_fb (ho.upd0 u3) (by rw [valsAt_length, List.length_take]; omega) (ev ((linesC row R need).getD i []) (b8 x))
    have et : valsAt ((linesC row R need).take i) (b8 x) ++ [ev ((linesC row R need).getD i []) (b8 x)] = valsAt ((linesC row R need).take (i + 1)) (b8 x) := by
      have hil' : i < (linesC row R need).length := by rw [linesC_length]; exact hil
      rw [List.take_succ_eq_append_getElem hil', List.getD_eq_getElem?_getD, List.getElem?_eq_getElem hil']
      unfold valsAt
      rw [List.map_append]; rfl
    rw [et] at d3
    have u5 := (u3.mono (T := fun k => s.blk = some k) fun _ _ e => e.elim).trans' d4 fun _ _ e => e
    have z3 := u3.size
    have z5 := u5.size
    obtain ⟨s6, w6, k1, k2, k3, k4⟩ := ih (i + 1) m w5 s5 (by omega) (by omega) (by omega)
      (src_updF hr u5 fun q hq hne e => by have := hrb q hq hne; have := hs _ e; omega) (src_updF hw u5 fun q hq hne e => by have := hsb q hq hne; have := hs _ e; omega)
      d3 (fun k hk => (d5 k hk).elim (hs k) fun e => by omega)
    have c1' : (0 : Int) ≤ (i : Int) ∧ (i : Int) < ((rs.len : Nat) : Int) := by omega
    refine ⟨s6, w6, ?_, k2, u5.trans' k3 (fun k hk e => (d5 k e).elim id fun e2 => absurd hk (by omega)), fun k hk => (k4 k hk).elim (fun e => (d5 k e).imp id fun e2 => by omega) fun e => .inr (by omega)⟩
    show ref11_Deal_l1_b K (ref11_Deal_l1 K m) set sec (need : Int) count rnd rs out (x : Int) s (i : Int) w = _
    unfold ref11_Deal_l1_b
    rw [if_pos (decide_eq_true (show (i : Int) < ((rs.len : Nat) : Int) by omega)), p1, Option.bind_some, if_pos c1', Int.toNat_natCast, Nat.mul_one, p2, Option.bind_some, a1, bnd_ok, b1, bnd_ok]
    dsimp only
    rw [c1, bnd_ok]
    dsimp only
    rw [d1, bnd_ok]
    dsimp only
    rw [d2, bnd_ok, e3]
    exact k1

theorem rdeal_l0 {K : Nat} (hK : 18446744073709551616 ≤ K) {set need count size : Nat} (hset : set < 65536) (hcount : count ≤ 255) {sec rnd rs : Sl} (hsz : sec.len = size) {row R : List F} {B : Nat} (hn1 : 1 ≤ need) (hn : need ≤ 16) (hR : R.length = (need - 1) * row.length) (hsm : row.length ≤ 1000) (hrb : ∀ q, rnd.a = some q → R ≠ [] → q.block < B) (hsb : ∀ q, rs.a = some q → row ≠ [] → q.block < B) :
    ∀ (d x m : Nat) (w : World) (out : Sl), x + d = count → d < m → B ≤ w.heap.size → BSrc w rnd R → BSrc w rs row → OwnS 9 w out (tx (dealN set need size (linesC row R need) x)) → (∀ k, out.blk = some k → B ≤ k) →
      ∃ out' w', ref11_Deal_l0 K m (set : Int) sec (need : Int) (count : Int) rnd rs out ((x + 1 : Nat) : Int) w = some ((out', ()), w') ∧ OwnS 9 w' out' (tx (dealN set need size (linesC row R need) count)) ∧ Upd (fun k => out.blk = some k) w w' ∧ ∀ k, out'.blk = some k → out.blk = some k ∨ w.heap.size ≤ k := by
  intro d
  induction d with
  | zero =>
    intro x m w out hx hm hB hr hw ho hb
    obtain ⟨m, rfl⟩ : ∃ q, m = q + 1 := ⟨m - 1, by omega⟩
    obtain rfl : x = count := by omega
    refine ⟨out, w, ?_, ho, Upd.refl _ _, fun k hk => .inl hk⟩
    show ref11_Deal_l0_b K (ref11_Deal_l0 K m) (set : Int) sec (need : Int) (x : Int) rnd rs out ((x + 1 : Nat) : Int) w = _
    unfold ref11_Deal_l0_b
    rw [if_neg (by simp only [decide_eq_true_eq]; omega)]
  | succ d ih =>
    intro x m w out hx hm hB hr hw ho hb
    obtain ⟨m, rfl⟩ : ∃ q, m = q + 1 := ⟨m - 1, by omega⟩
    have e3 : IntKind.i64.wrap (((x + 1 : Nat) : Int) + 1) = ((x + 1 + 1 : Nat) : Int) := by rw [w64 (by omega) (by omega)]; rfl
    obtain ⟨s1, w1, a1, a2, a3, a4⟩ := rdeal_l1 hK (set := (set : Int)) (count := (count : Int)) (sec := sec) (out := out) (x := x + 1) hn1 hn hR hsm hrb hsb row.length 0 K w ⟨none, 0, 0⟩ (by omega) (by omega) hB hr hw (OwnS.nil _ _) (fun k hk => by cases hk)
    have a1 : ref11_Deal_l1 K K (set : Int) sec (need : Int) (count : Int) rnd rs out ((x + 1 : Nat) : Int) ⟨none, 0, 0⟩ 0 w = _ := a1
    have a3 : Upd none_ w w1 := a3.mono fun k _ e => by cases e
    obtain ⟨s2, w2, b1, b2, b3, b4⟩ := rBytes_ok hK (s := set) (need := need) (idx := x + 1) (size := size) hset (a2.src (fb_one _)) (by rw [valsAt_length, linesC_length]; omega)
    have b1 : ref11_Bytes K #[.int .u16 (set : Int), .int .i64 (need : Int), .int .i64 ((x + 1 : Nat) : Int), .int .i64 (size : Int)] s1 w1 = _ := b1
    have hll := line_len set need (x + 1) size (valsAt (linesC row R need) (b8 (x + 1)))
    rw [valsAt_length, linesC_length] at hll
    obtain ⟨w2', f1, f2⟩ := rWords_ok hK (b2.src (fb_one _)) (by omega)
    have u2 := (a3.and0 b3).and0 f2
    obtain ⟨w3, s4, w4, c1, c2, c3, c4, c5⟩ := push_tx (ho.upd0 u2) (by rw [dealN_length]; omega) (textOf (lineL set need (x + 1) size (valsAt (linesC row R need) (b8 (x + 1)))))
    rw [← dealN_succ] at c3
    have u4 : Upd (fun k => out.blk = some k) w w4 := (u2.mono (T := fun k => out.blk = some k) fun _ _ e => e.elim).trans' c4 fun _ _ e => e
    have z := u4.size
    have z2 := u2.size
    obtain ⟨o5, w5, d1, d2, d3, d4⟩ := ih (x + 1) m w4 s4 (by omega) (by omega) (by omega) (src_updF hr u4 fun q hq hne e => by have := hrb q hq hne; have := hb _ e; omega) (src_updF hw u4 fun q hq hne e => by have := hsb q hq hne; have := hb _ e; omega) c3 (fun k hk => (c5 k hk).elim (hb k) fun e => by omega)
    refine ⟨o5, w5, ?_, d2, u4.trans' d3 (fun k hk e => (c5 k e).elim id fun e2 => absurd hk (by omega)), fun k hk => (d4 k hk).elim (fun e => (c5 k e).imp id fun e2 => by omega) fun e => .inr (by omega)⟩
    show ref11_Deal_l0_b K (ref11_Deal_l0 K m) (set : Int) sec (need : Int) (count : Int) rnd rs out ((x + 1 : Nat) : Int) w = _
    unfold ref11_Deal_l0_b
    rw [if_pos (decide_eq_true (show ((x + 1 : Nat) : Int) ≤ (count : Int) by omega)), a1, bnd_ok, hsz, built84, Option.bind_some]
    dsimp only
    rw [b1, bnd_ok]
    dsimp only
    rw [f1, bnd_ok]
    dsimp only
    rw [c1, bnd_ok]
    dsimp only
    rw [c2, bnd_ok, e3]
    exact d1

end Go.Sh

/- Deal: what the program and the document deal out. -/
set_option linter.unusedVariables false
set_option maxRecDepth 100000
namespace Go.Sh
open Go.Fw Go.Gf Go.Sha Go.RowKit Go.Proofs.Tryd

def mayE (size : Nat) (need count : Int) : Int := if size < 1 ∨ 64 < size then 111 else if need < 1 ∨ 16 < need ∨ count < need ∨ 255 < count then 110 else 0
def rndN (need : Int) (size : Nat) : Int := if need < 1 ∨ 16 < need ∨ size < 1 ∨ 64 < size then 0 else (need - 1) * (size + 4)
def dealE (size : Nat) (need count : Int) (n : Nat) : Int := if mayE size need count ≠ 0 then mayE size need count else if (n : Int) ≠ rndN need size then 5 else 0
def dealT (C S : List Int) (set : Nat) (sec : List F) (need count : Int) (R : List F) : List ByteArray :=
  if dealE sec.length need count R.length = 0 then dealN set need.toNat sec.length (linesC (rowP C S set sec) R need.toNat) count.toNat else []

theorem mayL (n : Nat) (need count : Int) : ref11_may (n : Int) need count = some (mayE n need count, ()) := by
  unfold ref11_may ref11_may_s0
  by_cases h1 : n < 1
  · have e : mayE n need count = 111 := by unfold mayE; rw [if_pos (by omega)]
    rw [e, if_pos (decide_eq_true (show (n : Int) < 1 by omega))]; rfl
  · rw [if_neg (by simp only [decide_eq_true_eq]; omega), Option.bind_some]
    dsimp only
    by_cases h2 : 64 < n
    · have e : mayE n need count = 111 := by unfold mayE; rw [if_pos (by omega)]
      rw [e, if_pos (decide_eq_true (show (n : Int) > 64 by omega))]
    · rw [if_neg (by simp only [decide_eq_true_eq]; omega)]
      simp only [decide_eq_true_eq]
      have e : need < 1 ∨ 16 < need ∨ count < need ∨ 255 < count → mayE n need count = 110 := fun h => by unfold mayE; rw [if_neg (by omega), if_pos h]
      have e0 : ¬ (need < 1 ∨ 16 < need ∨ count < need ∨ 255 < count) → mayE n need count = 0 := fun h => by unfold mayE; rw [if_neg (by omega), if_neg h]
      by_cases a1 : need < 1
      · rw [if_pos a1, e (.inl a1)]
      · rw [if_neg a1]
        by_cases a2 : need > 16
        · rw [if_pos a2, e (.inr (.inl a2))]
        · rw [if_neg a2]
          by_cases a3 : count < need
          · rw [if_pos a3, e (.inr (.inr (.inl a3)))]
          · rw [if_neg a3]
            by_cases a4 : count > 255
            · rw [if_pos a4, e (.inr (.inr (.inr a4)))]
            · rw [if_neg a4, e0 (by omega)]
theorem may_eq (s : Sl) (need count : Int) : escrow_may s need count = ref11_may ((s.len : Nat) : Int) need count := rfl
theorem rnd_eq (need size : Int) : escrow_Random need size = ref11_Random need size := rfl
theorem rndL (need : Int) (n : Nat) : ref11_Random need (n : Int) = some (rndN need n, ()) := by
  unfold ref11_Random ref11_Random_s0
  have e : need < 1 ∨ 16 < need ∨ n < 1 ∨ 64 < n → rndN need n = 0 := fun h => by unfold rndN; rw [if_pos h]
  have e0 : ¬ (need < 1 ∨ 16 < need ∨ n < 1 ∨ 64 < n) → rndN need n = (need - 1) * (n + 4) := fun h => by unfold rndN; rw [if_neg h]
  by_cases h1 : need < 1
  · rw [e (.inl h1), if_pos (decide_eq_true h1)]; rfl
  · rw [if_neg (by simp only [decide_eq_true_eq]; omega)]
    by_cases h2 : need > 16
    · rw [e (.inr (.inl h2)), if_pos (decide_eq_true h2)]; rfl
    · rw [if_neg (by simp only [decide_eq_true_eq]; omega)]
      by_cases h3 : n < 1
      · rw [e (.inr (.inr (.inl h3))), if_pos (decide_eq_true (show (n : Int) < 1 by omega))]; rfl
      · rw [if_neg (by simp only [decide_eq_true_eq]; omega), Option.bind_some]
        dsimp only
        by_cases h4 : 64 < n
        · rw [e (.inr (.inr (.inr h4))), if_pos (decide_eq_true (show (n : Int) > 64 by omega))]
        · rw [if_neg (by simp only [decide_eq_true_eq]; omega), e0 (by omega)]
          obtain ⟨a, rfl⟩ : ∃ a : Nat, need = ((a + 1 : Nat) : Int) := ⟨(need - 1).toNat, by omega⟩
          have e1 : (((a + 1 : Nat) : Int) - 1) = (a : Int) := by omega
          have e2 : ((n : Int) + 4) = ((n + 4 : Nat) : Int) := rfl
          have f1 : IntKind.i64.wrap (a : Int) = (a : Int) := w64 (by omega) (by omega)
          have f2 : IntKind.i64.wrap ((n + 4 : Nat) : Int) = ((n + 4 : Nat) : Int) := w64 (by omega) (by omega)
          have : a * (n + 4) ≤ 15 * 68 := Nat.mul_le_mul (by omega) (by omega)
          rw [e1, e2, f1, f2, ← Int.natCast_mul, w64 (by omega) (by omega)]

theorem deal_zero {n m : Nat} {need count : Int} (h : dealE n need count m = 0) : mayE n need count = 0 ∧ (1 ≤ n ∧ n ≤ 64) ∧ (1 ≤ need ∧ need ≤ 16) ∧ need ≤ count ∧ count ≤ 255 ∧ m = (need.toNat - 1) * (n + 4) ∧ (m : Int) = rndN need n := by
  unfold dealE at h
  by_cases h1 : mayE n need count = 0
  · rw [if_neg (by omega)] at h
    by_cases h2 : (m : Int) = rndN need n
    · have h3 := h1
      unfold mayE at h1
      by_cases a : n < 1 ∨ 64 < n
      · rw [if_pos a] at h1; omega
      · rw [if_neg a] at h1
        by_cases b : need < 1 ∨ 16 < need ∨ count < need ∨ 255 < count
        · rw [if_pos b] at h1; omega
        · refine ⟨h3, by omega, by omega, by omega, by omega, ?_, h2⟩
          unfold rndN at h2
          rw [if_neg (by omega)] at h2
          obtain ⟨x, rfl⟩ : ∃ x : Nat, need = ((x + 1 : Nat) : Int) := ⟨(need - 1).toNat, by omega⟩
          have e1 : (((x + 1 : Nat) : Int) - 1) = (x : Int) := by omega
          have e2 : ((n : Int) + 4) = ((n + 4 : Nat) : Int) := rfl
          rw [e1, e2, ← Int.natCast_mul] at h2
          rw [Int.toNat_natCast, Nat.add_sub_cancel]
          exact Int.ofNat_inj.1 h2
    · rw [if_pos h2] at h; omega
  · rw [if_pos h1] at h; exact absurd h h1

theorem Deal_ok {K : Nat} (hK : 18446744073709551616 ≤ K) {w : World} {C S : List Int} (T : Tabs w C S) {set : Nat} (hset : set < 65536) {need count : Int} {sv rv : Sl} {sec R : List F} (hs : BSrc w sv sec) (hr : BSrc w rv R) :
    ∃ s' w', escrow_Deal K (set : Int) sv need count rv w = some ((s', dealE sec.length need count R.length, ()), w') ∧ OwnS 9 w' s' (tx (dealT C S set sec need count R)) ∧ Upd none_ w w' ∧ Fresh w.heap.size s' := by
  have hsl : sv.len = sec.length := by rw [hs.len, fb_length]
  have hrl : rv.len = R.length := by rw [hr.len, fb_length]
  unfold escrow_Deal dealT
  rw [may_eq, hsl, mayL, Option.bind_some]
  by_cases h1 : mayE sec.length need count = 0
  · rw [if_neg (by rw [h1]; simp), rnd_eq, rndL, Option.bind_some, hrl]
    dsimp only
    by_cases h2 : (R.length : Int) = rndN need sec.length
    · rw [if_neg (by rw [h2]; simp)]
      have hE : dealE sec.length need count R.length = 0 := by unfold dealE; rw [if_neg (by omega), if_neg (by omega)]
      obtain ⟨_, hn, hd, hc1, hc2, hm, _⟩ := deal_zero hE
      obtain ⟨nd, rfl⟩ : ∃ nd : Nat, need = (nd : Int) := ⟨need.toNat, by omega⟩
      obtain ⟨ct, rfl⟩ : ∃ ct : Nat, count = (ct : Int) := ⟨count.toNat, by omega⟩
      rw [Int.toNat_natCast] at hm
      rw [hE, if_pos rfl, Int.toNat_natCast, Int.toNat_natCast]
      obtain ⟨s1, w1, a1, a2, a3, a4⟩ := row_ok hK T (set := set) hs (by omega)
      have hrow := row_len C S set sec
      have hs1 : s1.len = (rowP C S set sec).length := by rw [a2.len, fb_length]
      have z1 := a3.size
      obtain ⟨s2, w2, b1, b2, b3⟩ := deal_l0 hK (set := (set : Int)) (count := (ct : Int)) (sec := sv) (rnd := rv) (rs := s1) (row := rowP C S set sec) (R := R) (need := nd) (B := w1.heap.size) (by omega) (by omega) (by rw [hrow]; exact hm) (by omega)
        (fun q hq hne => by have := src_ltF hr q hq hne; omega) (fun q hq hne => own_lt a2 q hq) (rowP C S set sec).length 0 K w1 ⟨none, 0, 0⟩ [] (by omega) (by omega) (Nat.le_refl _) (hr.upd0 a3) (a2.src (fb_one _)) (OwnS.nil _ _) rfl (fun k hk => by cases hk) (fun j hj => by omega)
      have b1 : escrow_Deal_l0 K K (set : Int) sv (nd : Int) (ct : Int) rv s1 ⟨none, 0, 0⟩ s1 (((rowP C S set sec).length : Nat) : Int) 0 w1 = _ := b1
      have b3 : Upd none_ w1 w2 := b3.mono fun k _ e => by cases e
      have u2 := a3.and0 b3
      have z2 := b3.size
      obtain ⟨s3, w3, c1, c2, c3, c4⟩ := deal_l2 hK (set := set) (need := nd) (count := ct) (size := sec.length) hset (by omega) (sec := sv) hsl (rows := linesC (rowP C S set sec) R nd) (by rw [linesC_length]; omega) (fun c hc => by rw [linesC_len _ _ _ c hc]; omega) (P := fun k => w1.heap.size ≤ k ∧ k < w2.heap.size) (B := w2.heap.size) (fun k hk => hk.2) ct 0 K w2 ⟨none, 0, 0⟩ (by omega) (by omega) (Nat.le_refl _) b2 (OwnS.nil _ _) (fun k hk => by cases hk)
      have c1 : escrow_Deal_l2 K K (set : Int) sv (nd : Int) (ct : Int) s2 ⟨none, 0, 0⟩ 1 w2 = _ := c1
      have c3 : Upd none_ w2 w3 := c3.mono fun k _ e => by cases e
      refine ⟨s3, w3, ?_, c2, u2.and0 c3, fun k hk => (c4 k hk).elim (fun e => by cases e) fun e => by omega⟩
      rw [a1, bnd_ok]
      dsimp only
      rw [hs1, b1, bnd_ok]
      dsimp only
      rw [c1, bnd_ok]
    · rw [if_pos (by simpa using h2)]
      have hE : dealE sec.length need count R.length = 5 := by unfold dealE; rw [if_neg (by omega), if_pos h2]
      rw [hE, if_neg (by omega)]
      exact ⟨_, w, rfl, OwnS.nil _ _, Upd.refl _ _, fun k hk => by cases hk⟩
  · have hE : dealE sec.length need count R.length = mayE sec.length need count := by unfold dealE; rw [if_pos h1]
    rw [if_pos (by simpa using h1), hE, if_neg h1]
    exact ⟨_, w, rfl, OwnS.nil _ _, Upd.refl _ _, fun k hk => by cases hk⟩

theorem rDeal_ok {K : Nat} (hK : 18446744073709551616 ≤ K) {w : World} {C S : List Int} (T : TabsR w C S) {set : Nat} (hset : set < 65536) {need count : Int} {sv rv : Sl} {sec R : List F} (hs : BSrc w sv sec) (hr : BSrc w rv R) :
    ∃ s' w', ref11_Deal K (set : Int) sv need count rv w = some ((s', dealE sec.length need count R.length, ()), w') ∧ OwnS 9 w' s' (tx (dealT C S set sec need count R)) ∧ Upd none_ w w' ∧ Fresh w.heap.size s' := by
  have hsl : sv.len = sec.length := by rw [hs.len, fb_length]
  have hrl : rv.len = R.length := by rw [hr.len, fb_length]
  unfold ref11_Deal dealT
  rw [hsl, mayL, Option.bind_some]
  by_cases h1 : mayE sec.length need count = 0
  · rw [if_neg (by rw [h1]; simp), rndL, Option.bind_some, hrl]
    dsimp only
    by_cases h2 : (R.length : Int) = rndN need sec.length
    · rw [if_neg (by rw [h2]; simp)]
      have hE : dealE sec.length need count R.length = 0 := by unfold dealE; rw [if_neg (by omega), if_neg (by omega)]
      obtain ⟨_, hn, hd, hc1, hc2, hm, _⟩ := deal_zero hE
      obtain ⟨nd, rfl⟩ : ∃ nd : Nat, need = (nd : Int) := ⟨need.toNat, by omega⟩
      obtain ⟨ct, rfl⟩ : ∃ ct : Nat, count = (ct : Int) := ⟨count.toNat, by omega⟩
      rw [Int.toNat_natCast] at hm
      rw [hE, if_pos rfl, Int.toNat_natCast, Int.toNat_natCast]
      obtain ⟨s1, w1, a1, a2, a3, a4⟩ := rRow_ok hK T (set := set) hset hs (by omega)
      have hrow := row_len C S set sec
      have hs1 : s1.len = (rowP C S set sec).length := by rw [a2.len, fb_length]
      have z1 := a3.size
      obtain ⟨s3, w3, c1, c2, c3, c4⟩ := rdeal_l0 hK (set := set) (need := nd) (count := ct) (size := sec.length) hset (by omega) (sec := sv) (rnd := rv) (rs := s1) hsl (row := rowP C S set sec) (R := R) (B := w1.heap.size) (by omega) (by omega) (by rw [hrow]; exact hm) (by omega)
        (fun q hq hne => by have := src_ltF hr q hq hne; omega) (fun q hq hne => own_lt a2 q hq) ct 0 K w1 ⟨none, 0, 0⟩ (by omega) (by omega) (Nat.le_refl _) (hr.upd0 a3) (a2.src (fb_one _)) (OwnS.nil _ _) (fun k hk => by cases hk)
      have c1 : ref11_Deal_l0 K K (set : Int) sv (nd : Int) (ct : Int) rv s1 ⟨none, 0, 0⟩ 1 w1 = _ := c1
      have c3 : Upd none_ w1 w3 := c3.mono fun k _ e => by cases e
      refine ⟨s3, w3, ?_, c2, a3.and0 c3, fun k hk => (c4 k hk).elim (fun e => by cases e) fun e => by omega⟩
      rw [a1, bnd_ok]
      dsimp only
      rw [c1, bnd_ok]
    · rw [if_pos (by simpa using h2)]
      have hE : dealE sec.length need count R.length = 5 := by unfold dealE; rw [if_neg (by omega), if_pos h2]
      rw [hE, if_neg (by omega)]
      exact ⟨_, w, rfl, OwnS.nil _ _, Upd.refl _ _, fun k hk => by cases hk⟩
  · have hE : dealE sec.length need count R.length = mayE sec.length need count := by unfold dealE; rw [if_pos h1]
    rw [if_pos (by simpa using h1), hE, if_neg h1]
    exact ⟨_, w, rfl, OwnS.nil _ _, Upd.refl _ _, fun k hk => by cases hk⟩

end Go.Sh

/- A Deal that came in; its random bytes. -/
set_option linter.unusedVariables false
namespace Go.Sh
open Go.Fw Go.Gf Go.Sha Go.RowKit Go.Proofs.Tryd Go.Deep Go.ChangeShapes Go.WideShapes

def dlL (set : Int) (s : Sl) (need count : Int) (own : Bool) (r : Sl) : List Value := [.int .u16 set, slV s, .int .i64 need, .int .i64 count, .bool own, slV r]
def dlC (set : Int) (s : Sl) (need count : Int) (own : Bool) (r : Sl) : Array Value := (dlL set s need count own r).toArray

theorem c_int : prog.cellsOf 3 = 1 := by kernel_rfl
theorem c_u16 : prog.cellsOf 22 = 1 := by kernel_rfl
theorem c_bool : prog.cellsOf 4 = 1 := by kernel_rfl
theorem c_TB : prog.cellsOf 23 = 1 := by kernel_rfl
theorem wf_u16 {n : Int} (h : (Lit.int .u16 n).wf = true) : ∃ k : Nat, n = (k : Int) ∧ k < 65536 := by
  have h2 : 0 ≤ n ∧ n ≤ 65535 := by simpa [Lit.wf, IntKind.bits, IntKind.min, IntKind.max, IntKind.signed] using h
  exact ⟨n.toNat, by omega, by omega⟩

set_option maxRecDepth 100000 in
theorem open_deal {H : Type} {enc : TypeId × Value → H} {W : World} {d : DataW H} {p : List MemPlace} {v : Value} {base : Nat} (hv : Value.okWide prog W .any base 25 v) (h : DataW.Trod enc prog W 0 (fun _ => true) true 25 v d p) (hw : ∀ n ∈ d.weights prog 25, n ≤ reachBytes) :
    ∃ (set : Nat) (s : Sl) (need count : Int) (own : Bool) (r : Sl) (ss rs : List Int), v = .agg (dlC (set : Int) s need count own r) ∧ set < 65536 ∧ BytesIn W s ss ∧ BytesIn W r rs := by
  have hu := underlying25
  have hs0 := okWide_struct (P := prog) (t := 25) hu hv
  obtain ⟨cs, hcv, hcs⟩ := hs0
  subst hcv
  obtain ⟨fuel, hf⟩ := h
  obtain ⟨xs, m, _, hx, hcl, hxl, hfs⟩ := DataW.trod_struct hu hf
  have hsz : prog.cellsOf 25 = 6 := by kernel_rfl
  rw [hsz] at hcs
  have hcc : (Value.agg cs).cells.toList = cs.toList := rfl
  simp only [hcc] at hfs
  have hl6 : cs.toList.length = 6 := by simpa using hcs
  obtain ⟨c0, c1, c2, c3, c4, c5, hc⟩ : ∃ a b c d e f, cs.toList = [a, b, c, d, e, f] := by
    match hm : cs.toList, hl6 with
    | [a, b, c, d, e, f], _ => exact ⟨a, b, c, d, e, f, rfl⟩
  have hx6 : xs.length = 6 := hxl
  obtain ⟨y0, y1, y2, y3, y4, y5, hy⟩ : ∃ a b c d e f, xs = [a, b, c, d, e, f] := by
    match hm : xs, hx6 with
    | [a, b, c, d, e, f], _ => exact ⟨a, b, c, d, e, f, rfl⟩
  subst hy
  rw [hc] at hfs
  have f0 := hfs 0 _ rfl
  have f1 := hfs 1 _ rfl
  have f2 := hfs 2 _ rfl
  have f3 := hfs 3 _ rfl
  have f4 := hfs 4 _ rfl
  have f5 := hfs 5 _ rfl
  simp only [c_int, c_u16, c_bool, c_TB, List.drop_zero, List.drop_succ_cons, List.take_succ_cons, List.take_zero, List.getElem?_cons_zero, List.getElem?_cons_succ] at f0 f1 f2 f3 f4 f5
  have hd : d = .agg [y0.1, y1.1, y2.1, y3.1, y4.1, y5.1] := (Prod.mk.inj hx).1
  have hwt : ∀ n ∈ y0.1.weights prog 22 ++ (y1.1.weights prog 23 ++ (y2.1.weights prog 3 ++ (y3.1.weights prog 3 ++ (y4.1.weights prog 4 ++ (y5.1.weights prog 23 ++ []))))), n ≤ reachBytes := by
    intro n hn
    refine hw n ?_
    rw [hd]
    simp only [DataW.weights, hu, List.map_cons, List.map_nil, DataW.weightsEach]
    exact hn
  obtain ⟨n0, e0, _, w0⟩ := DataW.trod_int underlying22 f0
  obtain ⟨s1, p1, e1, g1⟩ := open_bytes_t f1 (fun n hn => hwt n (by simp [hn]))
  obtain ⟨n2, e2, _, w2⟩ := DataW.trod_int underlying3 f2
  obtain ⟨n3, e3, _, w3⟩ := DataW.trod_int underlying3 f3
  obtain ⟨b4, e4, _⟩ := DataW.trod_bool underlying4 f4
  obtain ⟨s5, p5, e5, g5⟩ := open_bytes_t f5 (fun n hn => hwt n (by simp [hn]))
  obtain ⟨k, rfl, hk⟩ := wf_u16 w0
  have hcs2 : cs = dlC (k : Int) s1 n2 n3 b4 s5 := by
    apply Array.ext'
    rw [hc, (List.cons.inj e0).1, (List.cons.inj e1).1, (List.cons.inj e2).1, (List.cons.inj e3).1, (List.cons.inj e4).1, (List.cons.inj e5).1]
    rfl
  subst hcs2
  exact ⟨k, s1, n2, n3, b4, s5, p1, p5, rfl, hk, g1, g5⟩

theorem dl_lds {set need count : Int} {own : Bool} {s r : Sl} {w : World} {c : Nat} (b : Bk 25 w c (dlL set s need count own r)) :
    ldI .u16 ((⟨c, 0, none⟩ : Addr).add 0) w = some set ∧ ldS ((⟨c, 0, none⟩ : Addr).add 1) w = some s ∧ ldI .i64 ((⟨c, 0, none⟩ : Addr).add 2) w = some need ∧ ldI .i64 ((⟨c, 0, none⟩ : Addr).add 3) w = some count ∧ ldB ((⟨c, 0, none⟩ : Addr).add 4) w = some own ∧ ldS ((⟨c, 0, none⟩ : Addr).add 5) w = some r := by
  rw [add_lit, add_lit, add_lit, add_lit, add_lit, add_lit]
  exact ⟨b.ldI rfl, b.ldS rfl, b.ldI rfl, b.ldI rfl, b.ldB rfl, b.ldS rfl⟩

/-- what is cut off -/
theorem cut_ok {w : World} {s : Sl} {l : List F} (hs : BSrc w s l) (n : Nat) : ∃ s', law11_cut s (n : Int) = some (s', ()) ∧ BSrc w s' (l.take n) ∧ (l.take n).length ≤ n := by
  have hsl : s.len = l.length := by rw [hs.len, fb_length]
  have hc := hs.cap
  unfold law11_cut
  by_cases h : n < l.length
  · rw [if_pos (decide_eq_true (show ((s.len : Nat) : Int) > (n : Int) by omega)), if_pos (by omega)]
    refine ⟨_, rfl, ?_, by rw [List.length_take]; omega⟩
    have := hs.cut (n := n) (by omega)
    rw [fb_take] at this
    rw [sla_zero, Int.toNat_natCast, Nat.sub_zero, Nat.sub_zero]; exact this
  · rw [if_neg (by simp only [decide_eq_true_eq]; omega), List.take_of_length_le (by omega)]
    exact ⟨s, rfl, hs, by omega⟩

theorem wrap_bF (z : Int) : IntKind.u8.wrap z = bF (toF (IntKind.u8.wrap z)) := by
  rw [bF_toF]
  rw [IntKind.wrap_u8]
  exact ⟨by omega, by show z % 256 < 2 ^ 8; omega⟩

theorem rnd_loop {K : Nat} {g n : Nat} (hn : n ≤ 2000) {set need count : Int} {own : Bool} {s r : Sl} {L : List F} :
    ∀ (d i m : Nat) (w : World) (b : Sl) (l : List F), i + d = n → d < m → l.length = i → Bk 25 w g (dlL set s need count own r) → BSrc w r L → OwnS 5 w b (fb l) → (∀ k, b.blk = some k → g < k) → (∀ q, r.a = some q → L ≠ [] → ∀ k, b.blk = some k → q.block ≠ k) →
      ∃ b' w' l', law11_Deal_random_l0 K m ⟨g, 0, none⟩ (n : Int) b (i : Int) w = some ((b', ()), w') ∧ l'.length = n ∧ OwnS 5 w' b' (fb l') ∧ Upd (fun k => b.blk = some k) w w' := by
  intro d
  induction d with
  | zero =>
    intro i m w b l hi hm hl hb hr ho hg hq
    obtain ⟨m, rfl⟩ : ∃ q, m = q + 1 := ⟨m - 1, by omega⟩
    obtain rfl : i = n := by omega
    refine ⟨b, w, l, ?_, hl, ho, Upd.refl _ _⟩
    show law11_Deal_random_l0_b K (law11_Deal_random_l0 K m) ⟨g, 0, none⟩ (i : Int) b (i : Int) w = _
    unfold law11_Deal_random_l0_b
    rw [if_neg (by simp)]
  | succ d ih =>
    intro i m w b l hi hm hl hb hr ho hg hq
    obtain ⟨m, rfl⟩ : ∃ q, m = q + 1 := ⟨m - 1, by omega⟩
    have e3 : IntKind.i64.wrap ((i : Int) + 1) = ((i + 1 : Nat) : Int) := by rw [w64 (by omega) (by omega)]; rfl
    have hrl : r.len = L.length := by rw [hr.len, fb_length]
    have ud := (Upd.refl none_ w).drew
    have hlt := src_ltF hr
    have hgl := hb.lt
    have step : ∀ (v : World) (z : Int), Upd none_ w v → v.heap.size = w.heap.size → ∃ (s3 : Sl) (w3 : World) (w4 : World), bldS prog 23 1 #[(0, (.int .u8 (IntKind.u8.wrap z)))] v = some (⟨some ⟨v.heap.size, 0, none⟩, 1, 1⟩, w3) ∧ apd prog 23 23 (.slice b.a b.len b.cap) (.slice (some ⟨v.heap.size, 0, none⟩) 1 1) w3 = some (s3, w4) ∧ ∃ b' w' l', law11_Deal_random_l0 K m ⟨g, 0, none⟩ (n : Int) s3 ((i + 1 : Nat) : Int) w4 = some ((b', ()), w') ∧ l'.length = n ∧ OwnS 5 w' b' (fb l') ∧ Upd (fun k => b.blk = some k) w w' := by
      intro v z hv hvs
      rw [wrap_bF z]
      obtain ⟨w3, s3, w4, a1, a2, a3, a4, a5⟩ := push_fb (ho.upd0 hv) (by omega) (toF (IntKind.u8.wrap z))
      have u : Upd (fun k => b.blk = some k) w w4 := (hv.mono (T := fun k => b.blk = some k) fun _ _ e => e.elim).trans' a4 fun _ _ e => e
      obtain ⟨b', w', l', k1, k2, k3, k4⟩ := ih (i + 1) m w4 s3 _ (by omega) (by omega) (by rw [List.length_append, hl]; rfl) (hb.upd u fun e => by have := hg _ e; omega) (src_updF hr u fun q hq2 hne e => hq q hq2 hne _ e rfl) a3 (fun k hk => (a5 k hk).elim (hg k) fun e => by omega) (fun q hq2 hne k hk e => (a5 k hk).elim (fun e2 => hq q hq2 hne k e2 e) fun e2 => by have := hlt q hq2 hne; omega)
      exact ⟨s3, w3, w4, a1, a2, b', w', l', k1, k2, k3, u.trans' k4 fun k hk e => (a5 k e).elim id fun e2 => absurd hk (by omega)⟩
    show ∃ b' w' l', law11_Deal_random_l0_b K (law11_Deal_random_l0 K m) ⟨g, 0, none⟩ (n : Int) b (i : Int) w = _ ∧ _
    unfold law11_Deal_random_l0_b
    rw [if_pos (decide_eq_true (show (i : Int) < (n : Int) by omega)), (dl_lds hb).2.2.2.2.2, Option.bind_some]
    by_cases h0 : L.length = 0
    · rw [if_pos (by rw [hrl, h0]; rfl)]
      obtain ⟨s3, w3, w4, a1, a2, b', w', l', k1, k2, k3, k4⟩ := step w _ (Upd.refl _ _) rfl
      rw [a1, bnd_ok]
      dsimp only
      rw [a2, bnd_ok, e3]
      exact ⟨b', w', l', k1, k2, k3, k4⟩
    · have hbd := hb.upd0 ud
      rw [if_neg (by rw [hrl]; simpa using h0), (dl_lds hbd).2.2.2.2.2, Option.bind_some, Option.bind_some]
      have et : Int.tmod (i : Int) ((r.len : Nat) : Int) = ((i % L.length : Nat) : Int) := by rw [hrl]; rfl
      have hil : i % L.length < L.length := Nat.mod_lt _ (by omega)
      obtain ⟨p, p1, p2⟩ := src_cell (hr.upd0 ud) hil
      rw [if_pos (by rw [hrl]; omega), p1, Option.bind_some, et, if_pos (by rw [hrl]; exact ⟨Int.natCast_nonneg _, Int.ofNat_lt.2 hil⟩), Int.toNat_natCast, Nat.mul_one, p2, Option.bind_some, Option.bind_some, if_pos (by rw [hrl]; omega)]
      obtain ⟨s3, w3, w4, a1, a2, b', w', l', k1, k2, k3, k4⟩ := step w.drew _ ud rfl
      rw [a1, bnd_ok]
      dsimp only
      rw [a2, bnd_ok, e3]
      exact ⟨b', w', l', k1, k2, k3, k4⟩

theorem rndN_nat (need : Int) (n : Nat) : ∃ k : Nat, rndN need n = (k : Int) ∧ k ≤ 1020 := by
  unfold rndN
  by_cases h : need < 1 ∨ 16 < need ∨ n < 1 ∨ 64 < n
  · rw [if_pos h]; exact ⟨0, rfl, by omega⟩
  · rw [if_neg h]
    obtain ⟨a, rfl⟩ : ∃ a : Nat, need = ((a + 1 : Nat) : Int) := ⟨(need - 1).toNat, by omega⟩
    have e1 : (((a + 1 : Nat) : Int) - 1) = (a : Int) := by omega
    have e2 : ((n : Int) + 4) = ((n + 4 : Nat) : Int) := rfl
    have : a * (n + 4) ≤ 15 * 68 := Nat.mul_le_mul (by omega) (by omega)
    exact ⟨a * (n + 4), by rw [e1, e2, ← Int.natCast_mul], by omega⟩

theorem random_ok {K : Nat} (hK : 18446744073709551616 ≤ K) {w : World} {set need count : Int} {own : Bool} {s r : Sl} {l L : List F} (hs : BSrc w s l) (hr : BSrc w r L) :
    ∃ r' w' R, law11_Deal_random K (dlC set s need count own r) w = some ((r', ()), w') ∧ R.length ≤ 2000 ∧ BSrc w' r' R ∧ Upd none_ w w' := by
  have hsl : s.len = l.length := by rw [hs.len, fb_length]
  obtain ⟨w0, n1, bc, u0, z0⟩ := newB_ok (dlC set s need count own r) 25 w
  have bc : Bk 25 w0 w.heap.size (dlL set s need count own r) := bc
  obtain ⟨l0, l1, l2, l3, l4, l5⟩ := dl_lds bc
  have hr0 := hr.upd0 u0
  have hlt := src_ltF hr
  unfold law11_Deal_random
  rw [n1, bnd_ok, l4, Option.bind_some]
  cases own with
  | true =>
    rw [if_pos rfl, l5, Option.bind_some]
    obtain ⟨s', c1, c2, c3⟩ := cut_ok hr0 2000
    have c1 : law11_cut r 2000 = _ := c1
    rw [c1, Option.bind_some]
    exact ⟨s', w0, _, rfl, c3, c2, u0⟩
  | false =>
    rw [if_neg (by decide), l2, Option.bind_some, l1, Option.bind_some, hsl, rndL, Option.bind_some]
    obtain ⟨k, hk, hk2⟩ := rndN_nat need l.length
    dsimp only
    rw [hk]
    obtain ⟨b', w', R, k1, k2, k3, k4⟩ := rnd_loop (K := K) (n := k) (by omega) k 0 K w0 ⟨none, 0, 0⟩ [] (by omega) (by omega) rfl bc hr0 (OwnS.nil _ _) (fun k hk => by cases hk) (fun q _ _ k hk => by cases hk)
    have k1 : law11_Deal_random_l0 K K ⟨w.heap.size, 0, none⟩ (k : Int) ⟨none, 0, 0⟩ 0 w0 = _ := k1
    rw [k1, bnd_ok]
    exact ⟨b', w', R, rfl, by omega, k3.src (fb_one _), u0.and0 (k4.mono fun j _ e => by cases e)⟩

end Go.Sh

/- EscrowDeals. -/
set_option linter.unusedVariables false
set_option maxRecDepth 100000
namespace Go.Sh
open Go.Fw Go.Gf Go.Sha Go.RowKit Go.Proofs.Tryd

theorem dealT_len (C S : List Int) (set : Nat) (sec : List F) (need count : Int) (R : List F) : (dealT C S set sec need count R).length ≤ 255 := by
  unfold dealT
  split
  · rename_i h
    obtain ⟨_, _, _, _, h5, _⟩ := deal_zero h
    rw [dealN_length]; omega
  · simp

theorem EscrowDeals_ok {K : Nat} (hK : 18446744073709551616 ≤ K) {C S : List Int} {W : World} (T : TabsR W C S) {set : Nat} (hset : set < 65536) {s r : Sl} {need count : Int} {own : Bool} {ss rs : List Int} (P : BytesIn W s ss) (Q : BytesIn W r rs) :
    ∃ w2, law11_EscrowDeals K (dlC (set : Int) s need count own r) W = some ((true, ()), w2) ∧ Upd none_ W w2 := by
  obtain ⟨l, rfl⟩ := bytes_fb P.inn
  obtain ⟨L, rfl⟩ := bytes_fb Q.inn
  have hs : BSrc W s l := P.src
  have hr : BSrc W r L := Q.src
  obtain ⟨w0, n1, bc, u0, z0⟩ := newB_ok (dlC (set : Int) s need count own r) 25 W
  have bc : Bk 25 w0 W.heap.size (dlL (set : Int) s need count own r) := bc
  have b0 := (dl_lds bc).2.1
  obtain ⟨s1, c1, c2, c3⟩ := cut_ok hs 100
  have c1 : law11_cut s 100 = _ := c1
  obtain ⟨l1, hl1⟩ : ∃ x, x = l.take 100 := ⟨_, rfl⟩
  rw [← hl1] at c2 c3
  obtain ⟨w1, d1, d2, d3⟩ := bc.stC (i := 1) (by simp [dlL]) (slV s1)
  have d1 : stC ((⟨W.heap.size, 0, none⟩ : Addr).add 1) (.slice s1.a s1.len s1.cap) w0 = some w1 := by rw [add_lit]; exact d1
  have d2 : Bk 25 w1 W.heap.size (dlL (set : Int) s1 need count own r) := d2
  have u1 : Upd none_ W w1 := u0.trans' d3 fun k hk e => by omega
  have b1 : ldA 6 ⟨W.heap.size, 0, none⟩ w1 = some (dlC (set : Int) s1 need count own r) := d2.ldA (i := 0) (n := 6) (by simp [dlL])
  obtain ⟨r1, w2, R, e1, e2, e3, e4⟩ := random_ok hK (set := (set : Int)) (need := need) (count := count) (own := own) (c2.upd0 u1) (hr.upd0 u1)
  have u2 := u1.and0 e4
  have b2 := (dl_lds (d2.upd0 e4)).2.1
  obtain ⟨g1, cap1, w3, f1, f2, f3, f4⟩ := Bytes_ok hK (bs := l1.map bF) (c2.upd0 u2) (by rw [List.length_map]; omega)
  obtain ⟨g2, cap2, w4, h1, h2, h3, h4⟩ := Bytes_ok hK (bs := R.map bF) (e3.upd0 f4) (by rw [List.length_map]; omega)
  have u34 := f4.and0 h4
  have u4 := u2.and0 u34
  have bc4 := d2.upd0 (e4.and0 u34)
  obtain ⟨v0, v1, v2, v3, _, _⟩ := dl_lds bc4
  have f5 := f2.upd0 h4
  have k1 : BSrc w4 ⟨some ⟨g1, 0, none⟩, (l1.map bF).length, cap1⟩ l1 := (marked_front f5).src ints_one
  have k2 : BSrc w4 ⟨some ⟨g2, 0, none⟩, (R.map bF).length, cap2⟩ R := (marked_front h2).src ints_one
  have hg1 : g1 < w4.heap.size := (marked_front f5).lt rfl
  obtain ⟨sw, w5, i1, i2, i3, i4⟩ := rDeal_ok hK (T.upd0 u4) hset (need := need) (count := count) (c2.upd0 u4) (e3.upd0 u34)
  have u5 := u4.and0 i3
  obtain ⟨x0, x1, x2, x3, _, _⟩ := dl_lds (bc4.upd0 i3)
  obtain ⟨sa, w6, j1, j2, j3, j4⟩ := Deal_ok hK (T.upd0 u5).to hset (need := need) (count := count) (k1.upd0 i3) (k2.upd0 i3)
  have u6 := u5.and0 j3
  have i6 := i3.and0 j3
  obtain ⟨y0, y1, y2, y3, _, _⟩ := dl_lds (bc4.upd0 i6)
  obtain ⟨sb, w7, m1, m2, m3, m4⟩ := Deal_ok hK (T.upd0 u6).to hset (need := need) (count := count) (k1.upd0 i6) (k2.upd0 i6)
  have i7 := i6.and0 m3
  have u7 := u4.and0 i7
  have bc7 := bc4.upd0 i7
  have hs1l : s1.len = l1.length := by rw [c2.len, fb_length]
  have hT := dealT_len C S set l1 need count R
  -- the numbers
  have ud := (Upd.refl none_ w7).drew
  obtain ⟨_, q1, q2, _, _, _⟩ := dl_lds (bc7.upd0 ud)
  have s0 : law11_EscrowDeals_s0 K ⟨W.heap.size, 0, none⟩ (dealE l1.length need count R.length) (dealE l1.length need count R.length) (dealE l1.length need count R.length) w7 = some ((false, ()), w7.drew) := by
    unfold law11_EscrowDeals_s0 law11_num
    simp only [q1, q2, Option.bind_some, rnd_eq, rndL, hs1l]
    rw [if_neg (by simp), if_neg (by simp)]
    simp
  -- the texts
  have oa := (j2.upd0 m3).upd0 ud
  have ob := m2.upd0 ud
  have ow := ((i2.upd0 j3).upd0 m3).upd0 ud
  obtain ⟨w8, t1, t2⟩ := SameTexts_ok hK (by omega) (oa.src (tx_one _)) (ow.src (tx_one _))
  obtain ⟨w9, t3, t4⟩ := SameTexts_ok hK (by omega) ((ob.upd0 t2).src (tx_one _)) ((ow.upd0 t2).src (tx_one _))
  have u89 := (ud.and0 t2).and0 t4
  have u79 := i7.and0 u89
  have b9 := (dl_lds (bc7.upd0 u89)).2.1
  obtain ⟨w10, t5, t6⟩ := WholeBytes_ok hK (f5.upd0 u79) (xs := l1.map bF) (((c2.upd0 u4).upd0 u79)).rds (by rw [List.length_map]; omega)
  obtain ⟨w11, t7, t8⟩ := WholeBytes_ok hK ((h2.upd0 u79).upd0 t6) (xs := R.map bF) ((((e3.upd0 u34)).upd0 u79).upd0 t6).rds (by rw [List.length_map]; omega)
  have s1' : law11_EscrowDeals_s1 K ⟨W.heap.size, 0, none⟩ r1 ⟨some ⟨g1, 0, none⟩, (l1.map bF).length, cap1⟩ ⟨some ⟨g2, 0, none⟩, (R.map bF).length, cap2⟩ sw sa sb w7.drew = some ((false, ()), w11) := by
    unfold law11_EscrowDeals_s1
    rw [t1, bnd_ok]
    dsimp only
    rw [if_neg (by decide), t3, bnd_ok]
    dsimp only
    rw [if_neg (by decide), b9, Option.bind_some, t5, bnd_ok, decide_eq_true rfl]
    dsimp only
    rw [if_neg (by decide), t7, bnd_ok, decide_eq_true rfl]
    rfl
  have u911 := (t4.and0 t6).and0 t8
  have u811 := t2.and0 u911
  have u711 := ud.and0 u811
  have oa11 := oa.upd0 u811
  have ob11 := ob.upd0 u811
  have ow11 := ow.upd0 u811
  obtain ⟨w12, t9, t10⟩ := SpoilTexts_ok hK (by omega) oa11
  have z5 := i3.size
  have z6 := j3.size
  have z7 := m3.size
  have z11 := u711.size
  have hal : ∀ k, sa.blk = some k → k < w6.heap.size := fun k hk => j2.lt hk
  have hwl : ∀ k, sw.blk = some k → k < w5.heap.size := fun k hk => i2.lt hk
  have f12 : OwnS 5 w12 ⟨some ⟨g1, 0, none⟩, (l1.map bF).length, cap1⟩ (ints .u8 (l1.map bF)) := ((marked_front f5).upd0 (i7.and0 u711)).upd t10 fun k hk e => by
    have e2 : g1 = k := Option.some.inj hk
    have := j4 k e; omega
  obtain ⟨w13, t11, t12⟩ := SpoilBytes_ok hK f12.vw (by rw [List.length_map]; omega)
  have hb12 := ob11.upd t10 fun k hk e => by have := m4 k hk; have := hal k e; omega
  have hw12 := ow11.upd t10 fun k hk e => by have := hwl k hk; have := j4 k e; omega
  have hb13 := hb12.upd t12 fun k hk e => by
    have e2 : g1 = k := Option.some.inj e
    have := m4 k hk; omega
  have hw13 := hw12.upd t12 fun k hk e => by
    have e2 : g1 = k := Option.some.inj e
    have := i4 k hk; omega
  obtain ⟨w14, t13, t14⟩ := SameTexts_ok hK (by omega) (hb13.src (tx_one _)) (hw13.src (tx_one _))
  refine ⟨w14, ?_, (((u7.and0 u711).trans' t10 fun k hk e => ?_).trans' t12 fun k hk e => ?_).and0 t14⟩
  · unfold law11_EscrowDeals
    rw [n1, bnd_ok, b0, Option.bind_some, c1, Option.bind_some]
    dsimp only
    rw [d1, Option.bind_some, b1, Option.bind_some, e1, bnd_ok, b2, Option.bind_some, f1, bnd_ok]
    dsimp only
    rw [h1, bnd_ok, v0, Option.bind_some, v1, Option.bind_some, v2, Option.bind_some, v3, Option.bind_some, i1, bnd_ok, x0, Option.bind_some, x2, Option.bind_some, x3, Option.bind_some]
    dsimp only
    rw [j1, bnd_ok, y0, Option.bind_some, y2, Option.bind_some, y3, Option.bind_some, m1, bnd_ok]
    dsimp only
    rw [s0, bnd_ok]
    dsimp only
    rw [if_neg (by decide), s1', bnd_ok]
    dsimp only
    rw [if_neg (by decide), t9, bnd_ok, t11, bnd_ok, t13, bnd_ok]
  · have := j4 k e; have := u5.size; omega
  · have e2 : g1 = k := Option.some.inj e
    have := u2.size
    omega

end Go.Sh

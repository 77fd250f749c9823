/- What the rows lay of the package-level variables: the tables. -/
import Derived.Test.YtgmdbhckccmhjaaDoorOpen
import Derived.Test.YtgmdbhckccmhjaaDoorRows
import Derived.Lib.LaidTab
set_option linter.unusedVariables false
namespace Go.Sh
open Go.Fw Go.Sha Go.RowKit Go.Proofs.Tryd Go.Deep Go.ChangeShapes Go.WideShapes

def cubesC : List Int := [4794697086780616226, 8158064640168781261, 13096744586834688815, 16840607885511220156, 4131703408338449720, 6480981068601479193, 10538285296894168987, 12329834152419229976, 15566598209576043074, 1334009975649890238, 2608012711638119052, 6128411473006802146, 8268148722764581231, 9286055187155687089, 11230858885718282805, 13951009754708518548, 16472876342353939154, 17275323862435702243, 1135362057144423861, 2597628984639134821, 3308224258029322869, 5365058923640841347, 6679025012923562964, 8573033837759648693, 10970295158949994411, 12119686244451234320, 12683024718118986047, 13788192230050041572, 14330467153632333762, 15395433587784984357, 489312712824947311, 1452737877330783856, 2861767655752347644, 3322285676063803686, 5560940570517711597, 5996557281743188959, 7280758554555802590, 8532644243296465576, 9350256976987008742, 10552545826968843579, 11727347734174303076, 12113106623233404929, 14000437183269869457, 14369950271660146224, 15101387698204529176, 15463397548674623760, 17586052441742319658, 1182934255886127544, 1847814050463011016, 2177327727835720531, 2830643537854262169, 3796741975233480872, 4115178125766777443, 5681478168544905931, 6601373596472566643, 7507060721942968483, 8399075790359081724, 8693463985226723168, 9568029438360202098, 10144078919501101548, 10430055236837252648, 11840083180663258601, 13761210420658862357, 14299343276471374635, 14566680578165727644, 15097957966210449927, 16922976911328602910, 17689382322260857208, 500013540394364858, 748580250866718886, 1242879168328830382, 1977374033974150939, 2944078676154940804, 3659926193048069267, 4368137639120453308, 4836135668995329356, 5532061633213252278, 6448918945643986474, 6902733635092675308, 7801388544844847127]
def squaresS : List Int := [7640891576956012808, 13503953896175478587, 4354685564936845355, 11912009170470909681, 5840696475078001361, 11170449401992604703, 2270897969802886507, 6620516959819538809, 14680500436340154072, 7105036623409894663, 10473403895298186519, 1526699215303891257, 7436329637833083697, 10282925794625328401, 15784041429090275239, 5167115440072839076]

theorem tab_in {P : Program} {w : World} : ∀ {laid : List (String × DataW Unit)} {ps : List MemPlace}, DataW.LaidVars P w laid ps → ∀ {name : String} {k : IntKind} {zs : List Int} {g : Nat} {t e : TypeId} {n : Nat},
    (name, Lib.tabData k zs) ∈ laid → P.globalNamed name = some g → (P.globals[g]?).map (·.type) = some t → P.underlying t = some (.array n e) → P.underlying e = some (.int k) → P.cellsOf e = 1 → P.cellsOf t = n → Lib.TabIs P w name k zs
  | [], _, _, _, _, _, _, _, _, _, hm, _, _, _, _, _, _ => by simp at hm
  | x :: rest, ps, h, name, k, zs, g, t, e, n, hm, hg, hty, ht, he, hce, hct => by
    obtain ⟨g', t', cs, fuel, p, q, hg', ht', hvar, hd, h2, _⟩ := h
    rcases List.mem_cons.1 hm with rfl | hm
    · obtain rfl := Option.some.inj (hg.symm.trans hg')
      obtain rfl := Option.some.inj (hty.symm.trans ht')
      unfold Lib.TabIs
      rw [hvar, ← Lib.cells_of_tab ht he hce hct hd]
    · exact tab_in h2 hm hg hty ht he hce hct

theorem tab_rd {P : Program} {w : World} {name : String} {zs : List Int} {g : Nat} (h : Lib.TabIs P w name .u64 zs) (hg : P.globalNamed name = some g) : Rd w ⟨g, 0, none⟩ (ints .u64 zs) := by
  intro i v hv
  rw [add_lit, Nat.zero_add]
  have hi : i < zs.length := by have := (List.getElem?_eq_some_iff.1 hv).1; simpa using this
  rw [h.cell hg i hi]
  simp only [ints, List.getElem?_map, List.getElem?_eq_getElem hi] at hv
  rw [List.getD_eq_getElem?_getD, List.getElem?_eq_getElem hi]
  exact hv

theorem squares_in : ∀ i, InK .u64 (squaresS.getD i 0) := by
  have h : ∀ x ∈ squaresS, 0 ≤ x ∧ x < 18446744073709551616 := by decide +kernel
  intro i
  rw [List.getD_eq_getElem?_getD]
  cases hx : squaresS[i]? with
  | none => exact ⟨by decide, by decide⟩
  | some x => exact h x (List.mem_of_getElem? hx)

def laid2 : List (String × DataW Unit) := [("coffer/digest.cubes", Lib.tabData .u64 cubesC), ("coffer/digest.squares", Lib.tabData .u64 squaresS)]
def laid4 : List (String × DataW Unit) := [("coffer/cofferref01.cubes", Lib.tabData .u64 cubesC), ("coffer/cofferref01.squares", Lib.tabData .u64 squaresS), ("coffer/digest.cubes", Lib.tabData .u64 cubesC), ("coffer/digest.squares", Lib.tabData .u64 squaresS)]

theorem tabs2 {w : World} (h : laidMetH prog laid2 w) : Tabs w cubesC squaresS := by
  obtain ⟨ps, h, _⟩ : laidMet prog laid2 w := h
  exact ⟨rfl, rfl, squares_in,
    tab_rd (tab_in h (name := "coffer/digest.cubes") (zs := cubesC) (g := 2) (t := 125) (e := 57) (n := 80) (by simp [laid2]) (by kernel_rfl) (by kernel_rfl) (by kernel_rfl) (by kernel_rfl) (by kernel_rfl) (by kernel_rfl)) (by kernel_rfl),
    tab_rd (tab_in h (name := "coffer/digest.squares") (zs := squaresS) (g := 3) (t := 122) (e := 57) (n := 16) (by simp [laid2]) (by kernel_rfl) (by kernel_rfl) (by kernel_rfl) (by kernel_rfl) (by kernel_rfl) (by kernel_rfl)) (by kernel_rfl)⟩

theorem tabs4 {w : World} (h : laidMetH prog laid4 w) : TabsR w cubesC squaresS := by
  obtain ⟨ps, h, _⟩ : laidMet prog laid4 w := h
  exact ⟨⟨rfl, rfl, squares_in,
    tab_rd (tab_in h (name := "coffer/digest.cubes") (zs := cubesC) (g := 2) (t := 125) (e := 57) (n := 80) (by simp [laid4]) (by kernel_rfl) (by kernel_rfl) (by kernel_rfl) (by kernel_rfl) (by kernel_rfl) (by kernel_rfl)) (by kernel_rfl),
    tab_rd (tab_in h (name := "coffer/digest.squares") (zs := squaresS) (g := 3) (t := 122) (e := 57) (n := 16) (by simp [laid4]) (by kernel_rfl) (by kernel_rfl) (by kernel_rfl) (by kernel_rfl) (by kernel_rfl) (by kernel_rfl)) (by kernel_rfl)⟩,
    tab_rd (tab_in h (name := "coffer/cofferref01.cubes") (zs := cubesC) (g := 1) (t := 125) (e := 57) (n := 80) (by simp [laid4]) (by kernel_rfl) (by kernel_rfl) (by kernel_rfl) (by kernel_rfl) (by kernel_rfl) (by kernel_rfl)) (by kernel_rfl),
    tab_rd (tab_in h (name := "coffer/cofferref01.squares") (zs := squaresS) (g := 0) (t := 122) (e := 57) (n := 16) (by simp [laid4]) (by kernel_rfl) (by kernel_rfl) (by kernel_rfl) (by kernel_rfl) (by kernel_rfl) (by kernel_rfl)) (by kernel_rfl)⟩

end Go.Sh

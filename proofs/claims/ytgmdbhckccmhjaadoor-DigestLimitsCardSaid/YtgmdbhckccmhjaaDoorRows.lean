/-
  NARROWER THAN 'FOR EVERY INPUT', by the rows' own cells (each row's printed sentence says how): DigestSizes: laid · DigestSums: laid · DigestCodes: laid · DigestStretches: laid · DigestExpands: laid · DigestFull: laid · DigestMost: laid · DigestKeys: laid · DigestCuts: laid · DigestPrefixes: laid · DigestNone: laid · DigestStreams: laid · DigestMacs: laid · DigestLimits: laid · DigestVectors: laid.
  DERIVED. THE GIVEN ROWS OF THIS SEAT. 15 by the template 'for every input the law returns true; each argument reads behind the call as it read before'; 0 by the template 'total and deterministic' (their statements: YtgmdbhckccmhjaaDoorTotals.lean).
  GIVEN WITH THE SEED: the statements are not yours to turn. If you find one false, say at which input.
  Laid BY PROGRAM, IN A SANDBOX (cutbox-rows.mjs): the forced cells as the released guide's own fill.sh prints them over the translation 6ea27d7616d9ee43… (all of the seat's roots in one cut). By AI agents, Wed Nov 11 2026. No macro, syntax, notation, axiom, sorry.
-/
import Derived.Test.YtgmdbhckccmhjaaDoorChecked
import GoSem.Claim
import GoSem.ClaimJoined
import GoSem.ClaimMapViews
import Derived.JoinedTies
import Derived.KernelRfl
namespace Go.Proofs.YtgmdbhckccmhjaaDoor
/- THE CELL 'sum', in the pinned program and in every row, IS THE sha256 OF THE DUMP (.gsa) THAT YtgmdbhckccmhjaaDoorProg.lean LOADS. Nothing in Lean hashes anything: it is a label: what it is worth is what the hold of that sum in a sandbox is worth. -/
noncomputable def Tryd.pinned : Pinned := { name := "ytgmdbhckccmhjaadoor", sum := "6ea27d7616d9ee4391f047cf357bf199568e663f5ad0d77534da34086ea90112", checked := Tryd.checked }
namespace Rows
def none {H : Type} : Left H := { results := [], args := [] }

/- WHAT THE LISTED PACKAGE-LEVEL VARIABLES READ AS WHEN THE CALL BEGINS. Each datum BY PROGRAM (the guide's laid-datum.mjs) off the statement by which the dump's own 'gosem.cut.vars' lays the variable. In a bare row this is a premise. The card (YtgmdbhckccmhjaaDoorCards.lean) ties it to the program's text. -/
def laid_coffer_digest_cubes {H : Type} : DataW H := .agg [.lit (.int .u64 4794697086780616226), .lit (.int .u64 8158064640168781261), .lit (.int .u64 13096744586834688815), .lit (.int .u64 16840607885511220156), .lit (.int .u64 4131703408338449720), .lit (.int .u64 6480981068601479193), .lit (.int .u64 10538285296894168987), .lit (.int .u64 12329834152419229976), .lit (.int .u64 15566598209576043074), .lit (.int .u64 1334009975649890238), .lit (.int .u64 2608012711638119052), .lit (.int .u64 6128411473006802146), .lit (.int .u64 8268148722764581231), .lit (.int .u64 9286055187155687089), .lit (.int .u64 11230858885718282805), .lit (.int .u64 13951009754708518548), .lit (.int .u64 16472876342353939154), .lit (.int .u64 17275323862435702243), .lit (.int .u64 1135362057144423861), .lit (.int .u64 2597628984639134821), .lit (.int .u64 3308224258029322869), .lit (.int .u64 5365058923640841347), .lit (.int .u64 6679025012923562964), .lit (.int .u64 8573033837759648693), .lit (.int .u64 10970295158949994411), .lit (.int .u64 12119686244451234320), .lit (.int .u64 12683024718118986047), .lit (.int .u64 13788192230050041572), .lit (.int .u64 14330467153632333762), .lit (.int .u64 15395433587784984357), .lit (.int .u64 489312712824947311), .lit (.int .u64 1452737877330783856), .lit (.int .u64 2861767655752347644), .lit (.int .u64 3322285676063803686), .lit (.int .u64 5560940570517711597), .lit (.int .u64 5996557281743188959), .lit (.int .u64 7280758554555802590), .lit (.int .u64 8532644243296465576), .lit (.int .u64 9350256976987008742), .lit (.int .u64 10552545826968843579), .lit (.int .u64 11727347734174303076), .lit (.int .u64 12113106623233404929), .lit (.int .u64 14000437183269869457), .lit (.int .u64 14369950271660146224), .lit (.int .u64 15101387698204529176), .lit (.int .u64 15463397548674623760), .lit (.int .u64 17586052441742319658), .lit (.int .u64 1182934255886127544), .lit (.int .u64 1847814050463011016), .lit (.int .u64 2177327727835720531), .lit (.int .u64 2830643537854262169), .lit (.int .u64 3796741975233480872), .lit (.int .u64 4115178125766777443), .lit (.int .u64 5681478168544905931), .lit (.int .u64 6601373596472566643), .lit (.int .u64 7507060721942968483), .lit (.int .u64 8399075790359081724), .lit (.int .u64 8693463985226723168), .lit (.int .u64 9568029438360202098), .lit (.int .u64 10144078919501101548), .lit (.int .u64 10430055236837252648), .lit (.int .u64 11840083180663258601), .lit (.int .u64 13761210420658862357), .lit (.int .u64 14299343276471374635), .lit (.int .u64 14566680578165727644), .lit (.int .u64 15097957966210449927), .lit (.int .u64 16922976911328602910), .lit (.int .u64 17689382322260857208), .lit (.int .u64 500013540394364858), .lit (.int .u64 748580250866718886), .lit (.int .u64 1242879168328830382), .lit (.int .u64 1977374033974150939), .lit (.int .u64 2944078676154940804), .lit (.int .u64 3659926193048069267), .lit (.int .u64 4368137639120453308), .lit (.int .u64 4836135668995329356), .lit (.int .u64 5532061633213252278), .lit (.int .u64 6448918945643986474), .lit (.int .u64 6902733635092675308), .lit (.int .u64 7801388544844847127)]
def laid_coffer_cofferref01_cubes {H : Type} : DataW H := .agg [.lit (.int .u64 4794697086780616226), .lit (.int .u64 8158064640168781261), .lit (.int .u64 13096744586834688815), .lit (.int .u64 16840607885511220156), .lit (.int .u64 4131703408338449720), .lit (.int .u64 6480981068601479193), .lit (.int .u64 10538285296894168987), .lit (.int .u64 12329834152419229976), .lit (.int .u64 15566598209576043074), .lit (.int .u64 1334009975649890238), .lit (.int .u64 2608012711638119052), .lit (.int .u64 6128411473006802146), .lit (.int .u64 8268148722764581231), .lit (.int .u64 9286055187155687089), .lit (.int .u64 11230858885718282805), .lit (.int .u64 13951009754708518548), .lit (.int .u64 16472876342353939154), .lit (.int .u64 17275323862435702243), .lit (.int .u64 1135362057144423861), .lit (.int .u64 2597628984639134821), .lit (.int .u64 3308224258029322869), .lit (.int .u64 5365058923640841347), .lit (.int .u64 6679025012923562964), .lit (.int .u64 8573033837759648693), .lit (.int .u64 10970295158949994411), .lit (.int .u64 12119686244451234320), .lit (.int .u64 12683024718118986047), .lit (.int .u64 13788192230050041572), .lit (.int .u64 14330467153632333762), .lit (.int .u64 15395433587784984357), .lit (.int .u64 489312712824947311), .lit (.int .u64 1452737877330783856), .lit (.int .u64 2861767655752347644), .lit (.int .u64 3322285676063803686), .lit (.int .u64 5560940570517711597), .lit (.int .u64 5996557281743188959), .lit (.int .u64 7280758554555802590), .lit (.int .u64 8532644243296465576), .lit (.int .u64 9350256976987008742), .lit (.int .u64 10552545826968843579), .lit (.int .u64 11727347734174303076), .lit (.int .u64 12113106623233404929), .lit (.int .u64 14000437183269869457), .lit (.int .u64 14369950271660146224), .lit (.int .u64 15101387698204529176), .lit (.int .u64 15463397548674623760), .lit (.int .u64 17586052441742319658), .lit (.int .u64 1182934255886127544), .lit (.int .u64 1847814050463011016), .lit (.int .u64 2177327727835720531), .lit (.int .u64 2830643537854262169), .lit (.int .u64 3796741975233480872), .lit (.int .u64 4115178125766777443), .lit (.int .u64 5681478168544905931), .lit (.int .u64 6601373596472566643), .lit (.int .u64 7507060721942968483), .lit (.int .u64 8399075790359081724), .lit (.int .u64 8693463985226723168), .lit (.int .u64 9568029438360202098), .lit (.int .u64 10144078919501101548), .lit (.int .u64 10430055236837252648), .lit (.int .u64 11840083180663258601), .lit (.int .u64 13761210420658862357), .lit (.int .u64 14299343276471374635), .lit (.int .u64 14566680578165727644), .lit (.int .u64 15097957966210449927), .lit (.int .u64 16922976911328602910), .lit (.int .u64 17689382322260857208), .lit (.int .u64 500013540394364858), .lit (.int .u64 748580250866718886), .lit (.int .u64 1242879168328830382), .lit (.int .u64 1977374033974150939), .lit (.int .u64 2944078676154940804), .lit (.int .u64 3659926193048069267), .lit (.int .u64 4368137639120453308), .lit (.int .u64 4836135668995329356), .lit (.int .u64 5532061633213252278), .lit (.int .u64 6448918945643986474), .lit (.int .u64 6902733635092675308), .lit (.int .u64 7801388544844847127)]
def laid_coffer_cofferref01_squares {H : Type} : DataW H := .agg [.lit (.int .u64 7640891576956012808), .lit (.int .u64 13503953896175478587), .lit (.int .u64 4354685564936845355), .lit (.int .u64 11912009170470909681), .lit (.int .u64 5840696475078001361), .lit (.int .u64 11170449401992604703), .lit (.int .u64 2270897969802886507), .lit (.int .u64 6620516959819538809), .lit (.int .u64 14680500436340154072), .lit (.int .u64 7105036623409894663), .lit (.int .u64 10473403895298186519), .lit (.int .u64 1526699215303891257), .lit (.int .u64 7436329637833083697), .lit (.int .u64 10282925794625328401), .lit (.int .u64 15784041429090275239), .lit (.int .u64 5167115440072839076)]
def laid_coffer_digest_squares {H : Type} : DataW H := .agg [.lit (.int .u64 7640891576956012808), .lit (.int .u64 13503953896175478587), .lit (.int .u64 4354685564936845355), .lit (.int .u64 11912009170470909681), .lit (.int .u64 5840696475078001361), .lit (.int .u64 11170449401992604703), .lit (.int .u64 2270897969802886507), .lit (.int .u64 6620516959819538809), .lit (.int .u64 14680500436340154072), .lit (.int .u64 7105036623409894663), .lit (.int .u64 10473403895298186519), .lit (.int .u64 1526699215303891257), .lit (.int .u64 7436329637833083697), .lit (.int .u64 10282925794625328401), .lit (.int .u64 15784041429090275239), .lit (.int .u64 5167115440072839076)]

/-- 'cofferlaw01.DigestSizes': WHATEVER THE INPUT: true; the input reads as it did. -/
def digestSizesSpec : ChangeSpec := { name := "digestSizes", fn := fun _ => fun
  | [d] => { results := [.lit (.bool true)], args := [d] }
  | _ => none }
def digestSizesRow : OpenClaim := { program := "ytgmdbhckccmhjaadoor", sum := "6ea27d7616d9ee4391f047cf357bf199568e663f5ad0d77534da34086ea90112", func := "coffer/cofferlaw01.DigestSizes", spec := "digestSizes", named := ["coffer/digest.cubes"], apart := false, laid := [("coffer/digest.cubes", laid_coffer_digest_cubes)] }
def DigestSizesSaid : Prop := digestSizesRow.holds Tryd.pinned (OpenSpec.ofChange digestSizesSpec)

/-- ITS FALSE NEIGHBOUR: 'it returns false'. Refute it at one input. -/
def digestSizesWrong : ChangeSpec := { name := "digestSizes", fn := fun _ => fun
  | [d] => { results := [.lit (.bool false)], args := [d] }
  | _ => none }
def DigestSizesWrongFalsely : Prop := digestSizesRow.holds Tryd.pinned (OpenSpec.ofChange digestSizesWrong)

/-- 'cofferlaw01.DigestSums': WHATEVER THE INPUT: true; the input reads as it did. -/
def digestSumsSpec : ChangeSpec := { name := "digestSums", fn := fun _ => fun
  | [d1, d2] => { results := [.lit (.bool true)], args := [d1, d2] }
  | _ => none }
def digestSumsRow : OpenClaim := { program := "ytgmdbhckccmhjaadoor", sum := "6ea27d7616d9ee4391f047cf357bf199568e663f5ad0d77534da34086ea90112", func := "coffer/cofferlaw01.DigestSums", spec := "digestSums", unfollowed := true, recurses := true, named := ["coffer/digest.cubes", "coffer/digest.squares", "coffer/cofferref01.squares", "coffer/cofferref01.cubes"], apart := false, laid := [("coffer/cofferref01.cubes", laid_coffer_cofferref01_cubes), ("coffer/cofferref01.squares", laid_coffer_cofferref01_squares), ("coffer/digest.cubes", laid_coffer_digest_cubes), ("coffer/digest.squares", laid_coffer_digest_squares)] }
def DigestSumsSaid : Prop := digestSumsRow.holds Tryd.pinned (OpenSpec.ofChange digestSumsSpec)

/-- ITS FALSE NEIGHBOUR: 'it returns false'. Refute it at one input. -/
def digestSumsWrong : ChangeSpec := { name := "digestSums", fn := fun _ => fun
  | [d1, d2] => { results := [.lit (.bool false)], args := [d1, d2] }
  | _ => none }
def DigestSumsWrongFalsely : Prop := digestSumsRow.holds Tryd.pinned (OpenSpec.ofChange digestSumsWrong)

/-- 'cofferlaw01.DigestCodes': WHATEVER THE INPUT: true; the input reads as it did. -/
def digestCodesSpec : ChangeSpec := { name := "digestCodes", fn := fun _ => fun
  | [d1, d2, d3] => { results := [.lit (.bool true)], args := [d1, d2, d3] }
  | _ => none }
def digestCodesRow : OpenClaim := { program := "ytgmdbhckccmhjaadoor", sum := "6ea27d7616d9ee4391f047cf357bf199568e663f5ad0d77534da34086ea90112", func := "coffer/cofferlaw01.DigestCodes", spec := "digestCodes", unfollowed := true, recurses := true, named := ["coffer/digest.cubes", "coffer/digest.squares", "coffer/cofferref01.squares", "coffer/cofferref01.cubes"], apart := false, laid := [("coffer/cofferref01.cubes", laid_coffer_cofferref01_cubes), ("coffer/cofferref01.squares", laid_coffer_cofferref01_squares), ("coffer/digest.cubes", laid_coffer_digest_cubes), ("coffer/digest.squares", laid_coffer_digest_squares)] }
def DigestCodesSaid : Prop := digestCodesRow.holds Tryd.pinned (OpenSpec.ofChange digestCodesSpec)

/-- ITS FALSE NEIGHBOUR: 'it returns false'. Refute it at one input. -/
def digestCodesWrong : ChangeSpec := { name := "digestCodes", fn := fun _ => fun
  | [d1, d2, d3] => { results := [.lit (.bool false)], args := [d1, d2, d3] }
  | _ => none }
def DigestCodesWrongFalsely : Prop := digestCodesRow.holds Tryd.pinned (OpenSpec.ofChange digestCodesWrong)

/-- 'cofferlaw01.DigestStretches': WHATEVER THE INPUT: true; the input reads as it did. -/
def digestStretchesSpec : ChangeSpec := { name := "digestStretches", fn := fun _ => fun
  | [d] => { results := [.lit (.bool true)], args := [d] }
  | _ => none }
def digestStretchesRow : OpenClaim := { program := "ytgmdbhckccmhjaadoor", sum := "6ea27d7616d9ee4391f047cf357bf199568e663f5ad0d77534da34086ea90112", func := "coffer/cofferlaw01.DigestStretches", spec := "digestStretches", unfollowed := true, recurses := true, named := ["coffer/digest.cubes", "coffer/digest.squares", "coffer/cofferref01.squares", "coffer/cofferref01.cubes"], apart := false, laid := [("coffer/cofferref01.cubes", laid_coffer_cofferref01_cubes), ("coffer/cofferref01.squares", laid_coffer_cofferref01_squares), ("coffer/digest.cubes", laid_coffer_digest_cubes), ("coffer/digest.squares", laid_coffer_digest_squares)] }
def DigestStretchesSaid : Prop := digestStretchesRow.holds Tryd.pinned (OpenSpec.ofChange digestStretchesSpec)

/-- ITS FALSE NEIGHBOUR: 'it returns false'. Refute it at one input. -/
def digestStretchesWrong : ChangeSpec := { name := "digestStretches", fn := fun _ => fun
  | [d] => { results := [.lit (.bool false)], args := [d] }
  | _ => none }
def DigestStretchesWrongFalsely : Prop := digestStretchesRow.holds Tryd.pinned (OpenSpec.ofChange digestStretchesWrong)

/-- 'cofferlaw01.DigestExpands': WHATEVER THE INPUT: true; the input reads as it did. -/
def digestExpandsSpec : ChangeSpec := { name := "digestExpands", fn := fun _ => fun
  | [d] => { results := [.lit (.bool true)], args := [d] }
  | _ => none }
def digestExpandsRow : OpenClaim := { program := "ytgmdbhckccmhjaadoor", sum := "6ea27d7616d9ee4391f047cf357bf199568e663f5ad0d77534da34086ea90112", func := "coffer/cofferlaw01.DigestExpands", spec := "digestExpands", unfollowed := true, recurses := true, named := ["coffer/digest.cubes", "coffer/digest.squares", "coffer/cofferref01.squares", "coffer/cofferref01.cubes"], apart := false, laid := [("coffer/cofferref01.cubes", laid_coffer_cofferref01_cubes), ("coffer/cofferref01.squares", laid_coffer_cofferref01_squares), ("coffer/digest.cubes", laid_coffer_digest_cubes), ("coffer/digest.squares", laid_coffer_digest_squares)] }
def DigestExpandsSaid : Prop := digestExpandsRow.holds Tryd.pinned (OpenSpec.ofChange digestExpandsSpec)

/-- ITS FALSE NEIGHBOUR: 'it returns false'. Refute it at one input. -/
def digestExpandsWrong : ChangeSpec := { name := "digestExpands", fn := fun _ => fun
  | [d] => { results := [.lit (.bool false)], args := [d] }
  | _ => none }
def DigestExpandsWrongFalsely : Prop := digestExpandsRow.holds Tryd.pinned (OpenSpec.ofChange digestExpandsWrong)

/-- 'cofferlaw01.DigestFull': WHATEVER THE INPUT: true; the input reads as it did. -/
def digestFullSpec : ChangeSpec := { name := "digestFull", fn := fun _ => fun
  | [] => { results := [.lit (.bool true)], args := [] }
  | _ => none }
def digestFullRow : OpenClaim := { program := "ytgmdbhckccmhjaadoor", sum := "6ea27d7616d9ee4391f047cf357bf199568e663f5ad0d77534da34086ea90112", func := "coffer/cofferlaw01.DigestFull", spec := "digestFull", unfollowed := true, recurses := true, named := ["coffer/digest.cubes", "coffer/digest.squares"], apart := false, laid := [("coffer/digest.cubes", laid_coffer_digest_cubes), ("coffer/digest.squares", laid_coffer_digest_squares)] }
def DigestFullSaid : Prop := digestFullRow.holds Tryd.pinned (OpenSpec.ofChange digestFullSpec)

/-- ITS FALSE NEIGHBOUR: 'it returns false'. Refute it at one input. -/
def digestFullWrong : ChangeSpec := { name := "digestFull", fn := fun _ => fun
  | [] => { results := [.lit (.bool false)], args := [] }
  | _ => none }
def DigestFullWrongFalsely : Prop := digestFullRow.holds Tryd.pinned (OpenSpec.ofChange digestFullWrong)

/-- 'cofferlaw01.DigestMost': WHATEVER THE INPUT: true; the input reads as it did. -/
def digestMostSpec : ChangeSpec := { name := "digestMost", fn := fun _ => fun
  | [] => { results := [.lit (.bool true)], args := [] }
  | _ => none }
def digestMostRow : OpenClaim := { program := "ytgmdbhckccmhjaadoor", sum := "6ea27d7616d9ee4391f047cf357bf199568e663f5ad0d77534da34086ea90112", func := "coffer/cofferlaw01.DigestMost", spec := "digestMost", inPlace := ["internal/abi.NoEscape"], unfollowed := true, recurses := true, named := ["coffer/digest.cubes", "coffer/digest.squares"], apart := false, laid := [("coffer/digest.cubes", laid_coffer_digest_cubes), ("coffer/digest.squares", laid_coffer_digest_squares)] }
def DigestMostSaid : Prop := digestMostRow.holds Tryd.pinned (OpenSpec.ofChange digestMostSpec)

/-- ITS FALSE NEIGHBOUR: 'it returns false'. Refute it at one input. -/
def digestMostWrong : ChangeSpec := { name := "digestMost", fn := fun _ => fun
  | [] => { results := [.lit (.bool false)], args := [] }
  | _ => none }
def DigestMostWrongFalsely : Prop := digestMostRow.holds Tryd.pinned (OpenSpec.ofChange digestMostWrong)

/-- 'cofferlaw01.DigestKeys': WHATEVER THE INPUT: true; the input reads as it did. -/
def digestKeysSpec : ChangeSpec := { name := "digestKeys", fn := fun _ => fun
  | [d] => { results := [.lit (.bool true)], args := [d] }
  | _ => none }
def digestKeysRow : OpenClaim := { program := "ytgmdbhckccmhjaadoor", sum := "6ea27d7616d9ee4391f047cf357bf199568e663f5ad0d77534da34086ea90112", func := "coffer/cofferlaw01.DigestKeys", spec := "digestKeys", unfollowed := true, recurses := true, named := ["coffer/digest.cubes", "coffer/digest.squares"], apart := false, laid := [("coffer/digest.cubes", laid_coffer_digest_cubes), ("coffer/digest.squares", laid_coffer_digest_squares)] }
def DigestKeysSaid : Prop := digestKeysRow.holds Tryd.pinned (OpenSpec.ofChange digestKeysSpec)

/-- ITS FALSE NEIGHBOUR: 'it returns false'. Refute it at one input. -/
def digestKeysWrong : ChangeSpec := { name := "digestKeys", fn := fun _ => fun
  | [d] => { results := [.lit (.bool false)], args := [d] }
  | _ => none }
def DigestKeysWrongFalsely : Prop := digestKeysRow.holds Tryd.pinned (OpenSpec.ofChange digestKeysWrong)

/-- 'cofferlaw01.DigestCuts': WHATEVER THE INPUT: true; the input reads as it did. -/
def digestCutsSpec : ChangeSpec := { name := "digestCuts", fn := fun _ => fun
  | [d] => { results := [.lit (.bool true)], args := [d] }
  | _ => none }
def digestCutsRow : OpenClaim := { program := "ytgmdbhckccmhjaadoor", sum := "6ea27d7616d9ee4391f047cf357bf199568e663f5ad0d77534da34086ea90112", func := "coffer/cofferlaw01.DigestCuts", spec := "digestCuts", unfollowed := true, recurses := true, named := ["coffer/digest.cubes", "coffer/digest.squares"], apart := false, laid := [("coffer/digest.cubes", laid_coffer_digest_cubes), ("coffer/digest.squares", laid_coffer_digest_squares)] }
def DigestCutsSaid : Prop := digestCutsRow.holds Tryd.pinned (OpenSpec.ofChange digestCutsSpec)

/-- ITS FALSE NEIGHBOUR: 'it returns false'. Refute it at one input. -/
def digestCutsWrong : ChangeSpec := { name := "digestCuts", fn := fun _ => fun
  | [d] => { results := [.lit (.bool false)], args := [d] }
  | _ => none }
def DigestCutsWrongFalsely : Prop := digestCutsRow.holds Tryd.pinned (OpenSpec.ofChange digestCutsWrong)

/-- 'cofferlaw01.DigestPrefixes': WHATEVER THE INPUT: true; the input reads as it did. -/
def digestPrefixesSpec : ChangeSpec := { name := "digestPrefixes", fn := fun _ => fun
  | [d1, d2] => { results := [.lit (.bool true)], args := [d1, d2] }
  | _ => none }
def digestPrefixesRow : OpenClaim := { program := "ytgmdbhckccmhjaadoor", sum := "6ea27d7616d9ee4391f047cf357bf199568e663f5ad0d77534da34086ea90112", func := "coffer/cofferlaw01.DigestPrefixes", spec := "digestPrefixes", unfollowed := true, recurses := true, named := ["coffer/digest.cubes", "coffer/digest.squares"], apart := false, laid := [("coffer/digest.cubes", laid_coffer_digest_cubes), ("coffer/digest.squares", laid_coffer_digest_squares)] }
def DigestPrefixesSaid : Prop := digestPrefixesRow.holds Tryd.pinned (OpenSpec.ofChange digestPrefixesSpec)

/-- ITS FALSE NEIGHBOUR: 'it returns false'. Refute it at one input. -/
def digestPrefixesWrong : ChangeSpec := { name := "digestPrefixes", fn := fun _ => fun
  | [d1, d2] => { results := [.lit (.bool false)], args := [d1, d2] }
  | _ => none }
def DigestPrefixesWrongFalsely : Prop := digestPrefixesRow.holds Tryd.pinned (OpenSpec.ofChange digestPrefixesWrong)

/-- 'cofferlaw01.DigestNone': WHATEVER THE INPUT: true; the input reads as it did. -/
def digestNoneSpec : ChangeSpec := { name := "digestNone", fn := fun _ => fun
  | [] => { results := [.lit (.bool true)], args := [] }
  | _ => none }
def digestNoneRow : OpenClaim := { program := "ytgmdbhckccmhjaadoor", sum := "6ea27d7616d9ee4391f047cf357bf199568e663f5ad0d77534da34086ea90112", func := "coffer/cofferlaw01.DigestNone", spec := "digestNone", unfollowed := true, recurses := true, named := ["coffer/digest.cubes", "coffer/digest.squares"], apart := false, laid := [("coffer/digest.cubes", laid_coffer_digest_cubes), ("coffer/digest.squares", laid_coffer_digest_squares)] }
def DigestNoneSaid : Prop := digestNoneRow.holds Tryd.pinned (OpenSpec.ofChange digestNoneSpec)

/-- ITS FALSE NEIGHBOUR: 'it returns false'. Refute it at one input. -/
def digestNoneWrong : ChangeSpec := { name := "digestNone", fn := fun _ => fun
  | [] => { results := [.lit (.bool false)], args := [] }
  | _ => none }
def DigestNoneWrongFalsely : Prop := digestNoneRow.holds Tryd.pinned (OpenSpec.ofChange digestNoneWrong)

/-- 'cofferlaw01.DigestStreams': WHATEVER THE INPUT: true; the input reads as it did. -/
def digestStreamsSpec : ChangeSpec := { name := "digestStreams", fn := fun _ => fun
  | [d] => { results := [.lit (.bool true)], args := [d] }
  | _ => none }
def digestStreamsRow : OpenClaim := { program := "ytgmdbhckccmhjaadoor", sum := "6ea27d7616d9ee4391f047cf357bf199568e663f5ad0d77534da34086ea90112", func := "coffer/cofferlaw01.DigestStreams", spec := "digestStreams", unfollowed := true, recurses := true, named := ["coffer/digest.cubes", "coffer/digest.squares", "coffer/cofferref01.squares", "coffer/cofferref01.cubes"], apart := false, laid := [("coffer/cofferref01.cubes", laid_coffer_cofferref01_cubes), ("coffer/cofferref01.squares", laid_coffer_cofferref01_squares), ("coffer/digest.cubes", laid_coffer_digest_cubes), ("coffer/digest.squares", laid_coffer_digest_squares)] }
def DigestStreamsSaid : Prop := digestStreamsRow.holds Tryd.pinned (OpenSpec.ofChange digestStreamsSpec)

/-- ITS FALSE NEIGHBOUR: 'it returns false'. Refute it at one input. -/
def digestStreamsWrong : ChangeSpec := { name := "digestStreams", fn := fun _ => fun
  | [d] => { results := [.lit (.bool false)], args := [d] }
  | _ => none }
def DigestStreamsWrongFalsely : Prop := digestStreamsRow.holds Tryd.pinned (OpenSpec.ofChange digestStreamsWrong)

/-- 'cofferlaw01.DigestMacs': WHATEVER THE INPUT: true; the input reads as it did. -/
def digestMacsSpec : ChangeSpec := { name := "digestMacs", fn := fun _ => fun
  | [d] => { results := [.lit (.bool true)], args := [d] }
  | _ => none }
def digestMacsRow : OpenClaim := { program := "ytgmdbhckccmhjaadoor", sum := "6ea27d7616d9ee4391f047cf357bf199568e663f5ad0d77534da34086ea90112", func := "coffer/cofferlaw01.DigestMacs", spec := "digestMacs", unfollowed := true, recurses := true, named := ["coffer/digest.cubes", "coffer/digest.squares", "coffer/cofferref01.squares", "coffer/cofferref01.cubes"], apart := false, laid := [("coffer/cofferref01.cubes", laid_coffer_cofferref01_cubes), ("coffer/cofferref01.squares", laid_coffer_cofferref01_squares), ("coffer/digest.cubes", laid_coffer_digest_cubes), ("coffer/digest.squares", laid_coffer_digest_squares)] }
def DigestMacsSaid : Prop := digestMacsRow.holds Tryd.pinned (OpenSpec.ofChange digestMacsSpec)

/-- ITS FALSE NEIGHBOUR: 'it returns false'. Refute it at one input. -/
def digestMacsWrong : ChangeSpec := { name := "digestMacs", fn := fun _ => fun
  | [d] => { results := [.lit (.bool false)], args := [d] }
  | _ => none }
def DigestMacsWrongFalsely : Prop := digestMacsRow.holds Tryd.pinned (OpenSpec.ofChange digestMacsWrong)

/-- 'cofferlaw01.DigestLimits': WHATEVER THE INPUT: true; the input reads as it did. -/
def digestLimitsSpec : ChangeSpec := { name := "digestLimits", fn := fun _ => fun
  | [] => { results := [.lit (.bool true)], args := [] }
  | _ => none }
def digestLimitsRow : OpenClaim := { program := "ytgmdbhckccmhjaadoor", sum := "6ea27d7616d9ee4391f047cf357bf199568e663f5ad0d77534da34086ea90112", func := "coffer/cofferlaw01.DigestLimits", spec := "digestLimits", inPlace := ["internal/abi.NoEscape"], unfollowed := true, recurses := true, named := ["coffer/digest.cubes", "coffer/digest.squares"], apart := false, laid := [("coffer/digest.cubes", laid_coffer_digest_cubes), ("coffer/digest.squares", laid_coffer_digest_squares)] }
def DigestLimitsSaid : Prop := digestLimitsRow.holds Tryd.pinned (OpenSpec.ofChange digestLimitsSpec)

/-- ITS FALSE NEIGHBOUR: 'it returns false'. Refute it at one input. -/
def digestLimitsWrong : ChangeSpec := { name := "digestLimits", fn := fun _ => fun
  | [] => { results := [.lit (.bool false)], args := [] }
  | _ => none }
def DigestLimitsWrongFalsely : Prop := digestLimitsRow.holds Tryd.pinned (OpenSpec.ofChange digestLimitsWrong)

/-- 'cofferlaw01.DigestVectors': WHATEVER THE INPUT: true; the input reads as it did. -/
def digestVectorsSpec : ChangeSpec := { name := "digestVectors", fn := fun _ => fun
  | [] => { results := [.lit (.bool true)], args := [] }
  | _ => none }
def digestVectorsRow : OpenClaim := { program := "ytgmdbhckccmhjaadoor", sum := "6ea27d7616d9ee4391f047cf357bf199568e663f5ad0d77534da34086ea90112", func := "coffer/cofferlaw01.DigestVectors", spec := "digestVectors", inPlace := ["internal/abi.NoEscape"], unfollowed := true, recurses := true, named := ["coffer/digest.cubes", "coffer/digest.squares"], apart := false, laid := [("coffer/digest.cubes", laid_coffer_digest_cubes), ("coffer/digest.squares", laid_coffer_digest_squares)] }
def DigestVectorsSaid : Prop := digestVectorsRow.holds Tryd.pinned (OpenSpec.ofChange digestVectorsSpec)

/-- ITS FALSE NEIGHBOUR: 'it returns false'. Refute it at one input. -/
def digestVectorsWrong : ChangeSpec := { name := "digestVectors", fn := fun _ => fun
  | [] => { results := [.lit (.bool false)], args := [] }
  | _ => none }
def DigestVectorsWrongFalsely : Prop := digestVectorsRow.holds Tryd.pinned (OpenSpec.ofChange digestVectorsWrong)

/- THE SECOND FORM. 'bulk': how many values and letters a reading holds, each counted each time it is reached (what is shared counts as often as it is met; a slice's spare places count too). A statement '..UptoSaid' is the law's where the arguments, and the package variables that the reading takes, are together of bulk at most 1048576: NARROWER than '..Said'. Prove '..Said' where nothing that the law and all that it calls make is longer than what came in: it says more and counts as full. Else prove '..UptoSaid'. A law counts once. -/
mutual
def uptoBulk {H : Type} : DataW H → Nat
  | .lit (.string bytes) => bytes.length + 1
  | .lit _ => 1
  | .nil => 1
  | .ptr d => uptoBulk d + 1
  | .slice elems spare => uptoBulkAll elems + uptoBulkAll spare + 1
  | .agg parts => uptoBulkAll parts + 1
  | .iface _ d => uptoBulk d + 1
  | .map entries => uptoBulkEntries entries + 1
  | .held _ => 1
def uptoBulkAll {H : Type} : List (DataW H) → Nat
  | [] => 0
  | d :: r => uptoBulk d + uptoBulkAll r
def uptoBulkEntries {H : Type} : List (Lit × DataW H) → Nat
  | [] => 0
  | x :: r => uptoBulkEntry x + uptoBulkEntries r
def uptoBulkEntry {H : Type} : Lit × DataW H → Nat
  | (.string bytes, d) => bytes.length + uptoBulk d + 1
  | (_, d) => uptoBulk d + 1
 end
def uptoSmall : (H : Type) → List (DataW H) → Bool := fun _ ds => decide (uptoBulkAll ds ≤ 1048576)
def OpenSpec.upto (s : _root_.Go.ChangeSpec) : _root_.Go.OpenSpec := { _root_.Go.OpenSpec.ofChange s with cond := some uptoSmall }

/-- 'cofferlaw01.DigestSizes', WHERE WHAT IT READS IS OF BULK AT MOST 1048576: true; the input reads as it did. -/
def digestSizesUptoRow : OpenClaim := { program := "ytgmdbhckccmhjaadoor", sum := "6ea27d7616d9ee4391f047cf357bf199568e663f5ad0d77534da34086ea90112", func := "coffer/cofferlaw01.DigestSizes", spec := "digestSizes", named := ["coffer/digest.cubes"], apart := false, laid := [("coffer/digest.cubes", laid_coffer_digest_cubes)], narrowed := true }
def DigestSizesUptoSaid : Prop := digestSizesUptoRow.holds Tryd.pinned (OpenSpec.upto digestSizesSpec)

/-- 'cofferlaw01.DigestSums', WHERE WHAT IT READS IS OF BULK AT MOST 1048576: true; the input reads as it did. -/
def digestSumsUptoRow : OpenClaim := { program := "ytgmdbhckccmhjaadoor", sum := "6ea27d7616d9ee4391f047cf357bf199568e663f5ad0d77534da34086ea90112", func := "coffer/cofferlaw01.DigestSums", spec := "digestSums", unfollowed := true, recurses := true, named := ["coffer/digest.cubes", "coffer/digest.squares", "coffer/cofferref01.squares", "coffer/cofferref01.cubes"], apart := false, laid := [("coffer/cofferref01.cubes", laid_coffer_cofferref01_cubes), ("coffer/cofferref01.squares", laid_coffer_cofferref01_squares), ("coffer/digest.cubes", laid_coffer_digest_cubes), ("coffer/digest.squares", laid_coffer_digest_squares)], narrowed := true }
def DigestSumsUptoSaid : Prop := digestSumsUptoRow.holds Tryd.pinned (OpenSpec.upto digestSumsSpec)

/-- 'cofferlaw01.DigestCodes', WHERE WHAT IT READS IS OF BULK AT MOST 1048576: true; the input reads as it did. -/
def digestCodesUptoRow : OpenClaim := { program := "ytgmdbhckccmhjaadoor", sum := "6ea27d7616d9ee4391f047cf357bf199568e663f5ad0d77534da34086ea90112", func := "coffer/cofferlaw01.DigestCodes", spec := "digestCodes", unfollowed := true, recurses := true, named := ["coffer/digest.cubes", "coffer/digest.squares", "coffer/cofferref01.squares", "coffer/cofferref01.cubes"], apart := false, laid := [("coffer/cofferref01.cubes", laid_coffer_cofferref01_cubes), ("coffer/cofferref01.squares", laid_coffer_cofferref01_squares), ("coffer/digest.cubes", laid_coffer_digest_cubes), ("coffer/digest.squares", laid_coffer_digest_squares)], narrowed := true }
def DigestCodesUptoSaid : Prop := digestCodesUptoRow.holds Tryd.pinned (OpenSpec.upto digestCodesSpec)

/-- 'cofferlaw01.DigestStretches', WHERE WHAT IT READS IS OF BULK AT MOST 1048576: true; the input reads as it did. -/
def digestStretchesUptoRow : OpenClaim := { program := "ytgmdbhckccmhjaadoor", sum := "6ea27d7616d9ee4391f047cf357bf199568e663f5ad0d77534da34086ea90112", func := "coffer/cofferlaw01.DigestStretches", spec := "digestStretches", unfollowed := true, recurses := true, named := ["coffer/digest.cubes", "coffer/digest.squares", "coffer/cofferref01.squares", "coffer/cofferref01.cubes"], apart := false, laid := [("coffer/cofferref01.cubes", laid_coffer_cofferref01_cubes), ("coffer/cofferref01.squares", laid_coffer_cofferref01_squares), ("coffer/digest.cubes", laid_coffer_digest_cubes), ("coffer/digest.squares", laid_coffer_digest_squares)], narrowed := true }
def DigestStretchesUptoSaid : Prop := digestStretchesUptoRow.holds Tryd.pinned (OpenSpec.upto digestStretchesSpec)

/-- 'cofferlaw01.DigestExpands', WHERE WHAT IT READS IS OF BULK AT MOST 1048576: true; the input reads as it did. -/
def digestExpandsUptoRow : OpenClaim := { program := "ytgmdbhckccmhjaadoor", sum := "6ea27d7616d9ee4391f047cf357bf199568e663f5ad0d77534da34086ea90112", func := "coffer/cofferlaw01.DigestExpands", spec := "digestExpands", unfollowed := true, recurses := true, named := ["coffer/digest.cubes", "coffer/digest.squares", "coffer/cofferref01.squares", "coffer/cofferref01.cubes"], apart := false, laid := [("coffer/cofferref01.cubes", laid_coffer_cofferref01_cubes), ("coffer/cofferref01.squares", laid_coffer_cofferref01_squares), ("coffer/digest.cubes", laid_coffer_digest_cubes), ("coffer/digest.squares", laid_coffer_digest_squares)], narrowed := true }
def DigestExpandsUptoSaid : Prop := digestExpandsUptoRow.holds Tryd.pinned (OpenSpec.upto digestExpandsSpec)

/-- 'cofferlaw01.DigestFull', WHERE WHAT IT READS IS OF BULK AT MOST 1048576: true; the input reads as it did. -/
def digestFullUptoRow : OpenClaim := { program := "ytgmdbhckccmhjaadoor", sum := "6ea27d7616d9ee4391f047cf357bf199568e663f5ad0d77534da34086ea90112", func := "coffer/cofferlaw01.DigestFull", spec := "digestFull", unfollowed := true, recurses := true, named := ["coffer/digest.cubes", "coffer/digest.squares"], apart := false, laid := [("coffer/digest.cubes", laid_coffer_digest_cubes), ("coffer/digest.squares", laid_coffer_digest_squares)], narrowed := true }
def DigestFullUptoSaid : Prop := digestFullUptoRow.holds Tryd.pinned (OpenSpec.upto digestFullSpec)

/-- 'cofferlaw01.DigestMost', WHERE WHAT IT READS IS OF BULK AT MOST 1048576: true; the input reads as it did. -/
def digestMostUptoRow : OpenClaim := { program := "ytgmdbhckccmhjaadoor", sum := "6ea27d7616d9ee4391f047cf357bf199568e663f5ad0d77534da34086ea90112", func := "coffer/cofferlaw01.DigestMost", spec := "digestMost", inPlace := ["internal/abi.NoEscape"], unfollowed := true, recurses := true, named := ["coffer/digest.cubes", "coffer/digest.squares"], apart := false, laid := [("coffer/digest.cubes", laid_coffer_digest_cubes), ("coffer/digest.squares", laid_coffer_digest_squares)], narrowed := true }
def DigestMostUptoSaid : Prop := digestMostUptoRow.holds Tryd.pinned (OpenSpec.upto digestMostSpec)

/-- 'cofferlaw01.DigestKeys', WHERE WHAT IT READS IS OF BULK AT MOST 1048576: true; the input reads as it did. -/
def digestKeysUptoRow : OpenClaim := { program := "ytgmdbhckccmhjaadoor", sum := "6ea27d7616d9ee4391f047cf357bf199568e663f5ad0d77534da34086ea90112", func := "coffer/cofferlaw01.DigestKeys", spec := "digestKeys", unfollowed := true, recurses := true, named := ["coffer/digest.cubes", "coffer/digest.squares"], apart := false, laid := [("coffer/digest.cubes", laid_coffer_digest_cubes), ("coffer/digest.squares", laid_coffer_digest_squares)], narrowed := true }
def DigestKeysUptoSaid : Prop := digestKeysUptoRow.holds Tryd.pinned (OpenSpec.upto digestKeysSpec)

/-- 'cofferlaw01.DigestCuts', WHERE WHAT IT READS IS OF BULK AT MOST 1048576: true; the input reads as it did. -/
def digestCutsUptoRow : OpenClaim := { program := "ytgmdbhckccmhjaadoor", sum := "6ea27d7616d9ee4391f047cf357bf199568e663f5ad0d77534da34086ea90112", func := "coffer/cofferlaw01.DigestCuts", spec := "digestCuts", unfollowed := true, recurses := true, named := ["coffer/digest.cubes", "coffer/digest.squares"], apart := false, laid := [("coffer/digest.cubes", laid_coffer_digest_cubes), ("coffer/digest.squares", laid_coffer_digest_squares)], narrowed := true }
def DigestCutsUptoSaid : Prop := digestCutsUptoRow.holds Tryd.pinned (OpenSpec.upto digestCutsSpec)

/-- 'cofferlaw01.DigestPrefixes', WHERE WHAT IT READS IS OF BULK AT MOST 1048576: true; the input reads as it did. -/
def digestPrefixesUptoRow : OpenClaim := { program := "ytgmdbhckccmhjaadoor", sum := "6ea27d7616d9ee4391f047cf357bf199568e663f5ad0d77534da34086ea90112", func := "coffer/cofferlaw01.DigestPrefixes", spec := "digestPrefixes", unfollowed := true, recurses := true, named := ["coffer/digest.cubes", "coffer/digest.squares"], apart := false, laid := [("coffer/digest.cubes", laid_coffer_digest_cubes), ("coffer/digest.squares", laid_coffer_digest_squares)], narrowed := true }
def DigestPrefixesUptoSaid : Prop := digestPrefixesUptoRow.holds Tryd.pinned (OpenSpec.upto digestPrefixesSpec)

/-- 'cofferlaw01.DigestNone', WHERE WHAT IT READS IS OF BULK AT MOST 1048576: true; the input reads as it did. -/
def digestNoneUptoRow : OpenClaim := { program := "ytgmdbhckccmhjaadoor", sum := "6ea27d7616d9ee4391f047cf357bf199568e663f5ad0d77534da34086ea90112", func := "coffer/cofferlaw01.DigestNone", spec := "digestNone", unfollowed := true, recurses := true, named := ["coffer/digest.cubes", "coffer/digest.squares"], apart := false, laid := [("coffer/digest.cubes", laid_coffer_digest_cubes), ("coffer/digest.squares", laid_coffer_digest_squares)], narrowed := true }
def DigestNoneUptoSaid : Prop := digestNoneUptoRow.holds Tryd.pinned (OpenSpec.upto digestNoneSpec)

/-- 'cofferlaw01.DigestStreams', WHERE WHAT IT READS IS OF BULK AT MOST 1048576: true; the input reads as it did. -/
def digestStreamsUptoRow : OpenClaim := { program := "ytgmdbhckccmhjaadoor", sum := "6ea27d7616d9ee4391f047cf357bf199568e663f5ad0d77534da34086ea90112", func := "coffer/cofferlaw01.DigestStreams", spec := "digestStreams", unfollowed := true, recurses := true, named := ["coffer/digest.cubes", "coffer/digest.squares", "coffer/cofferref01.squares", "coffer/cofferref01.cubes"], apart := false, laid := [("coffer/cofferref01.cubes", laid_coffer_cofferref01_cubes), ("coffer/cofferref01.squares", laid_coffer_cofferref01_squares), ("coffer/digest.cubes", laid_coffer_digest_cubes), ("coffer/digest.squares", laid_coffer_digest_squares)], narrowed := true }
def DigestStreamsUptoSaid : Prop := digestStreamsUptoRow.holds Tryd.pinned (OpenSpec.upto digestStreamsSpec)

/-- 'cofferlaw01.DigestMacs', WHERE WHAT IT READS IS OF BULK AT MOST 1048576: true; the input reads as it did. -/
def digestMacsUptoRow : OpenClaim := { program := "ytgmdbhckccmhjaadoor", sum := "6ea27d7616d9ee4391f047cf357bf199568e663f5ad0d77534da34086ea90112", func := "coffer/cofferlaw01.DigestMacs", spec := "digestMacs", unfollowed := true, recurses := true, named := ["coffer/digest.cubes", "coffer/digest.squares", "coffer/cofferref01.squares", "coffer/cofferref01.cubes"], apart := false, laid := [("coffer/cofferref01.cubes", laid_coffer_cofferref01_cubes), ("coffer/cofferref01.squares", laid_coffer_cofferref01_squares), ("coffer/digest.cubes", laid_coffer_digest_cubes), ("coffer/digest.squares", laid_coffer_digest_squares)], narrowed := true }
def DigestMacsUptoSaid : Prop := digestMacsUptoRow.holds Tryd.pinned (OpenSpec.upto digestMacsSpec)

/-- 'cofferlaw01.DigestLimits', WHERE WHAT IT READS IS OF BULK AT MOST 1048576: true; the input reads as it did. -/
def digestLimitsUptoRow : OpenClaim := { program := "ytgmdbhckccmhjaadoor", sum := "6ea27d7616d9ee4391f047cf357bf199568e663f5ad0d77534da34086ea90112", func := "coffer/cofferlaw01.DigestLimits", spec := "digestLimits", inPlace := ["internal/abi.NoEscape"], unfollowed := true, recurses := true, named := ["coffer/digest.cubes", "coffer/digest.squares"], apart := false, laid := [("coffer/digest.cubes", laid_coffer_digest_cubes), ("coffer/digest.squares", laid_coffer_digest_squares)], narrowed := true }
def DigestLimitsUptoSaid : Prop := digestLimitsUptoRow.holds Tryd.pinned (OpenSpec.upto digestLimitsSpec)

/-- 'cofferlaw01.DigestVectors', WHERE WHAT IT READS IS OF BULK AT MOST 1048576: true; the input reads as it did. -/
def digestVectorsUptoRow : OpenClaim := { program := "ytgmdbhckccmhjaadoor", sum := "6ea27d7616d9ee4391f047cf357bf199568e663f5ad0d77534da34086ea90112", func := "coffer/cofferlaw01.DigestVectors", spec := "digestVectors", inPlace := ["internal/abi.NoEscape"], unfollowed := true, recurses := true, named := ["coffer/digest.cubes", "coffer/digest.squares"], apart := false, laid := [("coffer/digest.cubes", laid_coffer_digest_cubes), ("coffer/digest.squares", laid_coffer_digest_squares)], narrowed := true }
def DigestVectorsUptoSaid : Prop := digestVectorsUptoRow.holds Tryd.pinned (OpenSpec.upto digestVectorsSpec)

end Rows
end Go.Proofs.YtgmdbhckccmhjaaDoor

/-
  NARROWER THAN 'FOR EVERY INPUT', by the rows' own cells (each row's printed sentence says how): EscrowDeals: laid · EscrowJoins: laid · EscrowAny: laid · EscrowFar: laid · EscrowHides: laid · EscrowSplits: laid · EscrowMended: laid · EscrowExtends: laid · EscrowDrawn: laid.
  DERIVED. THE GIVEN ROWS OF THIS SEAT. 9 by the template 'for every input the law returns true; each argument reads behind the call as it read before'; 0 by the template 'total and deterministic' (their statements: YteomkfcfhlljkaaDoorTotals.lean).
  GIVEN WITH THE SEED: the statements are not yours to turn. If you find one false, say at which input.
  Laid BY PROGRAM, IN A SANDBOX (cutbox-rows.mjs): the forced cells as the released guide's own fill.sh prints them over the translation d135b1eb466a5c86… (all of the seat's roots in one cut). By AI agents, Wed Nov 11 2026. No macro, syntax, notation, axiom, sorry.
-/
import Derived.Test.YteomkfcfhlljkaaDoorChecked
import GoSem.Claim
import GoSem.ClaimJoined
import GoSem.ClaimMapViews
import Derived.JoinedTies
import Derived.KernelRfl
namespace Go.Proofs.YteomkfcfhlljkaaDoor
/- THE CELL 'sum', in the pinned program and in every row, IS THE sha256 OF THE DUMP (.gsa) THAT YteomkfcfhlljkaaDoorProg.lean LOADS. Nothing in Lean hashes anything: it is a label: what it is worth is what the hold of that sum in a sandbox is worth. -/
noncomputable def Tryd.pinned : Pinned := { name := "yteomkfcfhlljkaadoor", sum := "d135b1eb466a5c86f96ef52c095bedadf19b0b95dd183e7c97f5c8b2ab565dfc", checked := Tryd.checked }
namespace Rows
def none {H : Type} : Left H := { results := [], args := [] }

/- WHAT THE LISTED PACKAGE-LEVEL VARIABLES READ AS WHEN THE CALL BEGINS. Each datum BY PROGRAM (the guide's laid-datum.mjs) off the statement by which the dump's own 'gosem.cut.vars' lays the variable. In a bare row this is a premise. The card (YteomkfcfhlljkaaDoorCards.lean) ties it to the program's text. -/
def laid_coffer_cofferref01_cubes {H : Type} : DataW H := .agg [.lit (.int .u64 4794697086780616226), .lit (.int .u64 8158064640168781261), .lit (.int .u64 13096744586834688815), .lit (.int .u64 16840607885511220156), .lit (.int .u64 4131703408338449720), .lit (.int .u64 6480981068601479193), .lit (.int .u64 10538285296894168987), .lit (.int .u64 12329834152419229976), .lit (.int .u64 15566598209576043074), .lit (.int .u64 1334009975649890238), .lit (.int .u64 2608012711638119052), .lit (.int .u64 6128411473006802146), .lit (.int .u64 8268148722764581231), .lit (.int .u64 9286055187155687089), .lit (.int .u64 11230858885718282805), .lit (.int .u64 13951009754708518548), .lit (.int .u64 16472876342353939154), .lit (.int .u64 17275323862435702243), .lit (.int .u64 1135362057144423861), .lit (.int .u64 2597628984639134821), .lit (.int .u64 3308224258029322869), .lit (.int .u64 5365058923640841347), .lit (.int .u64 6679025012923562964), .lit (.int .u64 8573033837759648693), .lit (.int .u64 10970295158949994411), .lit (.int .u64 12119686244451234320), .lit (.int .u64 12683024718118986047), .lit (.int .u64 13788192230050041572), .lit (.int .u64 14330467153632333762), .lit (.int .u64 15395433587784984357), .lit (.int .u64 489312712824947311), .lit (.int .u64 1452737877330783856), .lit (.int .u64 2861767655752347644), .lit (.int .u64 3322285676063803686), .lit (.int .u64 5560940570517711597), .lit (.int .u64 5996557281743188959), .lit (.int .u64 7280758554555802590), .lit (.int .u64 8532644243296465576), .lit (.int .u64 9350256976987008742), .lit (.int .u64 10552545826968843579), .lit (.int .u64 11727347734174303076), .lit (.int .u64 12113106623233404929), .lit (.int .u64 14000437183269869457), .lit (.int .u64 14369950271660146224), .lit (.int .u64 15101387698204529176), .lit (.int .u64 15463397548674623760), .lit (.int .u64 17586052441742319658), .lit (.int .u64 1182934255886127544), .lit (.int .u64 1847814050463011016), .lit (.int .u64 2177327727835720531), .lit (.int .u64 2830643537854262169), .lit (.int .u64 3796741975233480872), .lit (.int .u64 4115178125766777443), .lit (.int .u64 5681478168544905931), .lit (.int .u64 6601373596472566643), .lit (.int .u64 7507060721942968483), .lit (.int .u64 8399075790359081724), .lit (.int .u64 8693463985226723168), .lit (.int .u64 9568029438360202098), .lit (.int .u64 10144078919501101548), .lit (.int .u64 10430055236837252648), .lit (.int .u64 11840083180663258601), .lit (.int .u64 13761210420658862357), .lit (.int .u64 14299343276471374635), .lit (.int .u64 14566680578165727644), .lit (.int .u64 15097957966210449927), .lit (.int .u64 16922976911328602910), .lit (.int .u64 17689382322260857208), .lit (.int .u64 500013540394364858), .lit (.int .u64 748580250866718886), .lit (.int .u64 1242879168328830382), .lit (.int .u64 1977374033974150939), .lit (.int .u64 2944078676154940804), .lit (.int .u64 3659926193048069267), .lit (.int .u64 4368137639120453308), .lit (.int .u64 4836135668995329356), .lit (.int .u64 5532061633213252278), .lit (.int .u64 6448918945643986474), .lit (.int .u64 6902733635092675308), .lit (.int .u64 7801388544844847127)]
def laid_coffer_cofferref01_squares {H : Type} : DataW H := .agg [.lit (.int .u64 7640891576956012808), .lit (.int .u64 13503953896175478587), .lit (.int .u64 4354685564936845355), .lit (.int .u64 11912009170470909681), .lit (.int .u64 5840696475078001361), .lit (.int .u64 11170449401992604703), .lit (.int .u64 2270897969802886507), .lit (.int .u64 6620516959819538809), .lit (.int .u64 14680500436340154072), .lit (.int .u64 7105036623409894663), .lit (.int .u64 10473403895298186519), .lit (.int .u64 1526699215303891257), .lit (.int .u64 7436329637833083697), .lit (.int .u64 10282925794625328401), .lit (.int .u64 15784041429090275239), .lit (.int .u64 5167115440072839076)]
def laid_coffer_digest_cubes {H : Type} : DataW H := .agg [.lit (.int .u64 4794697086780616226), .lit (.int .u64 8158064640168781261), .lit (.int .u64 13096744586834688815), .lit (.int .u64 16840607885511220156), .lit (.int .u64 4131703408338449720), .lit (.int .u64 6480981068601479193), .lit (.int .u64 10538285296894168987), .lit (.int .u64 12329834152419229976), .lit (.int .u64 15566598209576043074), .lit (.int .u64 1334009975649890238), .lit (.int .u64 2608012711638119052), .lit (.int .u64 6128411473006802146), .lit (.int .u64 8268148722764581231), .lit (.int .u64 9286055187155687089), .lit (.int .u64 11230858885718282805), .lit (.int .u64 13951009754708518548), .lit (.int .u64 16472876342353939154), .lit (.int .u64 17275323862435702243), .lit (.int .u64 1135362057144423861), .lit (.int .u64 2597628984639134821), .lit (.int .u64 3308224258029322869), .lit (.int .u64 5365058923640841347), .lit (.int .u64 6679025012923562964), .lit (.int .u64 8573033837759648693), .lit (.int .u64 10970295158949994411), .lit (.int .u64 12119686244451234320), .lit (.int .u64 12683024718118986047), .lit (.int .u64 13788192230050041572), .lit (.int .u64 14330467153632333762), .lit (.int .u64 15395433587784984357), .lit (.int .u64 489312712824947311), .lit (.int .u64 1452737877330783856), .lit (.int .u64 2861767655752347644), .lit (.int .u64 3322285676063803686), .lit (.int .u64 5560940570517711597), .lit (.int .u64 5996557281743188959), .lit (.int .u64 7280758554555802590), .lit (.int .u64 8532644243296465576), .lit (.int .u64 9350256976987008742), .lit (.int .u64 10552545826968843579), .lit (.int .u64 11727347734174303076), .lit (.int .u64 12113106623233404929), .lit (.int .u64 14000437183269869457), .lit (.int .u64 14369950271660146224), .lit (.int .u64 15101387698204529176), .lit (.int .u64 15463397548674623760), .lit (.int .u64 17586052441742319658), .lit (.int .u64 1182934255886127544), .lit (.int .u64 1847814050463011016), .lit (.int .u64 2177327727835720531), .lit (.int .u64 2830643537854262169), .lit (.int .u64 3796741975233480872), .lit (.int .u64 4115178125766777443), .lit (.int .u64 5681478168544905931), .lit (.int .u64 6601373596472566643), .lit (.int .u64 7507060721942968483), .lit (.int .u64 8399075790359081724), .lit (.int .u64 8693463985226723168), .lit (.int .u64 9568029438360202098), .lit (.int .u64 10144078919501101548), .lit (.int .u64 10430055236837252648), .lit (.int .u64 11840083180663258601), .lit (.int .u64 13761210420658862357), .lit (.int .u64 14299343276471374635), .lit (.int .u64 14566680578165727644), .lit (.int .u64 15097957966210449927), .lit (.int .u64 16922976911328602910), .lit (.int .u64 17689382322260857208), .lit (.int .u64 500013540394364858), .lit (.int .u64 748580250866718886), .lit (.int .u64 1242879168328830382), .lit (.int .u64 1977374033974150939), .lit (.int .u64 2944078676154940804), .lit (.int .u64 3659926193048069267), .lit (.int .u64 4368137639120453308), .lit (.int .u64 4836135668995329356), .lit (.int .u64 5532061633213252278), .lit (.int .u64 6448918945643986474), .lit (.int .u64 6902733635092675308), .lit (.int .u64 7801388544844847127)]
def laid_coffer_digest_squares {H : Type} : DataW H := .agg [.lit (.int .u64 7640891576956012808), .lit (.int .u64 13503953896175478587), .lit (.int .u64 4354685564936845355), .lit (.int .u64 11912009170470909681), .lit (.int .u64 5840696475078001361), .lit (.int .u64 11170449401992604703), .lit (.int .u64 2270897969802886507), .lit (.int .u64 6620516959819538809), .lit (.int .u64 14680500436340154072), .lit (.int .u64 7105036623409894663), .lit (.int .u64 10473403895298186519), .lit (.int .u64 1526699215303891257), .lit (.int .u64 7436329637833083697), .lit (.int .u64 10282925794625328401), .lit (.int .u64 15784041429090275239), .lit (.int .u64 5167115440072839076)]

/-- 'cofferlaw11.EscrowDeals': WHATEVER THE INPUT: true; the input reads as it did. -/
def escrowDealsSpec : ChangeSpec := { name := "escrowDeals", fn := fun _ => fun
  | [d] => { results := [.lit (.bool true)], args := [d] }
  | _ => none }
def escrowDealsRow : OpenClaim := { program := "yteomkfcfhlljkaadoor", sum := "d135b1eb466a5c86f96ef52c095bedadf19b0b95dd183e7c97f5c8b2ab565dfc", func := "coffer/cofferlaw11.EscrowDeals", spec := "escrowDeals", unfollowed := true, recurses := true, named := ["coffer/cofferref01.squares", "coffer/cofferref01.cubes", "coffer/digest.cubes", "coffer/digest.squares"], apart := false, laid := [("coffer/cofferref01.cubes", laid_coffer_cofferref01_cubes), ("coffer/cofferref01.squares", laid_coffer_cofferref01_squares), ("coffer/digest.cubes", laid_coffer_digest_cubes), ("coffer/digest.squares", laid_coffer_digest_squares)] }
def EscrowDealsSaid : Prop := escrowDealsRow.holds Tryd.pinned (OpenSpec.ofChange escrowDealsSpec)

/-- ITS FALSE NEIGHBOUR: 'it returns false'. Refute it at one input. -/
def escrowDealsWrong : ChangeSpec := { name := "escrowDeals", fn := fun _ => fun
  | [d] => { results := [.lit (.bool false)], args := [d] }
  | _ => none }
def EscrowDealsWrongFalsely : Prop := escrowDealsRow.holds Tryd.pinned (OpenSpec.ofChange escrowDealsWrong)

/-- 'cofferlaw11.EscrowJoins': WHATEVER THE INPUT: true; the input reads as it did. -/
def escrowJoinsSpec : ChangeSpec := { name := "escrowJoins", fn := fun _ => fun
  | [d1, d2] => { results := [.lit (.bool true)], args := [d1, d2] }
  | _ => none }
def escrowJoinsRow : OpenClaim := { program := "yteomkfcfhlljkaadoor", sum := "d135b1eb466a5c86f96ef52c095bedadf19b0b95dd183e7c97f5c8b2ab565dfc", func := "coffer/cofferlaw11.EscrowJoins", spec := "escrowJoins", unfollowed := true, recurses := true, named := ["coffer/cofferref01.squares", "coffer/cofferref01.cubes", "coffer/digest.cubes", "coffer/digest.squares"], apart := false, laid := [("coffer/cofferref01.cubes", laid_coffer_cofferref01_cubes), ("coffer/cofferref01.squares", laid_coffer_cofferref01_squares), ("coffer/digest.cubes", laid_coffer_digest_cubes), ("coffer/digest.squares", laid_coffer_digest_squares)] }
def EscrowJoinsSaid : Prop := escrowJoinsRow.holds Tryd.pinned (OpenSpec.ofChange escrowJoinsSpec)

/-- ITS FALSE NEIGHBOUR: 'it returns false'. Refute it at one input. -/
def escrowJoinsWrong : ChangeSpec := { name := "escrowJoins", fn := fun _ => fun
  | [d1, d2] => { results := [.lit (.bool false)], args := [d1, d2] }
  | _ => none }
def EscrowJoinsWrongFalsely : Prop := escrowJoinsRow.holds Tryd.pinned (OpenSpec.ofChange escrowJoinsWrong)

/-- 'cofferlaw11.EscrowAny': WHATEVER THE INPUT: true; the input reads as it did. -/
def escrowAnySpec : ChangeSpec := { name := "escrowAny", fn := fun _ => fun
  | [d1, d2] => { results := [.lit (.bool true)], args := [d1, d2] }
  | _ => none }
def escrowAnyRow : OpenClaim := { program := "yteomkfcfhlljkaadoor", sum := "d135b1eb466a5c86f96ef52c095bedadf19b0b95dd183e7c97f5c8b2ab565dfc", func := "coffer/cofferlaw11.EscrowAny", spec := "escrowAny", unfollowed := true, recurses := true, named := ["coffer/digest.cubes", "coffer/digest.squares"], apart := false, laid := [("coffer/digest.cubes", laid_coffer_digest_cubes), ("coffer/digest.squares", laid_coffer_digest_squares)] }
def EscrowAnySaid : Prop := escrowAnyRow.holds Tryd.pinned (OpenSpec.ofChange escrowAnySpec)

/-- ITS FALSE NEIGHBOUR: 'it returns false'. Refute it at one input. -/
def escrowAnyWrong : ChangeSpec := { name := "escrowAny", fn := fun _ => fun
  | [d1, d2] => { results := [.lit (.bool false)], args := [d1, d2] }
  | _ => none }
def EscrowAnyWrongFalsely : Prop := escrowAnyRow.holds Tryd.pinned (OpenSpec.ofChange escrowAnyWrong)

/-- 'cofferlaw11.EscrowFar': WHATEVER THE INPUT: true; the input reads as it did. -/
def escrowFarSpec : ChangeSpec := { name := "escrowFar", fn := fun _ => fun
  | [d1, d2, d3, d4] => { results := [.lit (.bool true)], args := [d1, d2, d3, d4] }
  | _ => none }
def escrowFarRow : OpenClaim := { program := "yteomkfcfhlljkaadoor", sum := "d135b1eb466a5c86f96ef52c095bedadf19b0b95dd183e7c97f5c8b2ab565dfc", func := "coffer/cofferlaw11.EscrowFar", spec := "escrowFar", unfollowed := true, recurses := true, named := ["coffer/digest.cubes", "coffer/digest.squares"], apart := false, laid := [("coffer/digest.cubes", laid_coffer_digest_cubes), ("coffer/digest.squares", laid_coffer_digest_squares)] }
def EscrowFarSaid : Prop := escrowFarRow.holds Tryd.pinned (OpenSpec.ofChange escrowFarSpec)

/-- ITS FALSE NEIGHBOUR: 'it returns false'. Refute it at one input. -/
def escrowFarWrong : ChangeSpec := { name := "escrowFar", fn := fun _ => fun
  | [d1, d2, d3, d4] => { results := [.lit (.bool false)], args := [d1, d2, d3, d4] }
  | _ => none }
def EscrowFarWrongFalsely : Prop := escrowFarRow.holds Tryd.pinned (OpenSpec.ofChange escrowFarWrong)

/-- 'cofferlaw11.EscrowHides': WHATEVER THE INPUT: true; the input reads as it did. -/
def escrowHidesSpec : ChangeSpec := { name := "escrowHides", fn := fun _ => fun
  | [d1, d2, d3] => { results := [.lit (.bool true)], args := [d1, d2, d3] }
  | _ => none }
def escrowHidesRow : OpenClaim := { program := "yteomkfcfhlljkaadoor", sum := "d135b1eb466a5c86f96ef52c095bedadf19b0b95dd183e7c97f5c8b2ab565dfc", func := "coffer/cofferlaw11.EscrowHides", spec := "escrowHides", unfollowed := true, recurses := true, named := ["coffer/digest.cubes", "coffer/digest.squares"], apart := false, laid := [("coffer/digest.cubes", laid_coffer_digest_cubes), ("coffer/digest.squares", laid_coffer_digest_squares)] }
def EscrowHidesSaid : Prop := escrowHidesRow.holds Tryd.pinned (OpenSpec.ofChange escrowHidesSpec)

/-- ITS FALSE NEIGHBOUR: 'it returns false'. Refute it at one input. -/
def escrowHidesWrong : ChangeSpec := { name := "escrowHides", fn := fun _ => fun
  | [d1, d2, d3] => { results := [.lit (.bool false)], args := [d1, d2, d3] }
  | _ => none }
def EscrowHidesWrongFalsely : Prop := escrowHidesRow.holds Tryd.pinned (OpenSpec.ofChange escrowHidesWrong)

/-- 'cofferlaw11.EscrowSplits': WHATEVER THE INPUT: true; the input reads as it did. -/
def escrowSplitsSpec : ChangeSpec := { name := "escrowSplits", fn := fun _ => fun
  | [d1, d2, d3, d4, d5, d6, d7] => { results := [.lit (.bool true)], args := [d1, d2, d3, d4, d5, d6, d7] }
  | _ => none }
def escrowSplitsRow : OpenClaim := { program := "yteomkfcfhlljkaadoor", sum := "d135b1eb466a5c86f96ef52c095bedadf19b0b95dd183e7c97f5c8b2ab565dfc", func := "coffer/cofferlaw11.EscrowSplits", spec := "escrowSplits", inPlace := ["internal/bytealg.MakeNoZero"], unfollowed := true, recurses := true, named := ["coffer/digest.cubes", "coffer/digest.squares", "coffer/cofferref01.squares", "coffer/cofferref01.cubes"], apart := false, laid := [("coffer/cofferref01.cubes", laid_coffer_cofferref01_cubes), ("coffer/cofferref01.squares", laid_coffer_cofferref01_squares), ("coffer/digest.cubes", laid_coffer_digest_cubes), ("coffer/digest.squares", laid_coffer_digest_squares)] }
def EscrowSplitsSaid : Prop := escrowSplitsRow.holds Tryd.pinned (OpenSpec.ofChange escrowSplitsSpec)

/-- ITS FALSE NEIGHBOUR: 'it returns false'. Refute it at one input. -/
def escrowSplitsWrong : ChangeSpec := { name := "escrowSplits", fn := fun _ => fun
  | [d1, d2, d3, d4, d5, d6, d7] => { results := [.lit (.bool false)], args := [d1, d2, d3, d4, d5, d6, d7] }
  | _ => none }
def EscrowSplitsWrongFalsely : Prop := escrowSplitsRow.holds Tryd.pinned (OpenSpec.ofChange escrowSplitsWrong)

/-- 'cofferlaw11.EscrowMended': WHATEVER THE INPUT: true; the input reads as it did. -/
def escrowMendedSpec : ChangeSpec := { name := "escrowMended", fn := fun _ => fun
  | [d1, d2, d3] => { results := [.lit (.bool true)], args := [d1, d2, d3] }
  | _ => none }
def escrowMendedRow : OpenClaim := { program := "yteomkfcfhlljkaadoor", sum := "d135b1eb466a5c86f96ef52c095bedadf19b0b95dd183e7c97f5c8b2ab565dfc", func := "coffer/cofferlaw11.EscrowMended", spec := "escrowMended", unfollowed := true, recurses := true, named := ["coffer/digest.cubes", "coffer/digest.squares"], apart := false, laid := [("coffer/digest.cubes", laid_coffer_digest_cubes), ("coffer/digest.squares", laid_coffer_digest_squares)] }
def EscrowMendedSaid : Prop := escrowMendedRow.holds Tryd.pinned (OpenSpec.ofChange escrowMendedSpec)

/-- ITS FALSE NEIGHBOUR: 'it returns false'. Refute it at one input. -/
def escrowMendedWrong : ChangeSpec := { name := "escrowMended", fn := fun _ => fun
  | [d1, d2, d3] => { results := [.lit (.bool false)], args := [d1, d2, d3] }
  | _ => none }
def EscrowMendedWrongFalsely : Prop := escrowMendedRow.holds Tryd.pinned (OpenSpec.ofChange escrowMendedWrong)

/-- 'cofferlaw11.EscrowExtends': WHATEVER THE INPUT: true; the input reads as it did. -/
def escrowExtendsSpec : ChangeSpec := { name := "escrowExtends", fn := fun _ => fun
  | [d1, d2, d3] => { results := [.lit (.bool true)], args := [d1, d2, d3] }
  | _ => none }
def escrowExtendsRow : OpenClaim := { program := "yteomkfcfhlljkaadoor", sum := "d135b1eb466a5c86f96ef52c095bedadf19b0b95dd183e7c97f5c8b2ab565dfc", func := "coffer/cofferlaw11.EscrowExtends", spec := "escrowExtends", unfollowed := true, recurses := true, named := ["coffer/digest.cubes", "coffer/digest.squares"], apart := false, laid := [("coffer/digest.cubes", laid_coffer_digest_cubes), ("coffer/digest.squares", laid_coffer_digest_squares)] }
def EscrowExtendsSaid : Prop := escrowExtendsRow.holds Tryd.pinned (OpenSpec.ofChange escrowExtendsSpec)

/-- ITS FALSE NEIGHBOUR: 'it returns false'. Refute it at one input. -/
def escrowExtendsWrong : ChangeSpec := { name := "escrowExtends", fn := fun _ => fun
  | [d1, d2, d3] => { results := [.lit (.bool false)], args := [d1, d2, d3] }
  | _ => none }
def EscrowExtendsWrongFalsely : Prop := escrowExtendsRow.holds Tryd.pinned (OpenSpec.ofChange escrowExtendsWrong)

/-- 'cofferlaw11.EscrowDrawn': WHATEVER THE INPUT: true; the input reads as it did. -/
def escrowDrawnSpec : ChangeSpec := { name := "escrowDrawn", fn := fun _ => fun
  | [d1, d2] => { results := [.lit (.bool true)], args := [d1, d2] }
  | _ => none }
def escrowDrawnRow : OpenClaim := { program := "yteomkfcfhlljkaadoor", sum := "d135b1eb466a5c86f96ef52c095bedadf19b0b95dd183e7c97f5c8b2ab565dfc", func := "coffer/cofferlaw11.EscrowDrawn", spec := "escrowDrawn", inPlace := ["internal/bytealg.MakeNoZero"], unfollowed := true, recurses := true, named := ["coffer/digest.cubes", "coffer/digest.squares"], apart := false, laid := [("coffer/digest.cubes", laid_coffer_digest_cubes), ("coffer/digest.squares", laid_coffer_digest_squares)] }
def EscrowDrawnSaid : Prop := escrowDrawnRow.holds Tryd.pinned (OpenSpec.ofChange escrowDrawnSpec)

/-- ITS FALSE NEIGHBOUR: 'it returns false'. Refute it at one input. -/
def escrowDrawnWrong : ChangeSpec := { name := "escrowDrawn", fn := fun _ => fun
  | [d1, d2] => { results := [.lit (.bool false)], args := [d1, d2] }
  | _ => none }
def EscrowDrawnWrongFalsely : Prop := escrowDrawnRow.holds Tryd.pinned (OpenSpec.ofChange escrowDrawnWrong)

/- THE SECOND FORM. 'bulk': how many values and letters a reading holds, each counted each time it is reached (what is shared counts as often as it is met; a slice's spare places count too). A statement '..UptoSaid' is the law's where the arguments, and the package variables that the reading takes, are together of bulk at most 1048576: NARROWER than '..Said'. Prove '..Said' where nothing that the law and all that it calls make is longer than what came in: it says more and counts as full. Else prove '..UptoSaid'. A law counts once. -/
mutual
def uptoBulk {H : Type} : DataW H → Nat
  | .lit (.string bytes) => bytes.length + 1
  | .lit _ => 1
  | .nil => 1
  | .ptr d => uptoBulk d + 1
  | .slice elems spare => uptoBulkAll elems + uptoBulkAll spare + 1
  | .agg parts => uptoBulkAll parts + 1
  | .iface _ d => uptoBulk d + 1
  | .map entries => uptoBulkEntries entries + 1
  | .held _ => 1
def uptoBulkAll {H : Type} : List (DataW H) → Nat
  | [] => 0
  | d :: r => uptoBulk d + uptoBulkAll r
def uptoBulkEntries {H : Type} : List (Lit × DataW H) → Nat
  | [] => 0
  | x :: r => uptoBulkEntry x + uptoBulkEntries r
def uptoBulkEntry {H : Type} : Lit × DataW H → Nat
  | (.string bytes, d) => bytes.length + uptoBulk d + 1
  | (_, d) => uptoBulk d + 1
 end
def uptoSmall : (H : Type) → List (DataW H) → Bool := fun _ ds => decide (uptoBulkAll ds ≤ 1048576)
def OpenSpec.upto (s : _root_.Go.ChangeSpec) : _root_.Go.OpenSpec := { _root_.Go.OpenSpec.ofChange s with cond := some uptoSmall }

/-- 'cofferlaw11.EscrowDeals', WHERE WHAT IT READS IS OF BULK AT MOST 1048576: true; the input reads as it did. -/
def escrowDealsUptoRow : OpenClaim := { program := "yteomkfcfhlljkaadoor", sum := "d135b1eb466a5c86f96ef52c095bedadf19b0b95dd183e7c97f5c8b2ab565dfc", func := "coffer/cofferlaw11.EscrowDeals", spec := "escrowDeals", unfollowed := true, recurses := true, named := ["coffer/cofferref01.squares", "coffer/cofferref01.cubes", "coffer/digest.cubes", "coffer/digest.squares"], apart := false, laid := [("coffer/cofferref01.cubes", laid_coffer_cofferref01_cubes), ("coffer/cofferref01.squares", laid_coffer_cofferref01_squares), ("coffer/digest.cubes", laid_coffer_digest_cubes), ("coffer/digest.squares", laid_coffer_digest_squares)], narrowed := true }
def EscrowDealsUptoSaid : Prop := escrowDealsUptoRow.holds Tryd.pinned (OpenSpec.upto escrowDealsSpec)

/-- 'cofferlaw11.EscrowJoins', WHERE WHAT IT READS IS OF BULK AT MOST 1048576: true; the input reads as it did. -/
def escrowJoinsUptoRow : OpenClaim := { program := "yteomkfcfhlljkaadoor", sum := "d135b1eb466a5c86f96ef52c095bedadf19b0b95dd183e7c97f5c8b2ab565dfc", func := "coffer/cofferlaw11.EscrowJoins", spec := "escrowJoins", unfollowed := true, recurses := true, named := ["coffer/cofferref01.squares", "coffer/cofferref01.cubes", "coffer/digest.cubes", "coffer/digest.squares"], apart := false, laid := [("coffer/cofferref01.cubes", laid_coffer_cofferref01_cubes), ("coffer/cofferref01.squares", laid_coffer_cofferref01_squares), ("coffer/digest.cubes", laid_coffer_digest_cubes), ("coffer/digest.squares", laid_coffer_digest_squares)], narrowed := true }
def EscrowJoinsUptoSaid : Prop := escrowJoinsUptoRow.holds Tryd.pinned (OpenSpec.upto escrowJoinsSpec)

/-- 'cofferlaw11.EscrowAny', WHERE WHAT IT READS IS OF BULK AT MOST 1048576: true; the input reads as it did. -/
def escrowAnyUptoRow : OpenClaim := { program := "yteomkfcfhlljkaadoor", sum := "d135b1eb466a5c86f96ef52c095bedadf19b0b95dd183e7c97f5c8b2ab565dfc", func := "coffer/cofferlaw11.EscrowAny", spec := "escrowAny", unfollowed := true, recurses := true, named := ["coffer/digest.cubes", "coffer/digest.squares"], apart := false, laid := [("coffer/digest.cubes", laid_coffer_digest_cubes), ("coffer/digest.squares", laid_coffer_digest_squares)], narrowed := true }
def EscrowAnyUptoSaid : Prop := escrowAnyUptoRow.holds Tryd.pinned (OpenSpec.upto escrowAnySpec)

/-- 'cofferlaw11.EscrowFar', WHERE WHAT IT READS IS OF BULK AT MOST 1048576: true; the input reads as it did. -/
def escrowFarUptoRow : OpenClaim := { program := "yteomkfcfhlljkaadoor", sum := "d135b1eb466a5c86f96ef52c095bedadf19b0b95dd183e7c97f5c8b2ab565dfc", func := "coffer/cofferlaw11.EscrowFar", spec := "escrowFar", unfollowed := true, recurses := true, named := ["coffer/digest.cubes", "coffer/digest.squares"], apart := false, laid := [("coffer/digest.cubes", laid_coffer_digest_cubes), ("coffer/digest.squares", laid_coffer_digest_squares)], narrowed := true }
def EscrowFarUptoSaid : Prop := escrowFarUptoRow.holds Tryd.pinned (OpenSpec.upto escrowFarSpec)

/-- 'cofferlaw11.EscrowHides', WHERE WHAT IT READS IS OF BULK AT MOST 1048576: true; the input reads as it did. -/
def escrowHidesUptoRow : OpenClaim := { program := "yteomkfcfhlljkaadoor", sum := "d135b1eb466a5c86f96ef52c095bedadf19b0b95dd183e7c97f5c8b2ab565dfc", func := "coffer/cofferlaw11.EscrowHides", spec := "escrowHides", unfollowed := true, recurses := true, named := ["coffer/digest.cubes", "coffer/digest.squares"], apart := false, laid := [("coffer/digest.cubes", laid_coffer_digest_cubes), ("coffer/digest.squares", laid_coffer_digest_squares)], narrowed := true }
def EscrowHidesUptoSaid : Prop := escrowHidesUptoRow.holds Tryd.pinned (OpenSpec.upto escrowHidesSpec)

/-- 'cofferlaw11.EscrowSplits', WHERE WHAT IT READS IS OF BULK AT MOST 1048576: true; the input reads as it did. -/
def escrowSplitsUptoRow : OpenClaim := { program := "yteomkfcfhlljkaadoor", sum := "d135b1eb466a5c86f96ef52c095bedadf19b0b95dd183e7c97f5c8b2ab565dfc", func := "coffer/cofferlaw11.EscrowSplits", spec := "escrowSplits", inPlace := ["internal/bytealg.MakeNoZero"], unfollowed := true, recurses := true, named := ["coffer/digest.cubes", "coffer/digest.squares", "coffer/cofferref01.squares", "coffer/cofferref01.cubes"], apart := false, laid := [("coffer/cofferref01.cubes", laid_coffer_cofferref01_cubes), ("coffer/cofferref01.squares", laid_coffer_cofferref01_squares), ("coffer/digest.cubes", laid_coffer_digest_cubes), ("coffer/digest.squares", laid_coffer_digest_squares)], narrowed := true }
def EscrowSplitsUptoSaid : Prop := escrowSplitsUptoRow.holds Tryd.pinned (OpenSpec.upto escrowSplitsSpec)

/-- 'cofferlaw11.EscrowMended', WHERE WHAT IT READS IS OF BULK AT MOST 1048576: true; the input reads as it did. -/
def escrowMendedUptoRow : OpenClaim := { program := "yteomkfcfhlljkaadoor", sum := "d135b1eb466a5c86f96ef52c095bedadf19b0b95dd183e7c97f5c8b2ab565dfc", func := "coffer/cofferlaw11.EscrowMended", spec := "escrowMended", unfollowed := true, recurses := true, named := ["coffer/digest.cubes", "coffer/digest.squares"], apart := false, laid := [("coffer/digest.cubes", laid_coffer_digest_cubes), ("coffer/digest.squares", laid_coffer_digest_squares)], narrowed := true }
def EscrowMendedUptoSaid : Prop := escrowMendedUptoRow.holds Tryd.pinned (OpenSpec.upto escrowMendedSpec)

/-- 'cofferlaw11.EscrowExtends', WHERE WHAT IT READS IS OF BULK AT MOST 1048576: true; the input reads as it did. -/
def escrowExtendsUptoRow : OpenClaim := { program := "yteomkfcfhlljkaadoor", sum := "d135b1eb466a5c86f96ef52c095bedadf19b0b95dd183e7c97f5c8b2ab565dfc", func := "coffer/cofferlaw11.EscrowExtends", spec := "escrowExtends", unfollowed := true, recurses := true, named := ["coffer/digest.cubes", "coffer/digest.squares"], apart := false, laid := [("coffer/digest.cubes", laid_coffer_digest_cubes), ("coffer/digest.squares", laid_coffer_digest_squares)], narrowed := true }
def EscrowExtendsUptoSaid : Prop := escrowExtendsUptoRow.holds Tryd.pinned (OpenSpec.upto escrowExtendsSpec)

/-- 'cofferlaw11.EscrowDrawn', WHERE WHAT IT READS IS OF BULK AT MOST 1048576: true; the input reads as it did. -/
def escrowDrawnUptoRow : OpenClaim := { program := "yteomkfcfhlljkaadoor", sum := "d135b1eb466a5c86f96ef52c095bedadf19b0b95dd183e7c97f5c8b2ab565dfc", func := "coffer/cofferlaw11.EscrowDrawn", spec := "escrowDrawn", inPlace := ["internal/bytealg.MakeNoZero"], unfollowed := true, recurses := true, named := ["coffer/digest.cubes", "coffer/digest.squares"], apart := false, laid := [("coffer/digest.cubes", laid_coffer_digest_cubes), ("coffer/digest.squares", laid_coffer_digest_squares)], narrowed := true }
def EscrowDrawnUptoSaid : Prop := escrowDrawnUptoRow.holds Tryd.pinned (OpenSpec.upto escrowDrawnSpec)

end Rows
end Go.Proofs.YteomkfcfhlljkaaDoor

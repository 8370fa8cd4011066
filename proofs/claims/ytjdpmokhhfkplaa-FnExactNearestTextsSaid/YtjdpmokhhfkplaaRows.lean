/-
  No cell of these rows narrows 'for every input' (looked for: loops, veiled, ifaces, maps, wideKeys, modest, calm, conditions, laid).
  DERIVED. THE GIVEN ROWS OF THIS SEAT. 12 by the template 'for every input the law returns true; each argument reads behind the call as it read before'; 0 by the template 'total and deterministic' (their statements: YtjdpmokhhfkplaaTotals.lean).
  GIVEN WITH THE SEED: the statements are not yours to turn. If you find one false, say at which input.
  Laid BY PROGRAM, IN A SANDBOX (cutbox-rows.mjs): the forced cells as the released guide's own fill.sh prints them over the translation ed8133b5d5a6e67f… (all of the seat's roots in one cut). By AI agents, Wed Nov 11 2026. No macro, syntax, notation, axiom, sorry.
-/
import Derived.Test.YtjdpmokhhfkplaaChecked
import GoSem.Claim
import GoSem.ClaimJoined
import GoSem.ClaimMapViews
import Derived.JoinedTies
import Derived.KernelRfl
namespace Go.Proofs.Ytjdpmokhhfkplaa
/- THE CELL 'sum', in the pinned program and in every row, IS THE sha256 OF THE DUMP (.gsa) THAT YtjdpmokhhfkplaaProg.lean LOADS. Nothing in Lean hashes anything: it is a label: what it is worth is what the hold of that sum in a sandbox is worth. -/
noncomputable def Try.pinned : Pinned := { name := "ytjdpmokhhfkplaa", sum := "ed8133b5d5a6e67f791a50f60e6cd34af20154105a5b2bd2e68ec6dc987ecce6", checked := Try.checked }
namespace Rows
def none {H : Type} : Left H := { results := [], args := [] }

/-- 'laws.FnExactDeskWords': WHATEVER THE INPUT: true; the input reads as it did. -/
def fnExactDeskWordsSpec : ChangeSpec := { name := "fnExactDeskWords", fn := fun _ => fun
  | [] => { results := [.lit (.bool true)], args := [] }
  | _ => none }
def fnExactDeskWordsRow : OpenClaim := { program := "ytjdpmokhhfkplaa", sum := "ed8133b5d5a6e67f791a50f60e6cd34af20154105a5b2bd2e68ec6dc987ecce6", func := "loop.example/g00918/laws.FnExactDeskWords", spec := "fnExactDeskWords", apart := false }
def FnExactDeskWordsSaid : Prop := fnExactDeskWordsRow.holds Try.pinned (OpenSpec.ofChange fnExactDeskWordsSpec)

/-- ITS FALSE NEIGHBOUR: 'it returns false'. Refute it at one input. -/
def fnExactDeskWordsWrong : ChangeSpec := { name := "fnExactDeskWords", fn := fun _ => fun
  | [] => { results := [.lit (.bool false)], args := [] }
  | _ => none }
def FnExactDeskWordsWrongFalsely : Prop := fnExactDeskWordsRow.holds Try.pinned (OpenSpec.ofChange fnExactDeskWordsWrong)

/-- 'laws.FnExactCommonLength': WHATEVER THE INPUT: true; the input reads as it did. -/
def fnExactCommonLengthSpec : ChangeSpec := { name := "fnExactCommonLength", fn := fun _ => fun
  | [d1, d2] => { results := [.lit (.bool true)], args := [d1, d2] }
  | _ => none }
def fnExactCommonLengthRow : OpenClaim := { program := "ytjdpmokhhfkplaa", sum := "ed8133b5d5a6e67f791a50f60e6cd34af20154105a5b2bd2e68ec6dc987ecce6", func := "loop.example/g00918/laws.FnExactCommonLength", spec := "fnExactCommonLength", unfollowed := true, recurses := true, apart := false }
def FnExactCommonLengthSaid : Prop := fnExactCommonLengthRow.holds Try.pinned (OpenSpec.ofChange fnExactCommonLengthSpec)

/-- ITS FALSE NEIGHBOUR: 'it returns false'. Refute it at one input. -/
def fnExactCommonLengthWrong : ChangeSpec := { name := "fnExactCommonLength", fn := fun _ => fun
  | [d1, d2] => { results := [.lit (.bool false)], args := [d1, d2] }
  | _ => none }
def FnExactCommonLengthWrongFalsely : Prop := fnExactCommonLengthRow.holds Try.pinned (OpenSpec.ofChange fnExactCommonLengthWrong)

/-- 'laws.FnExactStepCost': WHATEVER THE INPUT: true; the input reads as it did. -/
def fnExactStepCostSpec : ChangeSpec := { name := "fnExactStepCost", fn := fun _ => fun
  | [d] => { results := [.lit (.bool true)], args := [d] }
  | _ => none }
def fnExactStepCostRow : OpenClaim := { program := "ytjdpmokhhfkplaa", sum := "ed8133b5d5a6e67f791a50f60e6cd34af20154105a5b2bd2e68ec6dc987ecce6", func := "loop.example/g00918/laws.FnExactStepCost", spec := "fnExactStepCost", apart := false }
def FnExactStepCostSaid : Prop := fnExactStepCostRow.holds Try.pinned (OpenSpec.ofChange fnExactStepCostSpec)

/-- ITS FALSE NEIGHBOUR: 'it returns false'. Refute it at one input. -/
def fnExactStepCostWrong : ChangeSpec := { name := "fnExactStepCost", fn := fun _ => fun
  | [d] => { results := [.lit (.bool false)], args := [d] }
  | _ => none }
def FnExactStepCostWrongFalsely : Prop := fnExactStepCostRow.holds Try.pinned (OpenSpec.ofChange fnExactStepCostWrong)

/-- 'laws.FnExactEditDistance': WHATEVER THE INPUT: true; the input reads as it did. -/
def fnExactEditDistanceSpec : ChangeSpec := { name := "fnExactEditDistance", fn := fun _ => fun
  | [d1, d2] => { results := [.lit (.bool true)], args := [d1, d2] }
  | _ => none }
def fnExactEditDistanceRow : OpenClaim := { program := "ytjdpmokhhfkplaa", sum := "ed8133b5d5a6e67f791a50f60e6cd34af20154105a5b2bd2e68ec6dc987ecce6", func := "loop.example/g00918/laws.FnExactEditDistance", spec := "fnExactEditDistance", unfollowed := true, recurses := true, apart := false }
def FnExactEditDistanceSaid : Prop := fnExactEditDistanceRow.holds Try.pinned (OpenSpec.ofChange fnExactEditDistanceSpec)

/-- ITS FALSE NEIGHBOUR: 'it returns false'. Refute it at one input. -/
def fnExactEditDistanceWrong : ChangeSpec := { name := "fnExactEditDistance", fn := fun _ => fun
  | [d1, d2] => { results := [.lit (.bool false)], args := [d1, d2] }
  | _ => none }
def FnExactEditDistanceWrongFalsely : Prop := fnExactEditDistanceRow.holds Try.pinned (OpenSpec.ofChange fnExactEditDistanceWrong)

/-- 'laws.FnExactIsAlignment': WHATEVER THE INPUT: true; the input reads as it did. -/
def fnExactIsAlignmentSpec : ChangeSpec := { name := "fnExactIsAlignment", fn := fun _ => fun
  | [d1, d2, d3] => { results := [.lit (.bool true)], args := [d1, d2, d3] }
  | _ => none }
def fnExactIsAlignmentRow : OpenClaim := { program := "ytjdpmokhhfkplaa", sum := "ed8133b5d5a6e67f791a50f60e6cd34af20154105a5b2bd2e68ec6dc987ecce6", func := "loop.example/g00918/laws.FnExactIsAlignment", spec := "fnExactIsAlignment", apart := false }
def FnExactIsAlignmentSaid : Prop := fnExactIsAlignmentRow.holds Try.pinned (OpenSpec.ofChange fnExactIsAlignmentSpec)

/-- ITS FALSE NEIGHBOUR: 'it returns false'. Refute it at one input. -/
def fnExactIsAlignmentWrong : ChangeSpec := { name := "fnExactIsAlignment", fn := fun _ => fun
  | [d1, d2, d3] => { results := [.lit (.bool false)], args := [d1, d2, d3] }
  | _ => none }
def FnExactIsAlignmentWrongFalsely : Prop := fnExactIsAlignmentRow.holds Try.pinned (OpenSpec.ofChange fnExactIsAlignmentWrong)

/-- 'laws.FnExactErrorRate': WHATEVER THE INPUT: true; the input reads as it did. -/
def fnExactErrorRateSpec : ChangeSpec := { name := "fnExactErrorRate", fn := fun _ => fun
  | [d] => { results := [.lit (.bool true)], args := [d] }
  | _ => none }
def fnExactErrorRateRow : OpenClaim := { program := "ytjdpmokhhfkplaa", sum := "ed8133b5d5a6e67f791a50f60e6cd34af20154105a5b2bd2e68ec6dc987ecce6", func := "loop.example/g00918/laws.FnExactErrorRate", spec := "fnExactErrorRate", unfollowed := true, recurses := true, apart := false }
def FnExactErrorRateSaid : Prop := fnExactErrorRateRow.holds Try.pinned (OpenSpec.ofChange fnExactErrorRateSpec)

/-- ITS FALSE NEIGHBOUR: 'it returns false'. Refute it at one input. -/
def fnExactErrorRateWrong : ChangeSpec := { name := "fnExactErrorRate", fn := fun _ => fun
  | [d] => { results := [.lit (.bool false)], args := [d] }
  | _ => none }
def FnExactErrorRateWrongFalsely : Prop := fnExactErrorRateRow.holds Try.pinned (OpenSpec.ofChange fnExactErrorRateWrong)

/-- 'laws.FnExactWordsRight': WHATEVER THE INPUT: true; the input reads as it did. -/
def fnExactWordsRightSpec : ChangeSpec := { name := "fnExactWordsRight", fn := fun _ => fun
  | [d] => { results := [.lit (.bool true)], args := [d] }
  | _ => none }
def fnExactWordsRightRow : OpenClaim := { program := "ytjdpmokhhfkplaa", sum := "ed8133b5d5a6e67f791a50f60e6cd34af20154105a5b2bd2e68ec6dc987ecce6", func := "loop.example/g00918/laws.FnExactWordsRight", spec := "fnExactWordsRight", unfollowed := true, recurses := true, apart := false }
def FnExactWordsRightSaid : Prop := fnExactWordsRightRow.holds Try.pinned (OpenSpec.ofChange fnExactWordsRightSpec)

/-- ITS FALSE NEIGHBOUR: 'it returns false'. Refute it at one input. -/
def fnExactWordsRightWrong : ChangeSpec := { name := "fnExactWordsRight", fn := fun _ => fun
  | [d] => { results := [.lit (.bool false)], args := [d] }
  | _ => none }
def FnExactWordsRightWrongFalsely : Prop := fnExactWordsRightRow.holds Try.pinned (OpenSpec.ofChange fnExactWordsRightWrong)

/-- 'laws.FnExactTotalRate': WHATEVER THE INPUT: true; the input reads as it did. -/
def fnExactTotalRateSpec : ChangeSpec := { name := "fnExactTotalRate", fn := fun _ => fun
  | [d] => { results := [.lit (.bool true)], args := [d] }
  | _ => none }
def fnExactTotalRateRow : OpenClaim := { program := "ytjdpmokhhfkplaa", sum := "ed8133b5d5a6e67f791a50f60e6cd34af20154105a5b2bd2e68ec6dc987ecce6", func := "loop.example/g00918/laws.FnExactTotalRate", spec := "fnExactTotalRate", unfollowed := true, recurses := true, apart := false }
def FnExactTotalRateSaid : Prop := fnExactTotalRateRow.holds Try.pinned (OpenSpec.ofChange fnExactTotalRateSpec)

/-- ITS FALSE NEIGHBOUR: 'it returns false'. Refute it at one input. -/
def fnExactTotalRateWrong : ChangeSpec := { name := "fnExactTotalRate", fn := fun _ => fun
  | [d] => { results := [.lit (.bool false)], args := [d] }
  | _ => none }
def FnExactTotalRateWrongFalsely : Prop := fnExactTotalRateRow.holds Try.pinned (OpenSpec.ofChange fnExactTotalRateWrong)

/-- 'laws.FnNearestTexts': WHATEVER THE INPUT: true; the input reads as it did. -/
def fnNearestTextsSpec : ChangeSpec := { name := "fnNearestTexts", fn := fun _ => fun
  | [d] => { results := [.lit (.bool true)], args := [d] }
  | _ => none }
def fnNearestTextsRow : OpenClaim := { program := "ytjdpmokhhfkplaa", sum := "ed8133b5d5a6e67f791a50f60e6cd34af20154105a5b2bd2e68ec6dc987ecce6", func := "loop.example/g00918/laws.FnNearestTexts", spec := "fnNearestTexts", unfollowed := true, recurses := true, apart := false }
def FnNearestTextsSaid : Prop := fnNearestTextsRow.holds Try.pinned (OpenSpec.ofChange fnNearestTextsSpec)

/-- ITS FALSE NEIGHBOUR: 'it returns false'. Refute it at one input. -/
def fnNearestTextsWrong : ChangeSpec := { name := "fnNearestTexts", fn := fun _ => fun
  | [d] => { results := [.lit (.bool false)], args := [d] }
  | _ => none }
def FnNearestTextsWrongFalsely : Prop := fnNearestTextsRow.holds Try.pinned (OpenSpec.ofChange fnNearestTextsWrong)

/-- 'laws.FnExactNearestTexts': WHATEVER THE INPUT: true; the input reads as it did. -/
def fnExactNearestTextsSpec : ChangeSpec := { name := "fnExactNearestTexts", fn := fun _ => fun
  | [d1, d2] => { results := [.lit (.bool true)], args := [d1, d2] }
  | _ => none }
def fnExactNearestTextsRow : OpenClaim := { program := "ytjdpmokhhfkplaa", sum := "ed8133b5d5a6e67f791a50f60e6cd34af20154105a5b2bd2e68ec6dc987ecce6", func := "loop.example/g00918/laws.FnExactNearestTexts", spec := "fnExactNearestTexts", unfollowed := true, recurses := true, apart := false }
def FnExactNearestTextsSaid : Prop := fnExactNearestTextsRow.holds Try.pinned (OpenSpec.ofChange fnExactNearestTextsSpec)

/-- ITS FALSE NEIGHBOUR: 'it returns false'. Refute it at one input. -/
def fnExactNearestTextsWrong : ChangeSpec := { name := "fnExactNearestTexts", fn := fun _ => fun
  | [d1, d2] => { results := [.lit (.bool false)], args := [d1, d2] }
  | _ => none }
def FnExactNearestTextsWrongFalsely : Prop := fnExactNearestTextsRow.holds Try.pinned (OpenSpec.ofChange fnExactNearestTextsWrong)

/-- 'laws.FnExactAlignment': WHATEVER THE INPUT: true; the input reads as it did. -/
def fnExactAlignmentSpec : ChangeSpec := { name := "fnExactAlignment", fn := fun _ => fun
  | [d1, d2] => { results := [.lit (.bool true)], args := [d1, d2] }
  | _ => none }
def fnExactAlignmentRow : OpenClaim := { program := "ytjdpmokhhfkplaa", sum := "ed8133b5d5a6e67f791a50f60e6cd34af20154105a5b2bd2e68ec6dc987ecce6", func := "loop.example/g00918/laws.FnExactAlignment", spec := "fnExactAlignment", unfollowed := true, recurses := true, apart := false }
def FnExactAlignmentSaid : Prop := fnExactAlignmentRow.holds Try.pinned (OpenSpec.ofChange fnExactAlignmentSpec)

/-- ITS FALSE NEIGHBOUR: 'it returns false'. Refute it at one input. -/
def fnExactAlignmentWrong : ChangeSpec := { name := "fnExactAlignment", fn := fun _ => fun
  | [d1, d2] => { results := [.lit (.bool false)], args := [d1, d2] }
  | _ => none }
def FnExactAlignmentWrongFalsely : Prop := fnExactAlignmentRow.holds Try.pinned (OpenSpec.ofChange fnExactAlignmentWrong)

/-- 'laws.FnDistances': WHATEVER THE INPUT: true; the input reads as it did. -/
def fnDistancesSpec : ChangeSpec := { name := "fnDistances", fn := fun _ => fun
  | [d] => { results := [.lit (.bool true)], args := [d] }
  | _ => none }
def fnDistancesRow : OpenClaim := { program := "ytjdpmokhhfkplaa", sum := "ed8133b5d5a6e67f791a50f60e6cd34af20154105a5b2bd2e68ec6dc987ecce6", func := "loop.example/g00918/laws.FnDistances", spec := "fnDistances", unfollowed := true, recurses := true, apart := false }
def FnDistancesSaid : Prop := fnDistancesRow.holds Try.pinned (OpenSpec.ofChange fnDistancesSpec)

/-- ITS FALSE NEIGHBOUR: 'it returns false'. Refute it at one input. -/
def fnDistancesWrong : ChangeSpec := { name := "fnDistances", fn := fun _ => fun
  | [d] => { results := [.lit (.bool false)], args := [d] }
  | _ => none }
def FnDistancesWrongFalsely : Prop := fnDistancesRow.holds Try.pinned (OpenSpec.ofChange fnDistancesWrong)

/- THE SECOND FORM. 'bulk': how many values and letters a reading holds, each counted each time it is reached (what is shared counts as often as it is met; a slice's spare places count too). A statement '..UptoSaid' is the law's where the arguments, and the package variables that the reading takes, are together of bulk at most 1048576: NARROWER than '..Said'. Prove '..Said' where nothing that the law and all that it calls make is longer than what came in: it says more and counts as full. Else prove '..UptoSaid'. A law counts once. -/
mutual
def uptoBulk {H : Type} : DataW H → Nat
  | .lit (.string bytes) => bytes.length + 1
  | .lit _ => 1
  | .nil => 1
  | .ptr d => uptoBulk d + 1
  | .slice elems spare => uptoBulkAll elems + uptoBulkAll spare + 1
  | .agg parts => uptoBulkAll parts + 1
  | .iface _ d => uptoBulk d + 1
  | .map entries => uptoBulkEntries entries + 1
  | .held _ => 1
def uptoBulkAll {H : Type} : List (DataW H) → Nat
  | [] => 0
  | d :: r => uptoBulk d + uptoBulkAll r
def uptoBulkEntries {H : Type} : List (Lit × DataW H) → Nat
  | [] => 0
  | x :: r => uptoBulkEntry x + uptoBulkEntries r
def uptoBulkEntry {H : Type} : Lit × DataW H → Nat
  | (.string bytes, d) => bytes.length + uptoBulk d + 1
  | (_, d) => uptoBulk d + 1
 end
def uptoSmall : (H : Type) → List (DataW H) → Bool := fun _ ds => decide (uptoBulkAll ds ≤ 1048576)
def OpenSpec.upto (s : _root_.Go.ChangeSpec) : _root_.Go.OpenSpec := { _root_.Go.OpenSpec.ofChange s with cond := some uptoSmall }

/-- 'laws.FnExactDeskWords', WHERE WHAT IT READS IS OF BULK AT MOST 1048576: true; the input reads as it did. -/
def fnExactDeskWordsUptoRow : OpenClaim := { program := "ytjdpmokhhfkplaa", sum := "ed8133b5d5a6e67f791a50f60e6cd34af20154105a5b2bd2e68ec6dc987ecce6", func := "loop.example/g00918/laws.FnExactDeskWords", spec := "fnExactDeskWords", apart := false, narrowed := true }
def FnExactDeskWordsUptoSaid : Prop := fnExactDeskWordsUptoRow.holds Try.pinned (OpenSpec.upto fnExactDeskWordsSpec)

/-- 'laws.FnExactCommonLength', WHERE WHAT IT READS IS OF BULK AT MOST 1048576: true; the input reads as it did. -/
def fnExactCommonLengthUptoRow : OpenClaim := { program := "ytjdpmokhhfkplaa", sum := "ed8133b5d5a6e67f791a50f60e6cd34af20154105a5b2bd2e68ec6dc987ecce6", func := "loop.example/g00918/laws.FnExactCommonLength", spec := "fnExactCommonLength", unfollowed := true, recurses := true, apart := false, narrowed := true }
def FnExactCommonLengthUptoSaid : Prop := fnExactCommonLengthUptoRow.holds Try.pinned (OpenSpec.upto fnExactCommonLengthSpec)

/-- 'laws.FnExactStepCost', WHERE WHAT IT READS IS OF BULK AT MOST 1048576: true; the input reads as it did. -/
def fnExactStepCostUptoRow : OpenClaim := { program := "ytjdpmokhhfkplaa", sum := "ed8133b5d5a6e67f791a50f60e6cd34af20154105a5b2bd2e68ec6dc987ecce6", func := "loop.example/g00918/laws.FnExactStepCost", spec := "fnExactStepCost", apart := false, narrowed := true }
def FnExactStepCostUptoSaid : Prop := fnExactStepCostUptoRow.holds Try.pinned (OpenSpec.upto fnExactStepCostSpec)

/-- 'laws.FnExactEditDistance', WHERE WHAT IT READS IS OF BULK AT MOST 1048576: true; the input reads as it did. -/
def fnExactEditDistanceUptoRow : OpenClaim := { program := "ytjdpmokhhfkplaa", sum := "ed8133b5d5a6e67f791a50f60e6cd34af20154105a5b2bd2e68ec6dc987ecce6", func := "loop.example/g00918/laws.FnExactEditDistance", spec := "fnExactEditDistance", unfollowed := true, recurses := true, apart := false, narrowed := true }
def FnExactEditDistanceUptoSaid : Prop := fnExactEditDistanceUptoRow.holds Try.pinned (OpenSpec.upto fnExactEditDistanceSpec)

/-- 'laws.FnExactIsAlignment', WHERE WHAT IT READS IS OF BULK AT MOST 1048576: true; the input reads as it did. -/
def fnExactIsAlignmentUptoRow : OpenClaim := { program := "ytjdpmokhhfkplaa", sum := "ed8133b5d5a6e67f791a50f60e6cd34af20154105a5b2bd2e68ec6dc987ecce6", func := "loop.example/g00918/laws.FnExactIsAlignment", spec := "fnExactIsAlignment", apart := false, narrowed := true }
def FnExactIsAlignmentUptoSaid : Prop := fnExactIsAlignmentUptoRow.holds Try.pinned (OpenSpec.upto fnExactIsAlignmentSpec)

/-- 'laws.FnExactErrorRate', WHERE WHAT IT READS IS OF BULK AT MOST 1048576: true; the input reads as it did. -/
def fnExactErrorRateUptoRow : OpenClaim := { program := "ytjdpmokhhfkplaa", sum := "ed8133b5d5a6e67f791a50f60e6cd34af20154105a5b2bd2e68ec6dc987ecce6", func := "loop.example/g00918/laws.FnExactErrorRate", spec := "fnExactErrorRate", unfollowed := true, recurses := true, apart := false, narrowed := true }
def FnExactErrorRateUptoSaid : Prop := fnExactErrorRateUptoRow.holds Try.pinned (OpenSpec.upto fnExactErrorRateSpec)

/-- 'laws.FnExactWordsRight', WHERE WHAT IT READS IS OF BULK AT MOST 1048576: true; the input reads as it did. -/
def fnExactWordsRightUptoRow : OpenClaim := { program := "ytjdpmokhhfkplaa", sum := "ed8133b5d5a6e67f791a50f60e6cd34af20154105a5b2bd2e68ec6dc987ecce6", func := "loop.example/g00918/laws.FnExactWordsRight", spec := "fnExactWordsRight", unfollowed := true, recurses := true, apart := false, narrowed := true }
def FnExactWordsRightUptoSaid : Prop := fnExactWordsRightUptoRow.holds Try.pinned (OpenSpec.upto fnExactWordsRightSpec)

/-- 'laws.FnExactTotalRate', WHERE WHAT IT READS IS OF BULK AT MOST 1048576: true; the input reads as it did. -/
def fnExactTotalRateUptoRow : OpenClaim := { program := "ytjdpmokhhfkplaa", sum := "ed8133b5d5a6e67f791a50f60e6cd34af20154105a5b2bd2e68ec6dc987ecce6", func := "loop.example/g00918/laws.FnExactTotalRate", spec := "fnExactTotalRate", unfollowed := true, recurses := true, apart := false, narrowed := true }
def FnExactTotalRateUptoSaid : Prop := fnExactTotalRateUptoRow.holds Try.pinned (OpenSpec.upto fnExactTotalRateSpec)

/-- 'laws.FnNearestTexts', WHERE WHAT IT READS IS OF BULK AT MOST 1048576: true; the input reads as it did. -/
def fnNearestTextsUptoRow : OpenClaim := { program := "ytjdpmokhhfkplaa", sum := "ed8133b5d5a6e67f791a50f60e6cd34af20154105a5b2bd2e68ec6dc987ecce6", func := "loop.example/g00918/laws.FnNearestTexts", spec := "fnNearestTexts", unfollowed := true, recurses := true, apart := false, narrowed := true }
def FnNearestTextsUptoSaid : Prop := fnNearestTextsUptoRow.holds Try.pinned (OpenSpec.upto fnNearestTextsSpec)

/-- 'laws.FnExactNearestTexts', WHERE WHAT IT READS IS OF BULK AT MOST 1048576: true; the input reads as it did. -/
def fnExactNearestTextsUptoRow : OpenClaim := { program := "ytjdpmokhhfkplaa", sum := "ed8133b5d5a6e67f791a50f60e6cd34af20154105a5b2bd2e68ec6dc987ecce6", func := "loop.example/g00918/laws.FnExactNearestTexts", spec := "fnExactNearestTexts", unfollowed := true, recurses := true, apart := false, narrowed := true }
def FnExactNearestTextsUptoSaid : Prop := fnExactNearestTextsUptoRow.holds Try.pinned (OpenSpec.upto fnExactNearestTextsSpec)

/-- 'laws.FnExactAlignment', WHERE WHAT IT READS IS OF BULK AT MOST 1048576: true; the input reads as it did. -/
def fnExactAlignmentUptoRow : OpenClaim := { program := "ytjdpmokhhfkplaa", sum := "ed8133b5d5a6e67f791a50f60e6cd34af20154105a5b2bd2e68ec6dc987ecce6", func := "loop.example/g00918/laws.FnExactAlignment", spec := "fnExactAlignment", unfollowed := true, recurses := true, apart := false, narrowed := true }
def FnExactAlignmentUptoSaid : Prop := fnExactAlignmentUptoRow.holds Try.pinned (OpenSpec.upto fnExactAlignmentSpec)

/-- 'laws.FnDistances', WHERE WHAT IT READS IS OF BULK AT MOST 1048576: true; the input reads as it did. -/
def fnDistancesUptoRow : OpenClaim := { program := "ytjdpmokhhfkplaa", sum := "ed8133b5d5a6e67f791a50f60e6cd34af20154105a5b2bd2e68ec6dc987ecce6", func := "loop.example/g00918/laws.FnDistances", spec := "fnDistances", unfollowed := true, recurses := true, apart := false, narrowed := true }
def FnDistancesUptoSaid : Prop := fnDistancesUptoRow.holds Try.pinned (OpenSpec.upto fnDistancesSpec)

end Rows
end Go.Proofs.Ytjdpmokhhfkplaa

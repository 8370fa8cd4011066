/-
  No cell of these rows narrows 'for every input' (looked for: loops, veiled, ifaces, maps, wideKeys, modest, calm, conditions, laid).
  DERIVED. THE GIVEN ROWS OF THIS SEAT. 6 by the template 'for every input the law returns true; each argument reads behind the call as it read before'; 0 by the template 'total and deterministic' (their statements: YtkickllohilciaaTotals.lean).
  GIVEN WITH THE SEED: the statements are not yours to turn. If you find one false, say at which input.
  Laid BY PROGRAM, IN A SANDBOX (cutbox-rows.mjs): the forced cells as the released guide's own fill.sh prints them over the translation 51ac077d601c14b3… (all of the seat's roots in one cut). By AI agents, Wed Nov 11 2026. No macro, syntax, notation, axiom, sorry.
-/
import Derived.Test.YtkickllohilciaaChecked
import GoSem.Claim
import GoSem.ClaimJoined
import GoSem.ClaimMapViews
import Derived.JoinedTies
import Derived.KernelRfl
namespace Go.Proofs.Ytkickllohilciaa
/- THE CELL 'sum', in the pinned program and in every row, IS THE sha256 OF THE DUMP (.gsa) THAT YtkickllohilciaaProg.lean LOADS. Nothing in Lean hashes anything: it is a label: what it is worth is what the hold of that sum in a sandbox is worth. -/
noncomputable def Try.pinned : Pinned := { name := "ytkickllohilciaa", sum := "51ac077d601c14b362adec5da80f0130a6050dc4d3ce4062012a905d212b4e72", checked := Try.checked }
namespace Rows
def none {H : Type} : Left H := { results := [], args := [] }

/-- 'laws.FnExactIsTreeOf': WHATEVER THE INPUT: true; the input reads as it did. -/
def fnExactIsTreeOfSpec : ChangeSpec := { name := "fnExactIsTreeOf", fn := fun _ => fun
  | [d1, d2] => { results := [.lit (.bool true)], args := [d1, d2] }
  | _ => none }
def fnExactIsTreeOfRow : OpenClaim := { program := "ytkickllohilciaa", sum := "51ac077d601c14b362adec5da80f0130a6050dc4d3ce4062012a905d212b4e72", func := "loop.example/g00918/laws.FnExactIsTreeOf", spec := "fnExactIsTreeOf", inPlace := ["internal/bytealg.IndexByteString", "internal/bytealg.IndexString"], unfollowed := true, recurses := true, named := ["internal/bytealg.MaxLen"], apart := false }
def FnExactIsTreeOfSaid : Prop := fnExactIsTreeOfRow.holds Try.pinned (OpenSpec.ofChange fnExactIsTreeOfSpec)

/-- ITS FALSE NEIGHBOUR: 'it returns false'. Refute it at one input. -/
def fnExactIsTreeOfWrong : ChangeSpec := { name := "fnExactIsTreeOf", fn := fun _ => fun
  | [d1, d2] => { results := [.lit (.bool false)], args := [d1, d2] }
  | _ => none }
def FnExactIsTreeOfWrongFalsely : Prop := fnExactIsTreeOfRow.holds Try.pinned (OpenSpec.ofChange fnExactIsTreeOfWrong)

/-- 'laws.FnExactTreeCost': WHATEVER THE INPUT: true; the input reads as it did. -/
def fnExactTreeCostSpec : ChangeSpec := { name := "fnExactTreeCost", fn := fun _ => fun
  | [d1, d2] => { results := [.lit (.bool true)], args := [d1, d2] }
  | _ => none }
def fnExactTreeCostRow : OpenClaim := { program := "ytkickllohilciaa", sum := "51ac077d601c14b362adec5da80f0130a6050dc4d3ce4062012a905d212b4e72", func := "loop.example/g00918/laws.FnExactTreeCost", spec := "fnExactTreeCost", inPlace := ["internal/bytealg.IndexByteString", "internal/bytealg.IndexString"], unfollowed := true, recurses := true, named := ["internal/bytealg.MaxLen"], apart := false }
def FnExactTreeCostSaid : Prop := fnExactTreeCostRow.holds Try.pinned (OpenSpec.ofChange fnExactTreeCostSpec)

/-- ITS FALSE NEIGHBOUR: 'it returns false'. Refute it at one input. -/
def fnExactTreeCostWrong : ChangeSpec := { name := "fnExactTreeCost", fn := fun _ => fun
  | [d1, d2] => { results := [.lit (.bool false)], args := [d1, d2] }
  | _ => none }
def FnExactTreeCostWrongFalsely : Prop := fnExactTreeCostRow.holds Try.pinned (OpenSpec.ofChange fnExactTreeCostWrong)

/-- 'laws.FnExactDepthOf': WHATEVER THE INPUT: true; the input reads as it did. -/
def fnExactDepthOfSpec : ChangeSpec := { name := "fnExactDepthOf", fn := fun _ => fun
  | [d1, d2] => { results := [.lit (.bool true)], args := [d1, d2] }
  | _ => none }
def fnExactDepthOfRow : OpenClaim := { program := "ytkickllohilciaa", sum := "51ac077d601c14b362adec5da80f0130a6050dc4d3ce4062012a905d212b4e72", func := "loop.example/g00918/laws.FnExactDepthOf", spec := "fnExactDepthOf", inPlace := ["internal/bytealg.IndexByteString", "internal/bytealg.IndexString"], unfollowed := true, recurses := true, named := ["internal/bytealg.MaxLen"], apart := false }
def FnExactDepthOfSaid : Prop := fnExactDepthOfRow.holds Try.pinned (OpenSpec.ofChange fnExactDepthOfSpec)

/-- ITS FALSE NEIGHBOUR: 'it returns false'. Refute it at one input. -/
def fnExactDepthOfWrong : ChangeSpec := { name := "fnExactDepthOf", fn := fun _ => fun
  | [d1, d2] => { results := [.lit (.bool false)], args := [d1, d2] }
  | _ => none }
def FnExactDepthOfWrongFalsely : Prop := fnExactDepthOfRow.holds Try.pinned (OpenSpec.ofChange fnExactDepthOfWrong)

/-- 'laws.FnExactExprText': WHATEVER THE INPUT: true; the input reads as it did. -/
def fnExactExprTextSpec : ChangeSpec := { name := "fnExactExprText", fn := fun _ => fun
  | [d1, d2] => { results := [.lit (.bool true)], args := [d1, d2] }
  | _ => none }
def fnExactExprTextRow : OpenClaim := { program := "ytkickllohilciaa", sum := "51ac077d601c14b362adec5da80f0130a6050dc4d3ce4062012a905d212b4e72", func := "loop.example/g00918/laws.FnExactExprText", spec := "fnExactExprText", inPlace := ["internal/bytealg.IndexByteString", "internal/bytealg.IndexString"], unfollowed := true, recurses := true, named := ["internal/bytealg.MaxLen"], apart := false }
def FnExactExprTextSaid : Prop := fnExactExprTextRow.holds Try.pinned (OpenSpec.ofChange fnExactExprTextSpec)

/-- ITS FALSE NEIGHBOUR: 'it returns false'. Refute it at one input. -/
def fnExactExprTextWrong : ChangeSpec := { name := "fnExactExprText", fn := fun _ => fun
  | [d1, d2] => { results := [.lit (.bool false)], args := [d1, d2] }
  | _ => none }
def FnExactExprTextWrongFalsely : Prop := fnExactExprTextRow.holds Try.pinned (OpenSpec.ofChange fnExactExprTextWrong)

/-- 'laws.FnExactLeavesOf': WHATEVER THE INPUT: true; the input reads as it did. -/
def fnExactLeavesOfSpec : ChangeSpec := { name := "fnExactLeavesOf", fn := fun _ => fun
  | [d1, d2] => { results := [.lit (.bool true)], args := [d1, d2] }
  | _ => none }
def fnExactLeavesOfRow : OpenClaim := { program := "ytkickllohilciaa", sum := "51ac077d601c14b362adec5da80f0130a6050dc4d3ce4062012a905d212b4e72", func := "loop.example/g00918/laws.FnExactLeavesOf", spec := "fnExactLeavesOf", inPlace := ["internal/bytealg.IndexByteString", "internal/bytealg.IndexString"], unfollowed := true, recurses := true, named := ["internal/bytealg.MaxLen"], apart := false }
def FnExactLeavesOfSaid : Prop := fnExactLeavesOfRow.holds Try.pinned (OpenSpec.ofChange fnExactLeavesOfSpec)

/-- ITS FALSE NEIGHBOUR: 'it returns false'. Refute it at one input. -/
def fnExactLeavesOfWrong : ChangeSpec := { name := "fnExactLeavesOf", fn := fun _ => fun
  | [d1, d2] => { results := [.lit (.bool false)], args := [d1, d2] }
  | _ => none }
def FnExactLeavesOfWrongFalsely : Prop := fnExactLeavesOfRow.holds Try.pinned (OpenSpec.ofChange fnExactLeavesOfWrong)

/-- 'laws.FnExactNodeBoxes': WHATEVER THE INPUT: true; the input reads as it did. -/
def fnExactNodeBoxesSpec : ChangeSpec := { name := "fnExactNodeBoxes", fn := fun _ => fun
  | [d1, d2] => { results := [.lit (.bool true)], args := [d1, d2] }
  | _ => none }
def fnExactNodeBoxesRow : OpenClaim := { program := "ytkickllohilciaa", sum := "51ac077d601c14b362adec5da80f0130a6050dc4d3ce4062012a905d212b4e72", func := "loop.example/g00918/laws.FnExactNodeBoxes", spec := "fnExactNodeBoxes", inPlace := ["internal/bytealg.IndexByteString", "internal/bytealg.IndexString"], unfollowed := true, recurses := true, named := ["internal/bytealg.MaxLen"], apart := false }
def FnExactNodeBoxesSaid : Prop := fnExactNodeBoxesRow.holds Try.pinned (OpenSpec.ofChange fnExactNodeBoxesSpec)

/-- ITS FALSE NEIGHBOUR: 'it returns false'. Refute it at one input. -/
def fnExactNodeBoxesWrong : ChangeSpec := { name := "fnExactNodeBoxes", fn := fun _ => fun
  | [d1, d2] => { results := [.lit (.bool false)], args := [d1, d2] }
  | _ => none }
def FnExactNodeBoxesWrongFalsely : Prop := fnExactNodeBoxesRow.holds Try.pinned (OpenSpec.ofChange fnExactNodeBoxesWrong)

/- THE SECOND FORM. 'bulk': how many values and letters a reading holds, each counted each time it is reached (what is shared counts as often as it is met; a slice's spare places count too). A statement '..UptoSaid' is the law's where the arguments, and the package variables that the reading takes, are together of bulk at most 1048576: NARROWER than '..Said'. Prove '..Said' where nothing that the law and all that it calls make is longer than what came in: it says more and counts as full. Else prove '..UptoSaid'. A law counts once. -/
mutual
def uptoBulk {H : Type} : DataW H → Nat
  | .lit (.string bytes) => bytes.length + 1
  | .lit _ => 1
  | .nil => 1
  | .ptr d => uptoBulk d + 1
  | .slice elems spare => uptoBulkAll elems + uptoBulkAll spare + 1
  | .agg parts => uptoBulkAll parts + 1
  | .iface _ d => uptoBulk d + 1
  | .map entries => uptoBulkEntries entries + 1
  | .held _ => 1
def uptoBulkAll {H : Type} : List (DataW H) → Nat
  | [] => 0
  | d :: r => uptoBulk d + uptoBulkAll r
def uptoBulkEntries {H : Type} : List (Lit × DataW H) → Nat
  | [] => 0
  | x :: r => uptoBulkEntry x + uptoBulkEntries r
def uptoBulkEntry {H : Type} : Lit × DataW H → Nat
  | (.string bytes, d) => bytes.length + uptoBulk d + 1
  | (_, d) => uptoBulk d + 1
 end
def uptoSmall : (H : Type) → List (DataW H) → Bool := fun _ ds => decide (uptoBulkAll ds ≤ 1048576)
def OpenSpec.upto (s : _root_.Go.ChangeSpec) : _root_.Go.OpenSpec := { _root_.Go.OpenSpec.ofChange s with cond := some uptoSmall }

/-- 'laws.FnExactIsTreeOf', WHERE WHAT IT READS IS OF BULK AT MOST 1048576: true; the input reads as it did. -/
def fnExactIsTreeOfUptoRow : OpenClaim := { program := "ytkickllohilciaa", sum := "51ac077d601c14b362adec5da80f0130a6050dc4d3ce4062012a905d212b4e72", func := "loop.example/g00918/laws.FnExactIsTreeOf", spec := "fnExactIsTreeOf", inPlace := ["internal/bytealg.IndexByteString", "internal/bytealg.IndexString"], unfollowed := true, recurses := true, named := ["internal/bytealg.MaxLen"], apart := false, narrowed := true }
def FnExactIsTreeOfUptoSaid : Prop := fnExactIsTreeOfUptoRow.holds Try.pinned (OpenSpec.upto fnExactIsTreeOfSpec)

/-- 'laws.FnExactTreeCost', WHERE WHAT IT READS IS OF BULK AT MOST 1048576: true; the input reads as it did. -/
def fnExactTreeCostUptoRow : OpenClaim := { program := "ytkickllohilciaa", sum := "51ac077d601c14b362adec5da80f0130a6050dc4d3ce4062012a905d212b4e72", func := "loop.example/g00918/laws.FnExactTreeCost", spec := "fnExactTreeCost", inPlace := ["internal/bytealg.IndexByteString", "internal/bytealg.IndexString"], unfollowed := true, recurses := true, named := ["internal/bytealg.MaxLen"], apart := false, narrowed := true }
def FnExactTreeCostUptoSaid : Prop := fnExactTreeCostUptoRow.holds Try.pinned (OpenSpec.upto fnExactTreeCostSpec)

/-- 'laws.FnExactDepthOf', WHERE WHAT IT READS IS OF BULK AT MOST 1048576: true; the input reads as it did. -/
def fnExactDepthOfUptoRow : OpenClaim := { program := "ytkickllohilciaa", sum := "51ac077d601c14b362adec5da80f0130a6050dc4d3ce4062012a905d212b4e72", func := "loop.example/g00918/laws.FnExactDepthOf", spec := "fnExactDepthOf", inPlace := ["internal/bytealg.IndexByteString", "internal/bytealg.IndexString"], unfollowed := true, recurses := true, named := ["internal/bytealg.MaxLen"], apart := false, narrowed := true }
def FnExactDepthOfUptoSaid : Prop := fnExactDepthOfUptoRow.holds Try.pinned (OpenSpec.upto fnExactDepthOfSpec)

/-- 'laws.FnExactExprText', WHERE WHAT IT READS IS OF BULK AT MOST 1048576: true; the input reads as it did. -/
def fnExactExprTextUptoRow : OpenClaim := { program := "ytkickllohilciaa", sum := "51ac077d601c14b362adec5da80f0130a6050dc4d3ce4062012a905d212b4e72", func := "loop.example/g00918/laws.FnExactExprText", spec := "fnExactExprText", inPlace := ["internal/bytealg.IndexByteString", "internal/bytealg.IndexString"], unfollowed := true, recurses := true, named := ["internal/bytealg.MaxLen"], apart := false, narrowed := true }
def FnExactExprTextUptoSaid : Prop := fnExactExprTextUptoRow.holds Try.pinned (OpenSpec.upto fnExactExprTextSpec)

/-- 'laws.FnExactLeavesOf', WHERE WHAT IT READS IS OF BULK AT MOST 1048576: true; the input reads as it did. -/
def fnExactLeavesOfUptoRow : OpenClaim := { program := "ytkickllohilciaa", sum := "51ac077d601c14b362adec5da80f0130a6050dc4d3ce4062012a905d212b4e72", func := "loop.example/g00918/laws.FnExactLeavesOf", spec := "fnExactLeavesOf", inPlace := ["internal/bytealg.IndexByteString", "internal/bytealg.IndexString"], unfollowed := true, recurses := true, named := ["internal/bytealg.MaxLen"], apart := false, narrowed := true }
def FnExactLeavesOfUptoSaid : Prop := fnExactLeavesOfUptoRow.holds Try.pinned (OpenSpec.upto fnExactLeavesOfSpec)

/-- 'laws.FnExactNodeBoxes', WHERE WHAT IT READS IS OF BULK AT MOST 1048576: true; the input reads as it did. -/
def fnExactNodeBoxesUptoRow : OpenClaim := { program := "ytkickllohilciaa", sum := "51ac077d601c14b362adec5da80f0130a6050dc4d3ce4062012a905d212b4e72", func := "loop.example/g00918/laws.FnExactNodeBoxes", spec := "fnExactNodeBoxes", inPlace := ["internal/bytealg.IndexByteString", "internal/bytealg.IndexString"], unfollowed := true, recurses := true, named := ["internal/bytealg.MaxLen"], apart := false, narrowed := true }
def FnExactNodeBoxesUptoSaid : Prop := fnExactNodeBoxesUptoRow.holds Try.pinned (OpenSpec.upto fnExactNodeBoxesSpec)

end Rows
end Go.Proofs.Ytkickllohilciaa

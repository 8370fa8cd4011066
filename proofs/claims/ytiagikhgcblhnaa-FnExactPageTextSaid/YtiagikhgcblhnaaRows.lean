/-
  No cell of these rows narrows 'for every input' (looked for: loops, veiled, ifaces, maps, wideKeys, modest, calm, conditions, laid).
  DERIVED. THE GIVEN ROWS OF THIS SEAT. 5 by the template 'for every input the law returns true; each argument reads behind the call as it read before'; 0 by the template 'total and deterministic' (their statements: YtiagikhgcblhnaaTotals.lean).
  GIVEN WITH THE SEED: the statements are not yours to turn. If you find one false, say at which input.
  Laid BY PROGRAM, IN A SANDBOX (cutbox-rows.mjs): the forced cells as the released guide's own fill.sh prints them over the translation 2e713252e102d477… (all of the seat's roots in one cut). By AI agents, Wed Nov 11 2026. No macro, syntax, notation, axiom, sorry.
-/
import Derived.Test.YtiagikhgcblhnaaChecked
import GoSem.Claim
import GoSem.ClaimJoined
import GoSem.ClaimMapViews
import Derived.JoinedTies
import Derived.KernelRfl
namespace Go.Proofs.Ytiagikhgcblhnaa
/- THE CELL 'sum', in the pinned program and in every row, IS THE sha256 OF THE DUMP (.gsa) THAT YtiagikhgcblhnaaProg.lean LOADS. Nothing in Lean hashes anything: it is a label: what it is worth is what the hold of that sum in a sandbox is worth. -/
noncomputable def Try.pinned : Pinned := { name := "ytiagikhgcblhnaa", sum := "2e713252e102d47788c06077581e6354953bddaf38068b888e0a6117f116deda", checked := Try.checked }
namespace Rows
def none {H : Type} : Left H := { results := [], args := [] }

/-- 'laws.FnExactSamePage': WHATEVER THE INPUT: true; the input reads as it did. -/
def fnExactSamePageSpec : ChangeSpec := { name := "fnExactSamePage", fn := fun _ => fun
  | [d1, d2] => { results := [.lit (.bool true)], args := [d1, d2] }
  | _ => none }
def fnExactSamePageRow : OpenClaim := { program := "ytiagikhgcblhnaa", sum := "2e713252e102d47788c06077581e6354953bddaf38068b888e0a6117f116deda", func := "loop.example/g00918/laws.FnExactSamePage", spec := "fnExactSamePage", unfollowed := true, recurses := true, apart := false }
def FnExactSamePageSaid : Prop := fnExactSamePageRow.holds Try.pinned (OpenSpec.ofChange fnExactSamePageSpec)

/-- ITS FALSE NEIGHBOUR: 'it returns false'. Refute it at one input. -/
def fnExactSamePageWrong : ChangeSpec := { name := "fnExactSamePage", fn := fun _ => fun
  | [d1, d2] => { results := [.lit (.bool false)], args := [d1, d2] }
  | _ => none }
def FnExactSamePageWrongFalsely : Prop := fnExactSamePageRow.holds Try.pinned (OpenSpec.ofChange fnExactSamePageWrong)

/-- 'laws.FnExactPageText': WHATEVER THE INPUT: true; the input reads as it did. -/
def fnExactPageTextSpec : ChangeSpec := { name := "fnExactPageText", fn := fun _ => fun
  | [d] => { results := [.lit (.bool true)], args := [d] }
  | _ => none }
def fnExactPageTextRow : OpenClaim := { program := "ytiagikhgcblhnaa", sum := "2e713252e102d47788c06077581e6354953bddaf38068b888e0a6117f116deda", func := "loop.example/g00918/laws.FnExactPageText", spec := "fnExactPageText", inPlace := ["slices.overlaps[string]", "slices.overlaps[loop.example/g00918/impl.TextLine]", "internal/abi.NoEscape", "internal/bytealg.MakeNoZero"], unfollowed := true, recurses := true, apart := false }
def FnExactPageTextSaid : Prop := fnExactPageTextRow.holds Try.pinned (OpenSpec.ofChange fnExactPageTextSpec)

/-- ITS FALSE NEIGHBOUR: 'it returns false'. Refute it at one input. -/
def fnExactPageTextWrong : ChangeSpec := { name := "fnExactPageText", fn := fun _ => fun
  | [d] => { results := [.lit (.bool false)], args := [d] }
  | _ => none }
def FnExactPageTextWrongFalsely : Prop := fnExactPageTextRow.holds Try.pinned (OpenSpec.ofChange fnExactPageTextWrong)

/-- 'laws.FnExactRedoStep': WHATEVER THE INPUT: true; the input reads as it did. -/
def fnExactRedoStepSpec : ChangeSpec := { name := "fnExactRedoStep", fn := fun _ => fun
  | [d] => { results := [.lit (.bool true)], args := [d] }
  | _ => none }
def fnExactRedoStepRow : OpenClaim := { program := "ytiagikhgcblhnaa", sum := "2e713252e102d47788c06077581e6354953bddaf38068b888e0a6117f116deda", func := "loop.example/g00918/laws.FnExactRedoStep", spec := "fnExactRedoStep", inPlace := ["slices.overlaps[string]", "slices.overlaps[loop.example/g00918/impl.TextLine]"], unfollowed := true, recurses := true, apart := false }
def FnExactRedoStepSaid : Prop := fnExactRedoStepRow.holds Try.pinned (OpenSpec.ofChange fnExactRedoStepSpec)

/-- ITS FALSE NEIGHBOUR: 'it returns false'. Refute it at one input. -/
def fnExactRedoStepWrong : ChangeSpec := { name := "fnExactRedoStep", fn := fun _ => fun
  | [d] => { results := [.lit (.bool false)], args := [d] }
  | _ => none }
def FnExactRedoStepWrongFalsely : Prop := fnExactRedoStepRow.holds Try.pinned (OpenSpec.ofChange fnExactRedoStepWrong)

/-- 'laws.FnExactUndoStep': WHATEVER THE INPUT: true; the input reads as it did. -/
def fnExactUndoStepSpec : ChangeSpec := { name := "fnExactUndoStep", fn := fun _ => fun
  | [d] => { results := [.lit (.bool true)], args := [d] }
  | _ => none }
def fnExactUndoStepRow : OpenClaim := { program := "ytiagikhgcblhnaa", sum := "2e713252e102d47788c06077581e6354953bddaf38068b888e0a6117f116deda", func := "loop.example/g00918/laws.FnExactUndoStep", spec := "fnExactUndoStep", inPlace := ["slices.overlaps[string]", "slices.overlaps[loop.example/g00918/impl.TextLine]"], unfollowed := true, recurses := true, apart := false }
def FnExactUndoStepSaid : Prop := fnExactUndoStepRow.holds Try.pinned (OpenSpec.ofChange fnExactUndoStepSpec)

/-- ITS FALSE NEIGHBOUR: 'it returns false'. Refute it at one input. -/
def fnExactUndoStepWrong : ChangeSpec := { name := "fnExactUndoStep", fn := fun _ => fun
  | [d] => { results := [.lit (.bool false)], args := [d] }
  | _ => none }
def FnExactUndoStepWrongFalsely : Prop := fnExactUndoStepRow.holds Try.pinned (OpenSpec.ofChange fnExactUndoStepWrong)

/-- 'laws.FnExactDoStep': WHATEVER THE INPUT: true; the input reads as it did. -/
def fnExactDoStepSpec : ChangeSpec := { name := "fnExactDoStep", fn := fun _ => fun
  | [d1, d2] => { results := [.lit (.bool true)], args := [d1, d2] }
  | _ => none }
def fnExactDoStepRow : OpenClaim := { program := "ytiagikhgcblhnaa", sum := "2e713252e102d47788c06077581e6354953bddaf38068b888e0a6117f116deda", func := "loop.example/g00918/laws.FnExactDoStep", spec := "fnExactDoStep", inPlace := ["slices.overlaps[string]", "slices.overlaps[loop.example/g00918/impl.TextLine]"], unfollowed := true, recurses := true, apart := false }
def FnExactDoStepSaid : Prop := fnExactDoStepRow.holds Try.pinned (OpenSpec.ofChange fnExactDoStepSpec)

/-- ITS FALSE NEIGHBOUR: 'it returns false'. Refute it at one input. -/
def fnExactDoStepWrong : ChangeSpec := { name := "fnExactDoStep", fn := fun _ => fun
  | [d1, d2] => { results := [.lit (.bool false)], args := [d1, d2] }
  | _ => none }
def FnExactDoStepWrongFalsely : Prop := fnExactDoStepRow.holds Try.pinned (OpenSpec.ofChange fnExactDoStepWrong)

/- THE SECOND FORM. 'bulk': how many values and letters a reading holds, each counted each time it is reached (what is shared counts as often as it is met; a slice's spare places count too). A statement '..UptoSaid' is the law's where the arguments, and the package variables that the reading takes, are together of bulk at most 1048576: NARROWER than '..Said'. Prove '..Said' where nothing that the law and all that it calls make is longer than what came in: it says more and counts as full. Else prove '..UptoSaid'. A law counts once. -/
mutual
def uptoBulk {H : Type} : DataW H → Nat
  | .lit (.string bytes) => bytes.length + 1
  | .lit _ => 1
  | .nil => 1
  | .ptr d => uptoBulk d + 1
  | .slice elems spare => uptoBulkAll elems + uptoBulkAll spare + 1
  | .agg parts => uptoBulkAll parts + 1
  | .iface _ d => uptoBulk d + 1
  | .map entries => uptoBulkEntries entries + 1
  | .held _ => 1
def uptoBulkAll {H : Type} : List (DataW H) → Nat
  | [] => 0
  | d :: r => uptoBulk d + uptoBulkAll r
def uptoBulkEntries {H : Type} : List (Lit × DataW H) → Nat
  | [] => 0
  | x :: r => uptoBulkEntry x + uptoBulkEntries r
def uptoBulkEntry {H : Type} : Lit × DataW H → Nat
  | (.string bytes, d) => bytes.length + uptoBulk d + 1
  | (_, d) => uptoBulk d + 1
 end
def uptoSmall : (H : Type) → List (DataW H) → Bool := fun _ ds => decide (uptoBulkAll ds ≤ 1048576)
def OpenSpec.upto (s : _root_.Go.ChangeSpec) : _root_.Go.OpenSpec := { _root_.Go.OpenSpec.ofChange s with cond := some uptoSmall }

/-- 'laws.FnExactSamePage', WHERE WHAT IT READS IS OF BULK AT MOST 1048576: true; the input reads as it did. -/
def fnExactSamePageUptoRow : OpenClaim := { program := "ytiagikhgcblhnaa", sum := "2e713252e102d47788c06077581e6354953bddaf38068b888e0a6117f116deda", func := "loop.example/g00918/laws.FnExactSamePage", spec := "fnExactSamePage", unfollowed := true, recurses := true, apart := false, narrowed := true }
def FnExactSamePageUptoSaid : Prop := fnExactSamePageUptoRow.holds Try.pinned (OpenSpec.upto fnExactSamePageSpec)

/-- 'laws.FnExactPageText', WHERE WHAT IT READS IS OF BULK AT MOST 1048576: true; the input reads as it did. -/
def fnExactPageTextUptoRow : OpenClaim := { program := "ytiagikhgcblhnaa", sum := "2e713252e102d47788c06077581e6354953bddaf38068b888e0a6117f116deda", func := "loop.example/g00918/laws.FnExactPageText", spec := "fnExactPageText", inPlace := ["slices.overlaps[string]", "slices.overlaps[loop.example/g00918/impl.TextLine]", "internal/abi.NoEscape", "internal/bytealg.MakeNoZero"], unfollowed := true, recurses := true, apart := false, narrowed := true }
def FnExactPageTextUptoSaid : Prop := fnExactPageTextUptoRow.holds Try.pinned (OpenSpec.upto fnExactPageTextSpec)

/-- 'laws.FnExactRedoStep', WHERE WHAT IT READS IS OF BULK AT MOST 1048576: true; the input reads as it did. -/
def fnExactRedoStepUptoRow : OpenClaim := { program := "ytiagikhgcblhnaa", sum := "2e713252e102d47788c06077581e6354953bddaf38068b888e0a6117f116deda", func := "loop.example/g00918/laws.FnExactRedoStep", spec := "fnExactRedoStep", inPlace := ["slices.overlaps[string]", "slices.overlaps[loop.example/g00918/impl.TextLine]"], unfollowed := true, recurses := true, apart := false, narrowed := true }
def FnExactRedoStepUptoSaid : Prop := fnExactRedoStepUptoRow.holds Try.pinned (OpenSpec.upto fnExactRedoStepSpec)

/-- 'laws.FnExactUndoStep', WHERE WHAT IT READS IS OF BULK AT MOST 1048576: true; the input reads as it did. -/
def fnExactUndoStepUptoRow : OpenClaim := { program := "ytiagikhgcblhnaa", sum := "2e713252e102d47788c06077581e6354953bddaf38068b888e0a6117f116deda", func := "loop.example/g00918/laws.FnExactUndoStep", spec := "fnExactUndoStep", inPlace := ["slices.overlaps[string]", "slices.overlaps[loop.example/g00918/impl.TextLine]"], unfollowed := true, recurses := true, apart := false, narrowed := true }
def FnExactUndoStepUptoSaid : Prop := fnExactUndoStepUptoRow.holds Try.pinned (OpenSpec.upto fnExactUndoStepSpec)

/-- 'laws.FnExactDoStep', WHERE WHAT IT READS IS OF BULK AT MOST 1048576: true; the input reads as it did. -/
def fnExactDoStepUptoRow : OpenClaim := { program := "ytiagikhgcblhnaa", sum := "2e713252e102d47788c06077581e6354953bddaf38068b888e0a6117f116deda", func := "loop.example/g00918/laws.FnExactDoStep", spec := "fnExactDoStep", inPlace := ["slices.overlaps[string]", "slices.overlaps[loop.example/g00918/impl.TextLine]"], unfollowed := true, recurses := true, apart := false, narrowed := true }
def FnExactDoStepUptoSaid : Prop := fnExactDoStepUptoRow.holds Try.pinned (OpenSpec.upto fnExactDoStepSpec)

end Rows
end Go.Proofs.Ytiagikhgcblhnaa

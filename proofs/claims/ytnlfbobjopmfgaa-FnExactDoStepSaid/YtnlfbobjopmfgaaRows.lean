/-
  No cell of these rows narrows 'for every input' (looked for: loops, veiled, ifaces, maps, wideKeys, modest, calm, conditions, laid).
  DERIVED. THE GIVEN ROWS OF THIS SEAT. 12 by the template 'for every input the law returns true; each argument reads behind the call as it read before'; 0 by the template 'total and deterministic' (their statements: YtnlfbobjopmfgaaTotals.lean).
  GIVEN WITH THE SEED: the statements are not yours to turn. If you find one false, say at which input.
  Laid BY PROGRAM, IN A SANDBOX (cutbox-rows.mjs): the forced cells as the released guide's own fill.sh prints them over the translation c5840578c10877a0… (all of the seat's roots in one cut). By AI agents, Wed Nov 11 2026. No macro, syntax, notation, axiom, sorry.
-/
import Derived.Test.YtnlfbobjopmfgaaChecked
import GoSem.Claim
import GoSem.ClaimJoined
import GoSem.ClaimMapViews
import Derived.JoinedTies
import Derived.KernelRfl
namespace Go.Proofs.Ytnlfbobjopmfgaa
/- THE CELL 'sum', in the pinned program and in every row, IS THE sha256 OF THE DUMP (.gsa) THAT YtnlfbobjopmfgaaProg.lean LOADS. Nothing in Lean hashes anything: it is a label: what it is worth is what the hold of that sum in a sandbox is worth. -/
noncomputable def Try.pinned : Pinned := { name := "ytnlfbobjopmfgaa", sum := "c5840578c10877a03da7fc2705f9b7a210218992ffc848e7a3de27335dedd543", checked := Try.checked }
namespace Rows
def none {H : Type} : Left H := { results := [], args := [] }

/-- 'laws.FnExactNewPage': WHATEVER THE INPUT: true; the input reads as it did. -/
def fnExactNewPageSpec : ChangeSpec := { name := "fnExactNewPage", fn := fun _ => fun
  | [] => { results := [.lit (.bool true)], args := [] }
  | _ => none }
def fnExactNewPageRow : OpenClaim := { program := "ytnlfbobjopmfgaa", sum := "c5840578c10877a03da7fc2705f9b7a210218992ffc848e7a3de27335dedd543", func := "loop.example/g00918/laws.FnExactNewPage", spec := "fnExactNewPage", apart := false }
def FnExactNewPageSaid : Prop := fnExactNewPageRow.holds Try.pinned (OpenSpec.ofChange fnExactNewPageSpec)

/-- ITS FALSE NEIGHBOUR: 'it returns false'. Refute it at one input. -/
def fnExactNewPageWrong : ChangeSpec := { name := "fnExactNewPage", fn := fun _ => fun
  | [] => { results := [.lit (.bool false)], args := [] }
  | _ => none }
def FnExactNewPageWrongFalsely : Prop := fnExactNewPageRow.holds Try.pinned (OpenSpec.ofChange fnExactNewPageWrong)

/-- 'laws.FnExactSamePage': WHATEVER THE INPUT: true; the input reads as it did. -/
def fnExactSamePageSpec : ChangeSpec := { name := "fnExactSamePage", fn := fun _ => fun
  | [d1, d2] => { results := [.lit (.bool true)], args := [d1, d2] }
  | _ => none }
def fnExactSamePageRow : OpenClaim := { program := "ytnlfbobjopmfgaa", sum := "c5840578c10877a03da7fc2705f9b7a210218992ffc848e7a3de27335dedd543", func := "loop.example/g00918/laws.FnExactSamePage", spec := "fnExactSamePage", unfollowed := true, recurses := true, apart := false }
def FnExactSamePageSaid : Prop := fnExactSamePageRow.holds Try.pinned (OpenSpec.ofChange fnExactSamePageSpec)

/-- ITS FALSE NEIGHBOUR: 'it returns false'. Refute it at one input. -/
def fnExactSamePageWrong : ChangeSpec := { name := "fnExactSamePage", fn := fun _ => fun
  | [d1, d2] => { results := [.lit (.bool false)], args := [d1, d2] }
  | _ => none }
def FnExactSamePageWrongFalsely : Prop := fnExactSamePageRow.holds Try.pinned (OpenSpec.ofChange fnExactSamePageWrong)

/-- 'laws.FnExactValidPage': WHATEVER THE INPUT: true; the input reads as it did. -/
def fnExactValidPageSpec : ChangeSpec := { name := "fnExactValidPage", fn := fun _ => fun
  | [d] => { results := [.lit (.bool true)], args := [d] }
  | _ => none }
def fnExactValidPageRow : OpenClaim := { program := "ytnlfbobjopmfgaa", sum := "c5840578c10877a03da7fc2705f9b7a210218992ffc848e7a3de27335dedd543", func := "loop.example/g00918/laws.FnExactValidPage", spec := "fnExactValidPage", inPlace := ["slices.overlaps[string]", "slices.overlaps[loop.example/g00918/impl.TextLine]"], unfollowed := true, recurses := true, apart := false }
def FnExactValidPageSaid : Prop := fnExactValidPageRow.holds Try.pinned (OpenSpec.ofChange fnExactValidPageSpec)

/-- ITS FALSE NEIGHBOUR: 'it returns false'. Refute it at one input. -/
def fnExactValidPageWrong : ChangeSpec := { name := "fnExactValidPage", fn := fun _ => fun
  | [d] => { results := [.lit (.bool false)], args := [d] }
  | _ => none }
def FnExactValidPageWrongFalsely : Prop := fnExactValidPageRow.holds Try.pinned (OpenSpec.ofChange fnExactValidPageWrong)

/-- 'laws.FnExactPageText': WHATEVER THE INPUT: true; the input reads as it did. -/
def fnExactPageTextSpec : ChangeSpec := { name := "fnExactPageText", fn := fun _ => fun
  | [d] => { results := [.lit (.bool true)], args := [d] }
  | _ => none }
def fnExactPageTextRow : OpenClaim := { program := "ytnlfbobjopmfgaa", sum := "c5840578c10877a03da7fc2705f9b7a210218992ffc848e7a3de27335dedd543", func := "loop.example/g00918/laws.FnExactPageText", spec := "fnExactPageText", inPlace := ["slices.overlaps[string]", "slices.overlaps[loop.example/g00918/impl.TextLine]", "internal/abi.NoEscape", "internal/bytealg.MakeNoZero"], unfollowed := true, recurses := true, apart := false }
def FnExactPageTextSaid : Prop := fnExactPageTextRow.holds Try.pinned (OpenSpec.ofChange fnExactPageTextSpec)

/-- ITS FALSE NEIGHBOUR: 'it returns false'. Refute it at one input. -/
def fnExactPageTextWrong : ChangeSpec := { name := "fnExactPageText", fn := fun _ => fun
  | [d] => { results := [.lit (.bool false)], args := [d] }
  | _ => none }
def FnExactPageTextWrongFalsely : Prop := fnExactPageTextRow.holds Try.pinned (OpenSpec.ofChange fnExactPageTextWrong)

/-- 'laws.FnExactRedoStep': WHATEVER THE INPUT: true; the input reads as it did. -/
def fnExactRedoStepSpec : ChangeSpec := { name := "fnExactRedoStep", fn := fun _ => fun
  | [d] => { results := [.lit (.bool true)], args := [d] }
  | _ => none }
def fnExactRedoStepRow : OpenClaim := { program := "ytnlfbobjopmfgaa", sum := "c5840578c10877a03da7fc2705f9b7a210218992ffc848e7a3de27335dedd543", func := "loop.example/g00918/laws.FnExactRedoStep", spec := "fnExactRedoStep", inPlace := ["slices.overlaps[string]", "slices.overlaps[loop.example/g00918/impl.TextLine]"], unfollowed := true, recurses := true, apart := false }
def FnExactRedoStepSaid : Prop := fnExactRedoStepRow.holds Try.pinned (OpenSpec.ofChange fnExactRedoStepSpec)

/-- ITS FALSE NEIGHBOUR: 'it returns false'. Refute it at one input. -/
def fnExactRedoStepWrong : ChangeSpec := { name := "fnExactRedoStep", fn := fun _ => fun
  | [d] => { results := [.lit (.bool false)], args := [d] }
  | _ => none }
def FnExactRedoStepWrongFalsely : Prop := fnExactRedoStepRow.holds Try.pinned (OpenSpec.ofChange fnExactRedoStepWrong)

/-- 'laws.FnExactUndoStep': WHATEVER THE INPUT: true; the input reads as it did. -/
def fnExactUndoStepSpec : ChangeSpec := { name := "fnExactUndoStep", fn := fun _ => fun
  | [d] => { results := [.lit (.bool true)], args := [d] }
  | _ => none }
def fnExactUndoStepRow : OpenClaim := { program := "ytnlfbobjopmfgaa", sum := "c5840578c10877a03da7fc2705f9b7a210218992ffc848e7a3de27335dedd543", func := "loop.example/g00918/laws.FnExactUndoStep", spec := "fnExactUndoStep", inPlace := ["slices.overlaps[string]", "slices.overlaps[loop.example/g00918/impl.TextLine]"], unfollowed := true, recurses := true, apart := false }
def FnExactUndoStepSaid : Prop := fnExactUndoStepRow.holds Try.pinned (OpenSpec.ofChange fnExactUndoStepSpec)

/-- ITS FALSE NEIGHBOUR: 'it returns false'. Refute it at one input. -/
def fnExactUndoStepWrong : ChangeSpec := { name := "fnExactUndoStep", fn := fun _ => fun
  | [d] => { results := [.lit (.bool false)], args := [d] }
  | _ => none }
def FnExactUndoStepWrongFalsely : Prop := fnExactUndoStepRow.holds Try.pinned (OpenSpec.ofChange fnExactUndoStepWrong)

/-- 'laws.FnExactDoStep': WHATEVER THE INPUT: true; the input reads as it did. -/
def fnExactDoStepSpec : ChangeSpec := { name := "fnExactDoStep", fn := fun _ => fun
  | [d1, d2] => { results := [.lit (.bool true)], args := [d1, d2] }
  | _ => none }
def fnExactDoStepRow : OpenClaim := { program := "ytnlfbobjopmfgaa", sum := "c5840578c10877a03da7fc2705f9b7a210218992ffc848e7a3de27335dedd543", func := "loop.example/g00918/laws.FnExactDoStep", spec := "fnExactDoStep", inPlace := ["slices.overlaps[string]", "slices.overlaps[loop.example/g00918/impl.TextLine]"], unfollowed := true, recurses := true, apart := false }
def FnExactDoStepSaid : Prop := fnExactDoStepRow.holds Try.pinned (OpenSpec.ofChange fnExactDoStepSpec)

/-- ITS FALSE NEIGHBOUR: 'it returns false'. Refute it at one input. -/
def fnExactDoStepWrong : ChangeSpec := { name := "fnExactDoStep", fn := fun _ => fun
  | [d1, d2] => { results := [.lit (.bool false)], args := [d1, d2] }
  | _ => none }
def FnExactDoStepWrongFalsely : Prop := fnExactDoStepRow.holds Try.pinned (OpenSpec.ofChange fnExactDoStepWrong)

/-- 'laws.FnExactDeleteWord': WHATEVER THE INPUT: true; the input reads as it did. -/
def fnExactDeleteWordSpec : ChangeSpec := { name := "fnExactDeleteWord", fn := fun _ => fun
  | [d1, d2, d3] => { results := [.lit (.bool true)], args := [d1, d2, d3] }
  | _ => none }
def fnExactDeleteWordRow : OpenClaim := { program := "ytnlfbobjopmfgaa", sum := "c5840578c10877a03da7fc2705f9b7a210218992ffc848e7a3de27335dedd543", func := "loop.example/g00918/laws.FnExactDeleteWord", spec := "fnExactDeleteWord", inPlace := ["slices.overlaps[string]", "slices.overlaps[loop.example/g00918/impl.TextLine]"], unfollowed := true, recurses := true, apart := false }
def FnExactDeleteWordSaid : Prop := fnExactDeleteWordRow.holds Try.pinned (OpenSpec.ofChange fnExactDeleteWordSpec)

/-- ITS FALSE NEIGHBOUR: 'it returns false'. Refute it at one input. -/
def fnExactDeleteWordWrong : ChangeSpec := { name := "fnExactDeleteWord", fn := fun _ => fun
  | [d1, d2, d3] => { results := [.lit (.bool false)], args := [d1, d2, d3] }
  | _ => none }
def FnExactDeleteWordWrongFalsely : Prop := fnExactDeleteWordRow.holds Try.pinned (OpenSpec.ofChange fnExactDeleteWordWrong)

/-- 'laws.FnExactBreakLine': WHATEVER THE INPUT: true; the input reads as it did. -/
def fnExactBreakLineSpec : ChangeSpec := { name := "fnExactBreakLine", fn := fun _ => fun
  | [d1, d2, d3] => { results := [.lit (.bool true)], args := [d1, d2, d3] }
  | _ => none }
def fnExactBreakLineRow : OpenClaim := { program := "ytnlfbobjopmfgaa", sum := "c5840578c10877a03da7fc2705f9b7a210218992ffc848e7a3de27335dedd543", func := "loop.example/g00918/laws.FnExactBreakLine", spec := "fnExactBreakLine", inPlace := ["slices.overlaps[string]", "slices.overlaps[loop.example/g00918/impl.TextLine]"], unfollowed := true, recurses := true, apart := false }
def FnExactBreakLineSaid : Prop := fnExactBreakLineRow.holds Try.pinned (OpenSpec.ofChange fnExactBreakLineSpec)

/-- ITS FALSE NEIGHBOUR: 'it returns false'. Refute it at one input. -/
def fnExactBreakLineWrong : ChangeSpec := { name := "fnExactBreakLine", fn := fun _ => fun
  | [d1, d2, d3] => { results := [.lit (.bool false)], args := [d1, d2, d3] }
  | _ => none }
def FnExactBreakLineWrongFalsely : Prop := fnExactBreakLineRow.holds Try.pinned (OpenSpec.ofChange fnExactBreakLineWrong)

/-- 'laws.FnExactReplaceWord': WHATEVER THE INPUT: true; the input reads as it did. -/
def fnExactReplaceWordSpec : ChangeSpec := { name := "fnExactReplaceWord", fn := fun _ => fun
  | [d1, d2, d3, d4] => { results := [.lit (.bool true)], args := [d1, d2, d3, d4] }
  | _ => none }
def fnExactReplaceWordRow : OpenClaim := { program := "ytnlfbobjopmfgaa", sum := "c5840578c10877a03da7fc2705f9b7a210218992ffc848e7a3de27335dedd543", func := "loop.example/g00918/laws.FnExactReplaceWord", spec := "fnExactReplaceWord", inPlace := ["slices.overlaps[string]", "slices.overlaps[loop.example/g00918/impl.TextLine]"], unfollowed := true, recurses := true, apart := false }
def FnExactReplaceWordSaid : Prop := fnExactReplaceWordRow.holds Try.pinned (OpenSpec.ofChange fnExactReplaceWordSpec)

/-- ITS FALSE NEIGHBOUR: 'it returns false'. Refute it at one input. -/
def fnExactReplaceWordWrong : ChangeSpec := { name := "fnExactReplaceWord", fn := fun _ => fun
  | [d1, d2, d3, d4] => { results := [.lit (.bool false)], args := [d1, d2, d3, d4] }
  | _ => none }
def FnExactReplaceWordWrongFalsely : Prop := fnExactReplaceWordRow.holds Try.pinned (OpenSpec.ofChange fnExactReplaceWordWrong)

/-- 'laws.FnExactJoinLine': WHATEVER THE INPUT: true; the input reads as it did. -/
def fnExactJoinLineSpec : ChangeSpec := { name := "fnExactJoinLine", fn := fun _ => fun
  | [d1, d2] => { results := [.lit (.bool true)], args := [d1, d2] }
  | _ => none }
def fnExactJoinLineRow : OpenClaim := { program := "ytnlfbobjopmfgaa", sum := "c5840578c10877a03da7fc2705f9b7a210218992ffc848e7a3de27335dedd543", func := "loop.example/g00918/laws.FnExactJoinLine", spec := "fnExactJoinLine", inPlace := ["slices.overlaps[string]", "slices.overlaps[loop.example/g00918/impl.TextLine]"], unfollowed := true, recurses := true, apart := false }
def FnExactJoinLineSaid : Prop := fnExactJoinLineRow.holds Try.pinned (OpenSpec.ofChange fnExactJoinLineSpec)

/-- ITS FALSE NEIGHBOUR: 'it returns false'. Refute it at one input. -/
def fnExactJoinLineWrong : ChangeSpec := { name := "fnExactJoinLine", fn := fun _ => fun
  | [d1, d2] => { results := [.lit (.bool false)], args := [d1, d2] }
  | _ => none }
def FnExactJoinLineWrongFalsely : Prop := fnExactJoinLineRow.holds Try.pinned (OpenSpec.ofChange fnExactJoinLineWrong)

/-- 'laws.FnExactInsertWord': WHATEVER THE INPUT: true; the input reads as it did. -/
def fnExactInsertWordSpec : ChangeSpec := { name := "fnExactInsertWord", fn := fun _ => fun
  | [d1, d2, d3, d4] => { results := [.lit (.bool true)], args := [d1, d2, d3, d4] }
  | _ => none }
def fnExactInsertWordRow : OpenClaim := { program := "ytnlfbobjopmfgaa", sum := "c5840578c10877a03da7fc2705f9b7a210218992ffc848e7a3de27335dedd543", func := "loop.example/g00918/laws.FnExactInsertWord", spec := "fnExactInsertWord", inPlace := ["slices.overlaps[string]", "slices.overlaps[loop.example/g00918/impl.TextLine]"], unfollowed := true, recurses := true, apart := false }
def FnExactInsertWordSaid : Prop := fnExactInsertWordRow.holds Try.pinned (OpenSpec.ofChange fnExactInsertWordSpec)

/-- ITS FALSE NEIGHBOUR: 'it returns false'. Refute it at one input. -/
def fnExactInsertWordWrong : ChangeSpec := { name := "fnExactInsertWord", fn := fun _ => fun
  | [d1, d2, d3, d4] => { results := [.lit (.bool false)], args := [d1, d2, d3, d4] }
  | _ => none }
def FnExactInsertWordWrongFalsely : Prop := fnExactInsertWordRow.holds Try.pinned (OpenSpec.ofChange fnExactInsertWordWrong)

/- THE SECOND FORM. 'bulk': how many values and letters a reading holds, each counted each time it is reached (what is shared counts as often as it is met; a slice's spare places count too). A statement '..UptoSaid' is the law's where the arguments, and the package variables that the reading takes, are together of bulk at most 1048576: NARROWER than '..Said'. Prove '..Said' where nothing that the law and all that it calls make is longer than what came in: it says more and counts as full. Else prove '..UptoSaid'. A law counts once. -/
mutual
def uptoBulk {H : Type} : DataW H → Nat
  | .lit (.string bytes) => bytes.length + 1
  | .lit _ => 1
  | .nil => 1
  | .ptr d => uptoBulk d + 1
  | .slice elems spare => uptoBulkAll elems + uptoBulkAll spare + 1
  | .agg parts => uptoBulkAll parts + 1
  | .iface _ d => uptoBulk d + 1
  | .map entries => uptoBulkEntries entries + 1
  | .held _ => 1
def uptoBulkAll {H : Type} : List (DataW H) → Nat
  | [] => 0
  | d :: r => uptoBulk d + uptoBulkAll r
def uptoBulkEntries {H : Type} : List (Lit × DataW H) → Nat
  | [] => 0
  | x :: r => uptoBulkEntry x + uptoBulkEntries r
def uptoBulkEntry {H : Type} : Lit × DataW H → Nat
  | (.string bytes, d) => bytes.length + uptoBulk d + 1
  | (_, d) => uptoBulk d + 1
 end
def uptoSmall : (H : Type) → List (DataW H) → Bool := fun _ ds => decide (uptoBulkAll ds ≤ 1048576)
def OpenSpec.upto (s : _root_.Go.ChangeSpec) : _root_.Go.OpenSpec := { _root_.Go.OpenSpec.ofChange s with cond := some uptoSmall }

/-- 'laws.FnExactNewPage', WHERE WHAT IT READS IS OF BULK AT MOST 1048576: true; the input reads as it did. -/
def fnExactNewPageUptoRow : OpenClaim := { program := "ytnlfbobjopmfgaa", sum := "c5840578c10877a03da7fc2705f9b7a210218992ffc848e7a3de27335dedd543", func := "loop.example/g00918/laws.FnExactNewPage", spec := "fnExactNewPage", apart := false, narrowed := true }
def FnExactNewPageUptoSaid : Prop := fnExactNewPageUptoRow.holds Try.pinned (OpenSpec.upto fnExactNewPageSpec)

/-- 'laws.FnExactSamePage', WHERE WHAT IT READS IS OF BULK AT MOST 1048576: true; the input reads as it did. -/
def fnExactSamePageUptoRow : OpenClaim := { program := "ytnlfbobjopmfgaa", sum := "c5840578c10877a03da7fc2705f9b7a210218992ffc848e7a3de27335dedd543", func := "loop.example/g00918/laws.FnExactSamePage", spec := "fnExactSamePage", unfollowed := true, recurses := true, apart := false, narrowed := true }
def FnExactSamePageUptoSaid : Prop := fnExactSamePageUptoRow.holds Try.pinned (OpenSpec.upto fnExactSamePageSpec)

/-- 'laws.FnExactValidPage', WHERE WHAT IT READS IS OF BULK AT MOST 1048576: true; the input reads as it did. -/
def fnExactValidPageUptoRow : OpenClaim := { program := "ytnlfbobjopmfgaa", sum := "c5840578c10877a03da7fc2705f9b7a210218992ffc848e7a3de27335dedd543", func := "loop.example/g00918/laws.FnExactValidPage", spec := "fnExactValidPage", inPlace := ["slices.overlaps[string]", "slices.overlaps[loop.example/g00918/impl.TextLine]"], unfollowed := true, recurses := true, apart := false, narrowed := true }
def FnExactValidPageUptoSaid : Prop := fnExactValidPageUptoRow.holds Try.pinned (OpenSpec.upto fnExactValidPageSpec)

/-- 'laws.FnExactPageText', WHERE WHAT IT READS IS OF BULK AT MOST 1048576: true; the input reads as it did. -/
def fnExactPageTextUptoRow : OpenClaim := { program := "ytnlfbobjopmfgaa", sum := "c5840578c10877a03da7fc2705f9b7a210218992ffc848e7a3de27335dedd543", func := "loop.example/g00918/laws.FnExactPageText", spec := "fnExactPageText", inPlace := ["slices.overlaps[string]", "slices.overlaps[loop.example/g00918/impl.TextLine]", "internal/abi.NoEscape", "internal/bytealg.MakeNoZero"], unfollowed := true, recurses := true, apart := false, narrowed := true }
def FnExactPageTextUptoSaid : Prop := fnExactPageTextUptoRow.holds Try.pinned (OpenSpec.upto fnExactPageTextSpec)

/-- 'laws.FnExactRedoStep', WHERE WHAT IT READS IS OF BULK AT MOST 1048576: true; the input reads as it did. -/
def fnExactRedoStepUptoRow : OpenClaim := { program := "ytnlfbobjopmfgaa", sum := "c5840578c10877a03da7fc2705f9b7a210218992ffc848e7a3de27335dedd543", func := "loop.example/g00918/laws.FnExactRedoStep", spec := "fnExactRedoStep", inPlace := ["slices.overlaps[string]", "slices.overlaps[loop.example/g00918/impl.TextLine]"], unfollowed := true, recurses := true, apart := false, narrowed := true }
def FnExactRedoStepUptoSaid : Prop := fnExactRedoStepUptoRow.holds Try.pinned (OpenSpec.upto fnExactRedoStepSpec)

/-- 'laws.FnExactUndoStep', WHERE WHAT IT READS IS OF BULK AT MOST 1048576: true; the input reads as it did. -/
def fnExactUndoStepUptoRow : OpenClaim := { program := "ytnlfbobjopmfgaa", sum := "c5840578c10877a03da7fc2705f9b7a210218992ffc848e7a3de27335dedd543", func := "loop.example/g00918/laws.FnExactUndoStep", spec := "fnExactUndoStep", inPlace := ["slices.overlaps[string]", "slices.overlaps[loop.example/g00918/impl.TextLine]"], unfollowed := true, recurses := true, apart := false, narrowed := true }
def FnExactUndoStepUptoSaid : Prop := fnExactUndoStepUptoRow.holds Try.pinned (OpenSpec.upto fnExactUndoStepSpec)

/-- 'laws.FnExactDoStep', WHERE WHAT IT READS IS OF BULK AT MOST 1048576: true; the input reads as it did. -/
def fnExactDoStepUptoRow : OpenClaim := { program := "ytnlfbobjopmfgaa", sum := "c5840578c10877a03da7fc2705f9b7a210218992ffc848e7a3de27335dedd543", func := "loop.example/g00918/laws.FnExactDoStep", spec := "fnExactDoStep", inPlace := ["slices.overlaps[string]", "slices.overlaps[loop.example/g00918/impl.TextLine]"], unfollowed := true, recurses := true, apart := false, narrowed := true }
def FnExactDoStepUptoSaid : Prop := fnExactDoStepUptoRow.holds Try.pinned (OpenSpec.upto fnExactDoStepSpec)

/-- 'laws.FnExactDeleteWord', WHERE WHAT IT READS IS OF BULK AT MOST 1048576: true; the input reads as it did. -/
def fnExactDeleteWordUptoRow : OpenClaim := { program := "ytnlfbobjopmfgaa", sum := "c5840578c10877a03da7fc2705f9b7a210218992ffc848e7a3de27335dedd543", func := "loop.example/g00918/laws.FnExactDeleteWord", spec := "fnExactDeleteWord", inPlace := ["slices.overlaps[string]", "slices.overlaps[loop.example/g00918/impl.TextLine]"], unfollowed := true, recurses := true, apart := false, narrowed := true }
def FnExactDeleteWordUptoSaid : Prop := fnExactDeleteWordUptoRow.holds Try.pinned (OpenSpec.upto fnExactDeleteWordSpec)

/-- 'laws.FnExactBreakLine', WHERE WHAT IT READS IS OF BULK AT MOST 1048576: true; the input reads as it did. -/
def fnExactBreakLineUptoRow : OpenClaim := { program := "ytnlfbobjopmfgaa", sum := "c5840578c10877a03da7fc2705f9b7a210218992ffc848e7a3de27335dedd543", func := "loop.example/g00918/laws.FnExactBreakLine", spec := "fnExactBreakLine", inPlace := ["slices.overlaps[string]", "slices.overlaps[loop.example/g00918/impl.TextLine]"], unfollowed := true, recurses := true, apart := false, narrowed := true }
def FnExactBreakLineUptoSaid : Prop := fnExactBreakLineUptoRow.holds Try.pinned (OpenSpec.upto fnExactBreakLineSpec)

/-- 'laws.FnExactReplaceWord', WHERE WHAT IT READS IS OF BULK AT MOST 1048576: true; the input reads as it did. -/
def fnExactReplaceWordUptoRow : OpenClaim := { program := "ytnlfbobjopmfgaa", sum := "c5840578c10877a03da7fc2705f9b7a210218992ffc848e7a3de27335dedd543", func := "loop.example/g00918/laws.FnExactReplaceWord", spec := "fnExactReplaceWord", inPlace := ["slices.overlaps[string]", "slices.overlaps[loop.example/g00918/impl.TextLine]"], unfollowed := true, recurses := true, apart := false, narrowed := true }
def FnExactReplaceWordUptoSaid : Prop := fnExactReplaceWordUptoRow.holds Try.pinned (OpenSpec.upto fnExactReplaceWordSpec)

/-- 'laws.FnExactJoinLine', WHERE WHAT IT READS IS OF BULK AT MOST 1048576: true; the input reads as it did. -/
def fnExactJoinLineUptoRow : OpenClaim := { program := "ytnlfbobjopmfgaa", sum := "c5840578c10877a03da7fc2705f9b7a210218992ffc848e7a3de27335dedd543", func := "loop.example/g00918/laws.FnExactJoinLine", spec := "fnExactJoinLine", inPlace := ["slices.overlaps[string]", "slices.overlaps[loop.example/g00918/impl.TextLine]"], unfollowed := true, recurses := true, apart := false, narrowed := true }
def FnExactJoinLineUptoSaid : Prop := fnExactJoinLineUptoRow.holds Try.pinned (OpenSpec.upto fnExactJoinLineSpec)

/-- 'laws.FnExactInsertWord', WHERE WHAT IT READS IS OF BULK AT MOST 1048576: true; the input reads as it did. -/
def fnExactInsertWordUptoRow : OpenClaim := { program := "ytnlfbobjopmfgaa", sum := "c5840578c10877a03da7fc2705f9b7a210218992ffc848e7a3de27335dedd543", func := "loop.example/g00918/laws.FnExactInsertWord", spec := "fnExactInsertWord", inPlace := ["slices.overlaps[string]", "slices.overlaps[loop.example/g00918/impl.TextLine]"], unfollowed := true, recurses := true, apart := false, narrowed := true }
def FnExactInsertWordUptoSaid : Prop := fnExactInsertWordUptoRow.holds Try.pinned (OpenSpec.upto fnExactInsertWordSpec)

end Rows
end Go.Proofs.Ytnlfbobjopmfgaa

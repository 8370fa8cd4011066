/-
  No cell of these rows narrows 'for every input' (looked for: loops, veiled, ifaces, maps, wideKeys, modest, calm, conditions, laid).
  DERIVED. THE GIVEN ROWS OF THIS SEAT. 3 by the template 'for every input the law returns true; each argument reads behind the call as it read before'; 0 by the template 'total and deterministic' (their statements: YtelkggafmnckoaaTotals.lean).
  GIVEN WITH THE SEED: the statements are not yours to turn. If you find one false, say at which input.
  Laid BY PROGRAM, IN A SANDBOX (cutbox-rows.mjs): the forced cells as the released guide's own fill.sh prints them over the translation 6d2bfea7c1fff8f0… (all of the seat's roots in one cut). By AI agents, Wed Nov 11 2026. No macro, syntax, notation, axiom, sorry.
-/
import Derived.Test.YtelkggafmnckoaaChecked
import GoSem.Claim
import GoSem.ClaimJoined
import GoSem.ClaimMapViews
import Derived.JoinedTies
import Derived.KernelRfl
namespace Go.Proofs.Ytelkggafmnckoaa
/- THE CELL 'sum', in the pinned program and in every row, IS THE sha256 OF THE DUMP (.gsa) THAT YtelkggafmnckoaaProg.lean LOADS. Nothing in Lean hashes anything: it is a label: what it is worth is what the hold of that sum in a sandbox is worth. -/
noncomputable def Try.pinned : Pinned := { name := "ytelkggafmnckoaa", sum := "6d2bfea7c1fff8f0a7f1e276e5a61c0fc5eaad45ee669c40a5eaf992f616a99f", checked := Try.checked }
namespace Rows
def none {H : Type} : Left H := { results := [], args := [] }

/-- 'laws.FnDistances': WHATEVER THE INPUT: true; the input reads as it did. -/
def fnDistancesSpec : ChangeSpec := { name := "fnDistances", fn := fun _ => fun
  | [d] => { results := [.lit (.bool true)], args := [d] }
  | _ => none }
def fnDistancesRow : OpenClaim := { program := "ytelkggafmnckoaa", sum := "6d2bfea7c1fff8f0a7f1e276e5a61c0fc5eaad45ee669c40a5eaf992f616a99f", func := "loop.example/g00918/laws.FnDistances", spec := "fnDistances", unfollowed := true, recurses := true, apart := false }
def FnDistancesSaid : Prop := fnDistancesRow.holds Try.pinned (OpenSpec.ofChange fnDistancesSpec)

/-- ITS FALSE NEIGHBOUR: 'it returns false'. Refute it at one input. -/
def fnDistancesWrong : ChangeSpec := { name := "fnDistances", fn := fun _ => fun
  | [d] => { results := [.lit (.bool false)], args := [d] }
  | _ => none }
def FnDistancesWrongFalsely : Prop := fnDistancesRow.holds Try.pinned (OpenSpec.ofChange fnDistancesWrong)

/-- 'laws.FnExactConfusions': WHATEVER THE INPUT: true; the input reads as it did. -/
def fnExactConfusionsSpec : ChangeSpec := { name := "fnExactConfusions", fn := fun _ => fun
  | [d] => { results := [.lit (.bool true)], args := [d] }
  | _ => none }
def fnExactConfusionsRow : OpenClaim := { program := "ytelkggafmnckoaa", sum := "6d2bfea7c1fff8f0a7f1e276e5a61c0fc5eaad45ee669c40a5eaf992f616a99f", func := "loop.example/g00918/laws.FnExactConfusions", spec := "fnExactConfusions", unfollowed := true, recurses := true, apart := false }
def FnExactConfusionsSaid : Prop := fnExactConfusionsRow.holds Try.pinned (OpenSpec.ofChange fnExactConfusionsSpec)

/-- ITS FALSE NEIGHBOUR: 'it returns false'. Refute it at one input. -/
def fnExactConfusionsWrong : ChangeSpec := { name := "fnExactConfusions", fn := fun _ => fun
  | [d] => { results := [.lit (.bool false)], args := [d] }
  | _ => none }
def FnExactConfusionsWrongFalsely : Prop := fnExactConfusionsRow.holds Try.pinned (OpenSpec.ofChange fnExactConfusionsWrong)

/-- 'laws.FnConfusions': WHATEVER THE INPUT: true; the input reads as it did. -/
def fnConfusionsSpec : ChangeSpec := { name := "fnConfusions", fn := fun _ => fun
  | [d] => { results := [.lit (.bool true)], args := [d] }
  | _ => none }
def fnConfusionsRow : OpenClaim := { program := "ytelkggafmnckoaa", sum := "6d2bfea7c1fff8f0a7f1e276e5a61c0fc5eaad45ee669c40a5eaf992f616a99f", func := "loop.example/g00918/laws.FnConfusions", spec := "fnConfusions", unfollowed := true, recurses := true, apart := false }
def FnConfusionsSaid : Prop := fnConfusionsRow.holds Try.pinned (OpenSpec.ofChange fnConfusionsSpec)

/-- ITS FALSE NEIGHBOUR: 'it returns false'. Refute it at one input. -/
def fnConfusionsWrong : ChangeSpec := { name := "fnConfusions", fn := fun _ => fun
  | [d] => { results := [.lit (.bool false)], args := [d] }
  | _ => none }
def FnConfusionsWrongFalsely : Prop := fnConfusionsRow.holds Try.pinned (OpenSpec.ofChange fnConfusionsWrong)

/- THE SECOND FORM. 'bulk': how many values and letters a reading holds, each counted each time it is reached (what is shared counts as often as it is met; a slice's spare places count too). A statement '..UptoSaid' is the law's where the arguments, and the package variables that the reading takes, are together of bulk at most 1048576: NARROWER than '..Said'. Prove '..Said' where nothing that the law and all that it calls make is longer than what came in: it says more and counts as full. Else prove '..UptoSaid'. A law counts once. -/
mutual
def uptoBulk {H : Type} : DataW H → Nat
  | .lit (.string bytes) => bytes.length + 1
  | .lit _ => 1
  | .nil => 1
  | .ptr d => uptoBulk d + 1
  | .slice elems spare => uptoBulkAll elems + uptoBulkAll spare + 1
  | .agg parts => uptoBulkAll parts + 1
  | .iface _ d => uptoBulk d + 1
  | .map entries => uptoBulkEntries entries + 1
  | .held _ => 1
def uptoBulkAll {H : Type} : List (DataW H) → Nat
  | [] => 0
  | d :: r => uptoBulk d + uptoBulkAll r
def uptoBulkEntries {H : Type} : List (Lit × DataW H) → Nat
  | [] => 0
  | x :: r => uptoBulkEntry x + uptoBulkEntries r
def uptoBulkEntry {H : Type} : Lit × DataW H → Nat
  | (.string bytes, d) => bytes.length + uptoBulk d + 1
  | (_, d) => uptoBulk d + 1
 end
def uptoSmall : (H : Type) → List (DataW H) → Bool := fun _ ds => decide (uptoBulkAll ds ≤ 1048576)
def OpenSpec.upto (s : _root_.Go.ChangeSpec) : _root_.Go.OpenSpec := { _root_.Go.OpenSpec.ofChange s with cond := some uptoSmall }

/-- 'laws.FnDistances', WHERE WHAT IT READS IS OF BULK AT MOST 1048576: true; the input reads as it did. -/
def fnDistancesUptoRow : OpenClaim := { program := "ytelkggafmnckoaa", sum := "6d2bfea7c1fff8f0a7f1e276e5a61c0fc5eaad45ee669c40a5eaf992f616a99f", func := "loop.example/g00918/laws.FnDistances", spec := "fnDistances", unfollowed := true, recurses := true, apart := false, narrowed := true }
def FnDistancesUptoSaid : Prop := fnDistancesUptoRow.holds Try.pinned (OpenSpec.upto fnDistancesSpec)

/-- 'laws.FnExactConfusions', WHERE WHAT IT READS IS OF BULK AT MOST 1048576: true; the input reads as it did. -/
def fnExactConfusionsUptoRow : OpenClaim := { program := "ytelkggafmnckoaa", sum := "6d2bfea7c1fff8f0a7f1e276e5a61c0fc5eaad45ee669c40a5eaf992f616a99f", func := "loop.example/g00918/laws.FnExactConfusions", spec := "fnExactConfusions", unfollowed := true, recurses := true, apart := false, narrowed := true }
def FnExactConfusionsUptoSaid : Prop := fnExactConfusionsUptoRow.holds Try.pinned (OpenSpec.upto fnExactConfusionsSpec)

/-- 'laws.FnConfusions', WHERE WHAT IT READS IS OF BULK AT MOST 1048576: true; the input reads as it did. -/
def fnConfusionsUptoRow : OpenClaim := { program := "ytelkggafmnckoaa", sum := "6d2bfea7c1fff8f0a7f1e276e5a61c0fc5eaad45ee669c40a5eaf992f616a99f", func := "loop.example/g00918/laws.FnConfusions", spec := "fnConfusions", unfollowed := true, recurses := true, apart := false, narrowed := true }
def FnConfusionsUptoSaid : Prop := fnConfusionsUptoRow.holds Try.pinned (OpenSpec.upto fnConfusionsSpec)

end Rows
end Go.Proofs.Ytelkggafmnckoaa

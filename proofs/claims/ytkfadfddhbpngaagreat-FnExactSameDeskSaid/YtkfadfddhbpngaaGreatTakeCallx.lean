/- A call that leaves the world as it is may be taken first in a region that draws its order. No program is named here. Conditions: none. -/
import Derived.Deep.RegionHeld3
import Derived.Test.YtkfadfddhbpngaaGreatPgMathx
namespace Go.Proofs.YtkfadfddhbpngaaGreat
open Go Go.RowKit

section
variable {P : Program} {md : Region.Mode} {ops : Array Oper} {Q : Exit → Act → World → Prop} {S : World → Prop}
/-- o, wanted at a, is a call that gives v and leaves each world of S as it is. -/
def StillCall (P : Program) (ops : Array Oper) (S : World → Prop) (o : Oper) (v : Value) (a : Act) : Prop :=
 Region.wanted o (yielded ops a.tmps) = true ∧ ∃ f args, ∀ w, S w → (execOp a.eval o).run P w = .ok (.enter f args) w ∧ Calls P f args w fun e w' => e = .returned v ∧ w' = w
theorem StillCall.same {o : Oper} {v : Value} {a a' : Act} (hy : StillCall P ops S o v a) (he : execOp a'.eval o = execOp a.eval o)
 (hw : Region.wanted o (yielded ops a'.tmps) = Region.wanted o (yielded ops a.tmps)) : StillCall P ops S o v a' := by
 unfold StillCall at *
 rw [he, hw]
 exact hy
end
end Go.Proofs.YtkfadfddhbpngaaGreat

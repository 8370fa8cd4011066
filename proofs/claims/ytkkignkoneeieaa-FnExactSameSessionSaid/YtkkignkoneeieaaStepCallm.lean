/- A call of a Go function as one step of a region that draws its order. No program is named here. Conditions: none. -/
import Derived.Test.YtkkignkoneeieaaMarkm
namespace Go.Proofs.Ytkkignkoneeieaa
open Go Go.RowKit

theorem step_call {P : Program} {ops : Array Oper} {o : Oper} {a : Act} {w : World} {K : Act → World → Prop} {Q : Exit → Act → World → Prop} {E : Prop} {R : Ending → World → Prop}
    (f : FuncId) (xs : Array Operand) (ts : Array TypeId) (ho : o.op = .call { callee := .value (.func f), args := xs, argTypes := ts })
    (hw : Region.wanted o (yielded ops a.tmps) = true) (av : Array Value) (hcall : ∀ args w, (callFunc f args).run P w = .ok (.enter f args) w) (hx : xs.map a.eval = av)
    (hC : Calls P f av w R) (hK : ∀ e w', R e w' → ∃ v, e = .returned v ∧ K (a.put o.dst v) w') :
    if Region.wanted o (yielded ops a.tmps) = true then Oper.wp P o a w K Q else E := by
  rw [if_pos hw]
  unfold Oper.wp execOp
  simp only [ho, resolve, invoke, Sem.run_bind]
  have he : a.eval (.func f) = .func (.func f) #[] #[] := rfl
  rw [he, hx]
  simp only [Deferred.ofValue, Sem.run_pure, Result.andThen_ok, Array.append_empty, hcall]
  rw [Oper.upon_enter, Array.empty_append]
  refine hC.mono fun e w' hr => ?_
  obtain ⟨v, rfl, hk⟩ := hK e w' hr
  exact hk
end Go.Proofs.Ytkkignkoneeieaa

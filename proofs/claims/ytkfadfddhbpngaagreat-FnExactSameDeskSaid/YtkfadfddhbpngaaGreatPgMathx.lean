/- Pages as plain data: which lines, steps and pages are valid, and what a step does. No program is named here. Conditions: none. -/
import Derived.Test.YtkfadfddhbpngaaGreatTyLine3x
import Derived.Test.YtkfadfddhbpngaaGreatAppendx
import Derived.Test.YtkfadfddhbpngaaGreatStrSx
import Derived.Laws.IdiomStrings
import Derived.Test.YtkfadfddhbpngaaGreatMarkx
namespace Go.Proofs.YtkfadfddhbpngaaGreat
open Go Go.RowKit

def letterB (c : UInt8) : Bool := decide (97 ≤ c.toNat) && decide (c.toNat ≤ 122)
def isWordB (s : ByteArray) : Bool := s.data.toList.all letterB && (decide (1 ≤ s.size) && decide (s.size ≤ 10))
/-- Lines that are valid. -/
structure LinesOk (ls : List PLine) : Prop where
 one : 1 ≤ ls.length
 few : ls.length ≤ 20
 each : ∀ l ∈ ls, l.length ≤ 12
 word : ∀ l ∈ ls, ∀ s ∈ l, isWordB s = true
end Go.Proofs.YtkfadfddhbpngaaGreat
namespace Go.Proofs.YtkfadfddhbpngaaGreat
open Go Go.RowKit

section
variable {ls : List PLine} {s : PStep}
end
theorem LinesOk.words {ls : List PLine} (h : LinesOk ls) : ∀ l ∈ ls, l.length ≤ 1048576 := fun l hl => by have := h.each l hl; omega
end Go.Proofs.YtkfadfddhbpngaaGreat
namespace Go.Proofs.YtkfadfddhbpngaaGreat
open Go Go.RowKit

/-- All strings of all lines are at most so long. -/
def LineBytes (ls : List PLine) : Prop := ∀ l ∈ ls, ∀ s ∈ l, s.size ≤ 1048576

end Go.Proofs.YtkfadfddhbpngaaGreat
namespace Go.Proofs.YtkfadfddhbpngaaGreat
open Go Go.RowKit

theorem CellsAt.below {w w' : World} {A : Option Addr} {ec : List Value} (h : CellsAt w A ec) (hb : Below w.heap.size w w') : CellsAt w' A ec := fun hp => by
 obtain ⟨b, off, h1, h2⟩ := h hp
 refine ⟨b, off, h1, fun j u hu => ?_⟩
 have h3 := h2 j u hu
 exact (hb.cell (p := ⟨b, off + j, none⟩) (World.block_lt_of_cell? w _ h3)).trans h3
theorem CellsAt.alloc {w : World} {A : Option Addr} {ec : List Value} (h : CellsAt w A ec) (x : Obj) : CellsAt (w.alloc x) A ec := h.below ((Below.refl _ _).alloc (Nat.le_refl _) x)
theorem CellsAt.drew {w : World} {A : Option Addr} {ec : List Value} (h : CellsAt w A ec) : CellsAt w.drew A ec := h
end Go.Proofs.YtkfadfddhbpngaaGreat
namespace Go.Proofs.YtkfadfddhbpngaaGreat
open Go Go.RowKit

/-- A list's two parts at a place, as an append reads them; nil or not. -/
structure Parts (w : World) (xs : List ByteArray) (A : Option Addr) (k a a' : Nat) (AD : Option Addr) (ecT ecD : List Value) : Prop where
 t : repL str true w (xs.take a) ecT []
 d : repL str true w (xs.drop a') ecD []
 ct : CellsAt w A ecT
 cd : CellsAt w AD ecD
theorem Parts.below {w w' : World} {xs : List ByteArray} {A AD : Option Addr} {k a a' : Nat} {ecT ecD : List Value} (h : Parts w xs A k a a' AD ecT ecD) (hb : Below w.heap.size w w') : Parts w' xs A k a a' AD ecT ecD :=
 ⟨repL_below h.t hb, repL_below h.d hb, h.ct.below hb, h.cd.below hb⟩
end Go.Proofs.YtkfadfddhbpngaaGreat
namespace Go.Proofs.YtkfadfddhbpngaaGreat
open Go Go.RowKit

/-- A step's texts are not long. -/
def StepSmall (s : PStep) : Prop := s.word.size ≤ 1048576 ∧ s.old.size ≤ 1048576
end Go.Proofs.YtkfadfddhbpngaaGreat
namespace Go.Proofs.YtkfadfddhbpngaaGreat
open Go Go.RowKit

/-- No text in a page is long. -/
structure PBytes (p : PPage) : Prop where
 l : LineBytes p.lines
 d : ∀ s ∈ p.done, StepSmall s
 u : ∀ s ∈ p.undone, StepSmall s

end Go.Proofs.YtkfadfddhbpngaaGreat
namespace Go.Proofs.YtkfadfddhbpngaaGreat
open Go Go.RowKit

theorem step_call {P : Program} {ops : Array Oper} {o : Oper} {a : Act} {w : World} {K : Act → World → Prop} {Q : Exit → Act → World → Prop} {E : Prop} {R : Ending → World → Prop}
 (f : FuncId) (xs : Array Operand) (ts : Array TypeId) (ho : o.op = .call { callee := .value (.func f), args := xs, argTypes := ts })
 (hw : Region.wanted o (yielded ops a.tmps) = true) (av : Array Value) (hcall : ∀ args w, (callFunc f args).run P w = .ok (.enter f args) w) (hx : xs.map a.eval = av)
 (hC : Calls P f av w R) (hK : ∀ e w', R e w' → ∃ v, e = .returned v ∧ K (a.put o.dst v) w') :
 if Region.wanted o (yielded ops a.tmps) = true then Oper.wp P o a w K Q else E := by
 rw [if_pos hw]
 unfold Oper.wp execOp
 simp only [ho, resolve, invoke, Sem.run_bind]
 have he : a.eval (.func f) = .func (.func f) #[] #[] := rfl
 rw [he, hx]
 simp only [Deferred.ofValue, Sem.run_pure, Result.andThen_ok, Array.append_empty, hcall]
 rw [Oper.upon_enter, Array.empty_append]
 refine hC.mono fun e w' hr => ?_
 obtain ⟨v, rfl, hk⟩ := hK e w' hr
 exact hk
end Go.Proofs.YtkfadfddhbpngaaGreat
namespace Go.Proofs.YtkfadfddhbpngaaGreat
open Go Go.RowKit

/-- A step's cells in a box. -/
def BoxS (g : Nat) (s : PStep) (w : World) : Prop := w.cell? ⟨g, 0, none⟩ = some (.int .i64 s.kind) ∧ w.cell? ⟨g, 1, none⟩ = some (.int .i64 s.line) ∧ w.cell? ⟨g, 2, none⟩ = some (.int .i64 s.pos) ∧ w.cell? ⟨g, 3, none⟩ = some (.string s.word) ∧ w.cell? ⟨g, 4, none⟩ = some (.string s.old)
theorem BoxS.of {w : World} {g : Nat} {s : PStep} (h : Row w g 159 (pStepCells s)) : BoxS g s w := ⟨h.cell' (i := 0) rfl, h.cell' (i := 1) rfl, h.cell' (i := 2) rfl, h.cell' (i := 3) rfl, h.cell' (i := 4) rfl⟩

end Go.Proofs.YtkfadfddhbpngaaGreat

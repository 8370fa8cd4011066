/- Cells of a known block, written in a row; clear; lists of elements at a place. No program is named here. Conditions: none. -/
import Derived.Test.YtkfadfddhbpngaaGreatAppendv
import Derived.Laws.IdiomCopy
import Derived.ArgAppend
import Derived.Lib.AppendZerosOnto
import Derived.Lib.Overlaps
import Derived.Laws.Externs
import Derived.Laws.NewBlocks
import Derived.Deep.RegionLaw
import Derived.Test.YtkfadfddhbpngaaGreatMarkv
namespace Go.Proofs.YtkfadfddhbpngaaGreat
open Go Go.RowKit

section
variable {w w' : World} {g : Nat} {e : TypeId} {cs rest : List Value}
theorem Row.cells : ∀ (vs : List Value) (o : Nat) {w : World} {cs : List Value} (_ : Row w g e cs) (_ : o + vs.length ≤ cs.length), Row (w.setCells g o vs) g e (cs.take o ++ vs ++ cs.drop (o + vs.length))
 | [], o, w, cs, h, hl => by simpa [World.setCells] using h
 | v :: r, o, w, cs, h, hl => by
  rw [List.length_cons] at hl
  have h1 := Row.cells r (o + 1) (h.set o v) (by rw [List.length_set]; omega)
  have e1 : (cs.set o v).take (o + 1) = cs.take o ++ [v] := by
   rw [List.take_set, List.take_succ_eq_append_getElem (by omega), List.set_append_right _ _ (by simp; omega)]
   simp [Nat.min_eq_left (show o ≤ cs.length by omega)]
  have e2 : (cs.set o v).drop (o + 1 + r.length) = cs.drop (o + (v :: r).length) := by
   rw [List.drop_set_of_lt (by omega), List.length_cons]; congr 1; omega
  rw [e1, e2] at h1
  rw [World.setCells]
  simpa using h1
theorem Only.cells {F : List Nat} (hg : g ∈ F) : ∀ (vs : List Value) (o : Nat) {a b : World} (_ : Only F a b), Only F a (b.setCells g o vs)
 | [], _, _, _, h => h
 | v :: r, o, _, _, h => Only.cells hg r (o + 1) (h.set (p := ⟨g, o, none⟩) hg v)
theorem Row.shape (h : Row w g e cs) : w.shape? g = some (e, cs.length) := by
 unfold Row at h
 simp [World.shape?, h]
end

section
variable {α : Type} {T : Ty α} {o : Bool} {w w' : World} {xs ys : List α} {cs ds : List Value} {F G : List Nat}
end
end Go.Proofs.YtkfadfddhbpngaaGreat
namespace Go.Proofs.YtkfadfddhbpngaaGreat
open Go Go.RowKit

theorem slice_form {α : Type} {T : Ty α} {e : TypeId} {o : Bool} {w : World} {xs : List α} {v : Value} {F : List Nat} (h : (T.slice e).rep o w xs [v] F) : ∃ A n c, v = .slice A n c := by
 obtain ⟨A, c, rfl⟩ := slice_len h
 exact ⟨_, _, _, rfl⟩
section
variable {P : Program} {α : Type} {T : Ty α} {t e : TypeId} {z : Value} {bytes : Nat} {w : World} {xs ys : List α} {v : Value} {F Fy : List Nat} {A : Option Addr} {c : Nat} {ec : List Value}
/-- append, as one step of a region that draws. -/
theorem step_append_repX {ops : Array Oper} {o : Oper} {a : Act} {K : Act → World → Prop} {Q : Exit → Act → World → Prop} {E : Prop} (hgd : o.guard = none) (s x : Operand)
 (ho : o.op = .call { callee := .builtin .append, args := #[s, x], argTypes := #[t, t] })
 (ht : P.underlying t = some (.slice e)) (hi : (P.info? e).map (fun i => (i.zero, i.size, i.bytes)) = some (some z, T.size, bytes)) (hz : z.cells.size = T.size) (h0 : 0 < T.size)
 (hs : a.eval s = v) (hr : (T.slice e).rep true w xs [v] F) (hx : a.eval x = .slice A ys.length c) (hy : repL T true w ys ec Fy) (hat : CellsAt w A ec) (hnd : (F ++ Fy).Nodup)
 (h63 : xs.length + ys.length ≤ maxLen) (hb : (xs.length + ys.length) * bytes ≤ 140737488355328)
 (h : ∀ v' w' F', (T.slice e).rep true w' (xs ++ ys) [v'] F' → Only F w w' → (∀ B, Fresh B (F ++ Fy) → B ≤ w.heap.size → Fresh B F') → ((∀ b ∈ F', b ∈ F ++ Fy ∨ w.heap.size ≤ b) ∧ Only v.ownBlock.toList w w' ∧ ∀ b ∈ v'.ownBlock.toList, b ∈ v.ownBlock.toList ∨ w.heap.size ≤ b) → K (a.put o.dst v') w') :
 if Region.wanted o (yielded ops a.tmps) = true then Oper.wp P o a w K Q else E := by
 have hw : Region.wanted o (yielded ops a.tmps) = true := by simp [Region.wanted, hgd]
 rw [if_pos hw]
 obtain ⟨v', w', F', hrun, h2, h3, h4, h5⟩ := run_append_repX (P := P) (c := c) o.type ht hi hz h0 hr hy hat trivial hnd h63 hb
 unfold Oper.wp
 simp [execOp, ho, resolve, invoke, builtin, hs, hx, hrun, Result.andThen]
 exact h v' w' F' h2 h3 h4 h5
end
end Go.Proofs.YtkfadfddhbpngaaGreat
namespace Go.Proofs.YtkfadfddhbpngaaGreat
open Go Go.RowKit

theorem step_call {P : Program} {ops : Array Oper} {o : Oper} {a : Act} {w : World} {K : Act → World → Prop} {Q : Exit → Act → World → Prop} {E : Prop} {R : Ending → World → Prop}
 (f : FuncId) (xs : Array Operand) (ts : Array TypeId) (ho : o.op = .call { callee := .value (.func f), args := xs, argTypes := ts })
 (hw : Region.wanted o (yielded ops a.tmps) = true) (av : Array Value) (hcall : ∀ args w, (callFunc f args).run P w = .ok (.enter f args) w) (hx : xs.map a.eval = av)
 (hC : Calls P f av w R) (hK : ∀ e w', R e w' → ∃ v, e = .returned v ∧ K (a.put o.dst v) w') :
 if Region.wanted o (yielded ops a.tmps) = true then Oper.wp P o a w K Q else E := by
 rw [if_pos hw]
 unfold Oper.wp execOp
 simp only [ho, resolve, invoke, Sem.run_bind]
 have he : a.eval (.func f) = .func (.func f) #[] #[] := rfl
 rw [he, hx]
 simp only [Deferred.ofValue, Sem.run_pure, Result.andThen_ok, Array.append_empty, hcall]
 rw [Oper.upon_enter, Array.empty_append]
 refine hC.mono fun e w' hr => ?_
 obtain ⟨v, rfl, hk⟩ := hK e w' hr
 exact hk
end Go.Proofs.YtkfadfddhbpngaaGreat

/- Cells of a known block, written in a row; clear; lists of elements at a place. No program is named here. Conditions: none. -/
import Derived.Test.YtmopioaojdlnkaaDoorAppendp
import Derived.Laws.IdiomCopy
import Derived.ArgAppend
import Derived.Lib.AppendZerosOnto
import Derived.Lib.Overlaps
import Derived.Laws.Externs
import Derived.Laws.NewBlocks
import Derived.Deep.RegionLaw
namespace Go.Proofs.YtmopioaojdlnkaaDoor
open Go Go.RowKit
section
variable {w w' : World} {g : Nat} {e : TypeId} {cs rest : List Value}
theorem Row.cells : ∀ (vs : List Value) (o : Nat) {w : World} {cs : List Value} (_ : Row w g e cs) (_ : o + vs.length ≤ cs.length), Row (w.setCells g o vs) g e (cs.take o ++ vs ++ cs.drop (o + vs.length))
 | [], o, w, cs, h, hl => by simpa [World.setCells] using h
 | v :: r, o, w, cs, h, hl => by
   rw [List.length_cons] at hl
   have h1 := Row.cells r (o + 1) (h.set o v) (by rw [List.length_set]; omega)
   have e1 : (cs.set o v).take (o + 1) = cs.take o ++ [v] := by
    rw [List.take_set, List.take_succ_eq_append_getElem (by omega), List.set_append_right _ _ (by simp; omega)]
    simp [Nat.min_eq_left (show o ≤ cs.length by omega)]
   have e2 : (cs.set o v).drop (o + 1 + r.length) = cs.drop (o + (v :: r).length) := by
    rw [List.drop_set_of_lt (by omega), List.length_cons]; congr 1; omega
   rw [e1, e2] at h1
   rw [World.setCells]
   simpa using h1
theorem Only.cells {F : List Nat} (hg : g ∈ F) : ∀ (vs : List Value) (o : Nat) {a b : World} (_ : Only F a b), Only F a (b.setCells g o vs)
 | [], _, _, _, h => h
 | v :: r, o, _, _, h => Only.cells hg r (o + 1) (h.set (p := ⟨g, o, none⟩) hg v)
theorem Row.isS (h : Row w g e cs) {i : Nat} (hi : i < cs.length) : (w.cell? ⟨g, i, none⟩).isSome = true := by
 rw [h.cell, List.getElem?_eq_getElem hi]; rfl
theorem Row.shape (h : Row w g e cs) : w.shape? g = some (e, cs.length) := by
 unfold Row at h
 simp [World.shape?, h]
end
theorem run_clear_cells {P : Program} (w : World) (t e ty : TypeId) (z : Value) (ht : P.underlying t = some (.slice e)) (hv : ∀ w, (zeroValue e).run P w = .ok z w) (b o n c : Nat) (hn : 0 < n)
 (hc : ∀ j, j < n * z.cells.size → (w.cell? ⟨b, o + j, none⟩).isSome = true) (hf : ∀ j, j < n * z.cells.size → w.frozen? ⟨b, o + j, none⟩ = false) (h1 : ∀ v ∈ (Builtin.zeroCells z.cells n).toList, v.oneCell' = true) :
 (Builtin.clear_ #[t] ty #[.slice (some ⟨b, o, none⟩) n c]).run P w = .ok (.tuple #[]) (w.setCells b o (Builtin.zeroCells z.cells n).toList) := by
 have hl : (Builtin.zeroCells z.cells n).toList.length = n * z.cells.size := by simp [Builtin.zeroCells]
 have hst := run_storeCells_cells (P := P) b o (Builtin.zeroCells z.cells n).toList 0 w (by rw [hl]; simpa using hc) (by rw [hl]; simpa using hf) h1
 simp only [Nat.add_zero] at hst
 obtain ⟨m, rfl⟩ : ∃ m, n = m + 1 := ⟨n - 1, by omega⟩
 simp [Builtin.clear_, run_underlying ht, hv, hst]
theorem drew_setCells (b : Nat) : ∀ (vs : List Value) (o : Nat) (w : World), (w.setCells b o vs).drew = w.drew.setCells b o vs
 | [], _, _ => rfl
 | v :: r, o, w => by rw [World.setCells, World.setCells, drew_setCells b r]; rfl
theorem step_copy_runI {P : Program} {ops : Array Oper} {o : Oper} {a : Act} {w : World} {K : Act → World → Prop} {Q : Exit → Act → World → Prop} {E : Prop}
 (hg : o.guard = none) (d x : Operand) (dT sT : TypeId) (hop : o.op = Op.call { callee := Callee.builtin Builtin.copy, args := #[d, x], argTypes := #[dT, sT] })
 (v u : Value) (hd : a.eval d = v) (hx : a.eval x = u) {v' : Value} {w' : World} (hr : (Builtin.copy_ #[dT, sT] o.type #[v, u]).run P w = .ok v' w') (hK : K (a.put o.dst v') w') :
 if Region.wanted o (yielded ops a.tmps) = true then Oper.wp P o a w K Q else E := by
 have hw : Region.wanted o (yielded ops a.tmps) = true := by simp [Region.wanted, hg]
 rw [if_pos hw]
 unfold Oper.wp
 simp [execOp, hop, resolve, invoke, builtin, hd, hx, hr, Result.andThen]
 exact hK
theorem zeroCells_one (z : Array Value) : (Builtin.zeroCells z 1).toList = z.toList := by
 apply List.ext_getElem
 · simp [Builtin.zeroCells]
 · intro i h1 h2
   simp only [Builtin.zeroCells] at h1 ⊢
   have h3 : i < z.size := by simpa using h2
   simp [Nat.mod_eq_of_lt h3, h3]
theorem run_clear_one {P : Program} (w : World) (t e ty : TypeId) (z : Value) (ht : P.underlying t = some (.slice e)) (hv : ∀ w, (zeroValue e).run P w = .ok z w) (b o c : Nat)
 (hc : ∀ j, j < z.cells.size → (w.cell? ⟨b, o + j, none⟩).isSome = true) (hf : ∀ j, j < z.cells.size → w.frozen? ⟨b, o + j, none⟩ = false) (h1 : ∀ v ∈ z.cells.toList, v.oneCell' = true) :
 (Builtin.clear_ #[t] ty #[.slice (some ⟨b, o, none⟩) 1 c]).run P w = .ok (.tuple #[]) (w.setCells b o z.cells.toList) := by
 have h := run_clear_cells w t e ty z ht hv b o 1 c (by omega) (by simpa using hc) (by simpa using hf) (by rw [zeroCells_one]; exact h1)
 rwa [zeroCells_one] at h
section
variable {α : Type} {T : Ty α} {o : Bool} {w w' : World} {xs ys : List α} {cs ds : List Value} {F G : List Nat}
theorem repL_at (h : repL T o w xs cs F) (i : Nat) (hi : i ≤ xs.length) : ∃ F1 F2, F = F1 ++ F2 ∧ repL T o w (xs.take i) (cs.take (i * T.size)) F1 ∧ repL T o w (xs.drop i) (cs.drop (i * T.size)) F2 := by
 rw [← List.take_append_drop i xs] at h
 obtain ⟨c1, c2, F1, F2, rfl, rfl, h1, h2⟩ := repL_split h
 have hl := repL_len h1
 rw [List.length_take, Nat.min_eq_left hi] at hl
 refine ⟨F1, F2, rfl, ?_, ?_⟩
 · rw [List.take_left' hl]; exact h1
 · rw [List.drop_left' hl]; exact h2
end
end Go.Proofs.YtmopioaojdlnkaaDoor

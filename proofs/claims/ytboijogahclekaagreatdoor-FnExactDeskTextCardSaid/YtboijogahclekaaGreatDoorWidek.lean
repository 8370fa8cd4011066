/- Structs of many cells: loaded, stored and returned by ranges. No program is named here. Conditions: none. -/
import Derived.Test.YtboijogahclekaaGreatDoorMarkk
import Derived.Deep.MidRow
import Derived.Deep.Cut
namespace Go.Proofs.YtboijogahclekaaGreatDoor
open Go Go.RowKit
section
variable {w : World} {g : Nat} {e : TypeId} {cs : List Value}
theorem Row.range (R : Row w g e cs) : w.rangeAt g 0 cs := fun j v hv => by rw [Nat.zero_add]; exact R.cell' hv
theorem Row.there (R : Row w g e cs) : w.there g 0 cs.length := fun j hj => by
 obtain ⟨⟨u, hu⟩, hf⟩ := R.can (i := j) hj
 rw [Nat.zero_add]
 exact ⟨by rw [hu]; rfl, hf⟩
theorem Row.setCells_at : ∀ (vs cs pre : List Value) (w : World), vs.length = cs.length → Row w g e (pre ++ cs) → Row (w.setCells g pre.length vs) g e (pre ++ vs)
 | [], [], pre, w, _, R => R
 | [], _ :: _, _, _, h, _ => by simp at h
 | _ :: _, [], _, _, h, _ => by simp at h
 | v :: r, c :: cs, pre, w, h, R => by
   have R1 := R.set pre.length v
   have e1 : (pre ++ c :: cs).set pre.length v = (pre ++ [v]) ++ cs := by rw [List.set_append_right _ _ (Nat.le_refl _), Nat.sub_self]; simp
   rw [e1] at R1
   have R2 := Row.setCells_at r cs (pre ++ [v]) _ (by simpa using h) R1
   rw [List.length_append, List.length_singleton, List.append_assoc] at R2
   exact R2
theorem Row.setCells (R : Row w g e cs) {vs : List Value} (h : vs.length = cs.length) : Row (w.setCells g 0 vs) g e vs := Row.setCells_at vs cs [] w h R
end
theorem Only.setCells {F : List Nat} {a : World} {b : Nat} (hb : b ∈ F) : ∀ (vs : List Value) (o : Nat) (w : World), Only F a w → Only F a (w.setCells b o vs)
 | [], _, _, h => h
 | v :: r, o, _w, h => Only.setCells hb r (o + 1) _ (h.set (p := ⟨b, o, none⟩) hb v)
theorem results_cell {P : Program} {fn : Func} {tmps : Array Value} {k : Nat} {T : TypeId} {b : Nat} {w : World} {cs : List Value} {d : TypeDesc} (hf : fn.results = #[.cell k T]) (ht : tmps.getD k undef = .pointer (some ⟨b, 0, none⟩)) (hc : w.rangeAt b 0 cs)
 (hu : P.underlying T = some d) (hd : d.isRow = true) (hi : (P.info? T).map (·.size) = some cs.length) : (results fn tmps).run P w = .ok (.agg cs.toArray) w := by
 have hL := run_loadVar_mid w b 0 T cs d hc hu hd hi
 have ht' : tmps[k]?.getD undef = .pointer (some ⟨b, 0, none⟩) := by simpa using ht
 unfold results
 rw [hf]
 simp [ht', asAddr, hL]
end Go.Proofs.YtboijogahclekaaGreatDoor

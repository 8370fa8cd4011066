/- A block that is known whole, as a list of cells; 'make' with a size that is a variable. Conditions: none. -/
import Derived.Test.YtkfadfddhbpngaaGreatLibx
namespace Go.Proofs.YtkfadfddhbpngaaGreat
open Go Go.RowKit

/-- Block g holds just the cells cs, none frozen. -/
def Row (w : World) (g : Nat) (e : TypeId) (cs : List Value) : Prop := w.heap[g]? = some (.cells cs.toArray e (0, 0))

section
variable {w w' : World} {g : Nat} {e : TypeId} {cs rest : List Value}
theorem Row.lt (h : Row w g e cs) : g < w.heap.size := (Array.getElem?_eq_some_iff.1 h).1
theorem Row.cell (h : Row w g e cs) (i : Nat) : w.cell? ⟨g, i, none⟩ = cs[i]? := by
 unfold Row at h
 simp [World.cell?, h]
theorem Row.cell' (h : Row w g e cs) {i : Nat} {u : Value} (hu : cs[i]? = some u) : w.cell? ⟨g, i, none⟩ = some u := (h.cell i).trans hu
theorem Row.frozen (h : Row w g e cs) (i : Nat) : w.frozen? ⟨g, i, none⟩ = false := by
 unfold Row at h
 simp [World.frozen?, h]
theorem Row.new (w : World) (e : TypeId) (cs : Array Value) : Row (w.alloc (.cells cs e)) w.heap.size e cs.toList := by
 unfold Row
 rw [heap_alloc_new w _]
theorem Row.alloc (h : Row w g e cs) (o : Obj) : Row (w.alloc o) g e cs := (Below.heap_alloc w o g h.lt).trans h
theorem Row.drew (h : Row w g e cs) : Row w.drew g e cs := h
theorem Row.drewN (h : Row w g e cs) (n : Nat) : Row (w.drewN n) g e cs := h
theorem Row.set (h : Row w g e cs) (i : Nat) (u : Value) : Row (w.setCell ⟨g, i, none⟩ u) g e (cs.set i u) := by
 unfold Row at h ⊢
 simp [World.setCell, Array.getElem?_modify, h]
theorem Row.far (h : Row w g e cs) {p : Addr} (hp : g ≠ p.block) (u : Value) : Row (w.setCell p u) g e cs := (Below.heap_setCell w p u g hp).trans h
theorem Row.below {B : Nat} (h : Row w g e cs) (hb : Below B w w') (hg : g < B) : Row w' g e cs := (hb.block g hg).trans h
theorem Row.later (h : Row w g e cs) (hb : Below w.heap.size w w') : Row w' g e cs := h.below hb h.lt
/-- Where a store may go. -/
theorem Row.can (h : Row w g e cs) {i : Nat} (hi : i < cs.length) : (∃ u, w.cell? ⟨g, i, none⟩ = some u) ∧ w.frozen? ⟨g, i, none⟩ = false :=
 ⟨⟨_, h.cell' (List.getElem?_eq_getElem hi)⟩, h.frozen i⟩
/-- A store behind a known beginning. -/
theorem Row.put (h : Row w g e (cs ++ rest)) {i j : Nat} (hi : i = cs.length + j) (u : Value) : Row (w.setCell ⟨g, i, none⟩ u) g e (cs ++ rest.set j u) := by
 have := h.set i u
 rwa [List.set_append_right _ _ (by omega), show i - cs.length = j from by omega] at this
/-- A block that is known whole is a slice of one's own. -/
theorem Row.owns (h : Row w g e cs) {size n : Nat} (hl : cs.length = n * size) (hm : n ≤ maxLen) : w.ownsRow 0 e size (.slice (some ⟨g, 0, none⟩) n n) n cs :=
 ⟨hl, .inr ⟨g, n, cs.toArray, rfl, Nat.zero_le _, h, Nat.le_refl _, hm, by simpa using hl, by rw [List.toList_toArray, ← hl, List.take_length]⟩⟩
/-- A list of elements in a block of their own, as a slice's value. -/
theorem slice_of_row {α : Type} {T : Ty α} {xs : List α} {G : List Nat} (h : Row w g e cs) (hr : repL T true w xs cs G) (hm : xs.length ≤ maxLen) :
 (T.slice e).rep true w xs [.slice (some ⟨g, 0, none⟩) xs.length xs.length] (g :: G) := by
 have hl := repL_len hr
 refine ⟨_, _, cs, [g], G, rfl, rfl, Nat.le_refl _, hm, hr, by simpa using h.lt, fun hn => ⟨g, 0, rfl, by simp, fun j u hu => ?_⟩, fun _ => ⟨h.owns hl hm, rfl⟩⟩
 rw [Nat.zero_add, h.cell]
 exact hu
end

/-- 'make([]T, n)': an equation for every world. 'm': the size as the walk writes it. -/
theorem make_run {P : Program} {t e : TypeId} {z : Value} {size bytes : Nat} (ht : P.underlying t = some (.slice e)) (hi : (P.info? e).map (fun i => (i.zero, i.size, i.bytes)) = some (some z, size, bytes))
 (n : Nat) (m : Int) (hm : m = n) (hb : bytes * n ≤ 281474976710656) (h63 : n ≤ maxLen) (w : World) :
 (Instr.makeSlice t (.int .i64 m) (.int .i64 m)).run P w = .ok (.slice (some ⟨w.heap.size, 0, none⟩) n n) (w.alloc (.cells (madeCells z.cells (n * size)) e)) := by
 subst hm
 obtain ⟨i, hi1, hz, rfl, rfl⟩ := info_parts hi
 unfold maxLen at h63
 have hb' : (i.bytes : Int) * (n : Int) ≤ 281474976710656 := by
  have h : ((i.bytes * n : Nat) : Int) ≤ 281474976710656 := by omega
  rwa [Int.natCast_mul] at h
 have hr := run_make (P := P) w t e i z ht hi1 hz .i64 .i64 n n (by omega) (by omega) hb' (by omega)
 simpa using hr

end Go.Proofs.YtkfadfddhbpngaaGreat

/- Pages: DoStep. Conditions: none. -/
import Derived.Test.YtahoopmiipmgpaaDoorPgDo3
import Derived.Test.YtahoopmiipmgpaaDoorPgMath3
import Derived.Test.YtahoopmiipmgpaaDoorPgSize
namespace Go.Proofs.YtahoopmiipmgpaaDoor
open Go Go.RowKit

/-- A page in memory of its own, and a number. -/
def GivesPC (r : PPage × Int) (w : World) (e : Ending) (w' : World) : Prop := ∃ v F, e = .returned (.tuple #[v, .int .i64 r.2]) ∧ PageIs 39 66 true w' r.1 v F ∧ Fresh w.heap.size F ∧ Below w.heap.size w w'
/-- A page to be read, and a number. -/
def GivesPCR (r : PPage × Int) (w : World) (e : Ending) (w' : World) : Prop := ∃ v F, e = .returned (.tuple #[v, .int .i64 r.2]) ∧ PageIs 39 66 false w' r.1 v F ∧ Below w.heap.size w w'
theorem PageIs.form {el es : TypeId} {o : Bool} {w : World} {p : PPage} {v : Value} {F : List Nat} (h : PageIs el es o w p v F) :
    ∃ A1 n1 k1 A2 n2 k2 A3 n3 k3, v = .agg #[.slice A1 n1 k1, .slice A2 n2 k2, .slice A3 n3 k3] := by
  obtain ⟨A1, k1, A2, k2, A3, k3, rfl⟩ := h.shape
  exact ⟨_, _, _, _, _, _, _, _, _, rfl⟩
theorem nilPage_is (el es : TypeId) (o : Bool) (w : World) : PageIs el es o w nilPage (.agg #[.slice none 0 0, .slice none 0 0, .slice none 0 0]) [] :=
  ⟨_, _, _, [], [], [], rfl, rfl, slice_nil _ _ _ _, slice_nil _ _ _ _, slice_nil _ _ _ _⟩
theorem PageIs.setCell {el es : TypeId} {o : Bool} {w : World} {p : PPage} {v : Value} {F : List Nat} (h : PageIs el es o w p v F) {a : Addr} (ha : a.block ∉ F) (u : Value) : PageIs el es o (w.setCell a u) p v F := by
  obtain ⟨a', b', c', F1, F2, F3, rfl, rfl, h1, h2, h3⟩ := h
  simp only [List.mem_append, not_or] at ha
  exact ⟨_, _, _, F1, F2, F3, rfl, rfl, h1.setCell ha.1 u, h2.setCell ha.2.1 u, h3.setCell ha.2.2 u⟩

theorem al1m {w w1 : World} {x : Obj} (b : Below (w.alloc x).heap.size (w.alloc x) w1) : Below w.heap.size w w1 := ((Below.refl _ _).alloc (Nat.le_refl _) x).trans (b.mono (by simp))
theorem al2m {w w1 : World} {x y : Obj} (b : Below ((w.alloc x).alloc y).heap.size ((w.alloc x).alloc y) w1) : Below w.heap.size w w1 := al1m (al1m b)
theorem al3m {w w1 : World} {x y z : Obj} (b : Below (((w.alloc x).alloc y).alloc z).heap.size (((w.alloc x).alloc y).alloc z) w1) : Below w.heap.size w w1 := al1m (al2m b)
theorem PLaw.few {p : PPage} (h : validB p = true) : p.done.length ≤ 1000 ∧ p.undone.length ≤ 1000 := by
  obtain ⟨_, h1, h2, _, _⟩ := validB_parts h
  omega
theorem fresh_mono {B C : Nat} {F : List Nat} (h : Fresh C F) (hb : B ≤ C) : Fresh B F := ⟨h.1, fun x hx => Nat.le_trans hb (h.2 x hx)⟩
theorem PageIs.lines {el es : TypeId} {o : Bool} {w : World} {p : PPage} {a b c : Value} {F : List Nat} (h : PageIs el es o w p (.agg #[a, b, c]) F) : ∃ F1 F2 F3, F = F1 ++ (F2 ++ F3) ∧ (pLines el).rep o w p.lines [a] F1 ∧ (pSteps es).rep o w p.done [b] F2 ∧ (pSteps es).rep o w p.undone [c] F3 := by
  obtain ⟨a', b', c', F1, F2, F3, e, rfl, h1, h2, h3⟩ := h
  cases e
  exact ⟨F1, F2, F3, rfl, h1, h2, h3⟩
theorem PageIs.set3 {el es : TypeId} {o : Bool} {w : World} {p : PPage} {v : Value} {F : List Nat} {g : Nat} (h : PageIs el es o w p v F) (hg : g ∉ F) (a b c : Value) : PageIs el es o (((w.setCell ⟨g, 0, none⟩ a).setCell ⟨g, 1, none⟩ b).setCell ⟨g, 2, none⟩ c) p v F :=
  ((h.setCell hg a).setCell hg b).setCell hg c


/-- What the parts of a page's argument hold, as the reference's functions ask for them. -/
structure PParts (el es : TypeId) (o : Bool) (p : PPage) (a b c : Value) (F1 F2 F3 : List Nat) (gp : Nat) (w : World) : Prop where
  row : Row w gp 25 [a, b, c]
  h1 : (pLines el).rep o w p.lines [a] F1
  h2 : (pSteps es).rep o w p.done [b] F2
  h3 : (pSteps es).rep o w p.undone [c] F3
theorem PParts.below {el es : TypeId} {o : Bool} {p : PPage} {a b c : Value} {F1 F2 F3 : List Nat} {gp : Nat} {w w' : World} (h : PParts el es o p a b c F1 F2 F3 gp w) (hb : Below w.heap.size w w') : PParts el es o p a b c F1 F2 F3 gp w' := ⟨h.row.later hb, h.h1.below hb, h.h2.below hb, h.h3.below hb⟩
theorem PParts.alloc {el es : TypeId} {o : Bool} {p : PPage} {a b c : Value} {F1 F2 F3 : List Nat} {gp : Nat} {w : World} (h : PParts el es o p a b c F1 F2 F3 gp w) (x : Obj) : PParts el es o p a b c F1 F2 F3 gp (w.alloc x) := ⟨h.row.alloc x, h.h1.alloc x, h.h2.alloc x, h.h3.alloc x⟩
theorem PParts.new {el es : TypeId} {o : Bool} {p : PPage} {a b c : Value} {F : List Nat} {w : World} (h : PageIs el es o w p (.agg #[a, b, c]) F) : ∃ F1 F2 F3, PParts el es o p a b c F1 F2 F3 w.heap.size (w.alloc (.cells #[a, b, c] 25)) := by
  obtain ⟨F1, F2, F3, -, h1, h2, h3⟩ := h.lines
  exact ⟨F1, F2, F3, Row.at' w _ [a, b, c] rfl, h1.alloc _, h2.alloc _, h3.alloc _⟩

end Go.Proofs.YtahoopmiipmgpaaDoor

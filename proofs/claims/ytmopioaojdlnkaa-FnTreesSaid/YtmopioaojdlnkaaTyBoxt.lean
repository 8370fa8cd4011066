/- The type Box: its data, how it lies in memory, and the law's own helpers over it. Conditions: none. -/
import Derived.Test.YtmopioaojdlnkaaRows
import Derived.Test.YtmopioaojdlnkaaStrSt
namespace Go.Proofs.Ytmopioaojdlnkaa
open Go Go.RowKit
structure PBox where
 x1 : Int
 y1 : Int
 x2 : Int
 y2 : Int
 deriving DecidableEq
def pBox : Ty PBox := (int64.prod (int64.prod (int64.prod int64))).via fun s => (s.x1, s.y1, s.x2, s.y2)
theorem pBox_rep {o : Bool} {w : World} {s : PBox} {cs : List Value} {F : List Nat} : pBox.rep o w s cs F ↔ cs = [.int .i64 s.x1, .int .i64 s.y1, .int .i64 s.x2, .int .i64 s.y2] ∧ F = [] ∧ I64 s.x1 ∧ I64 s.y1 ∧ I64 s.x2 ∧ I64 s.y2 := by
 constructor
 · rintro ⟨_, _, _, _, rfl, rfl, ⟨rfl, rfl, h0⟩, ⟨_, _, _, _, rfl, rfl, ⟨rfl, rfl, h1⟩, ⟨_, _, _, _, rfl, rfl, ⟨rfl, rfl, h2⟩, ⟨rfl, rfl, h3⟩⟩⟩⟩
   exact ⟨rfl, rfl, h0, h1, h2, h3⟩
 · rintro ⟨rfl, rfl, h0, h1, h2, h3⟩
   exact ⟨_, _, [], [], rfl, rfl, ⟨rfl, rfl, h0⟩, ⟨_, _, [], [], rfl, rfl, ⟨rfl, rfl, h1⟩, ⟨_, _, [], [], rfl, rfl, ⟨rfl, rfl, h2⟩, ⟨rfl, rfl, h3⟩⟩⟩⟩
def pBoxs (e : TypeId) : Ty (List PBox) := pBox.slice e
theorem pBoxs_open {o : Bool} {w : World} {e : TypeId} {xs : List PBox} {v : Value} {F : List Nat} (h : (pBoxs e).rep o w xs [v] F) :
 ∃ A c, v = .slice A xs.length c ∧ xs.length ≤ c ∧ c ≤ maxLen ∧ ∀ k (hk : k < xs.length), ∃ b off, A = some ⟨b, off, none⟩ ∧ b < w.heap.size ∧ b ∈ F ∧
  w.cell? ⟨b, off + k * 4, none⟩ = some (.int .i64 xs[k].x1) ∧ w.cell? ⟨b, off + k * 4 + 1, none⟩ = some (.int .i64 xs[k].y1) ∧ w.cell? ⟨b, off + k * 4 + 2, none⟩ = some (.int .i64 xs[k].x2) ∧ w.cell? ⟨b, off + k * 4 + 3, none⟩ = some (.int .i64 xs[k].y2) ∧ I64 xs[k].x1 ∧ I64 xs[k].y1 ∧ I64 xs[k].x2 ∧ I64 xs[k].y2 := by
 obtain ⟨A, c, hv, h1, h2, h3⟩ := slice_open h
 refine ⟨A, c, hv, h1, h2, fun k hk => ?_⟩
 obtain ⟨b, off, ck, Fk, hA, hb, hin, hr, _, hc⟩ := h3 k hk
 obtain ⟨rfl, rfl, i0, i1, i2, i3⟩ := pBox_rep.1 hr
 exact ⟨b, off, hA, hb, hin, hc 0 _ rfl, by rw [Nat.add_assoc]; exact hc 1 _ rfl, by rw [Nat.add_assoc]; exact hc 2 _ rfl, by rw [Nat.add_assoc]; exact hc 3 _ rfl, i0, i1, i2, i3⟩
def pBoxCells (s : PBox) : List Value := [.int .i64 s.x1, .int .i64 s.y1, .int .i64 s.x2, .int .i64 s.y2]
def pBoxOk (s : PBox) : Prop := I64 s.x1 ∧ I64 s.y1 ∧ I64 s.x2 ∧ I64 s.y2
theorem repL_pBox {o : Bool} {w : World} : ∀ (xs : List PBox), (∀ s ∈ xs, pBoxOk s) → repL pBox o w xs (xs.flatMap pBoxCells) []
 | [], _ => ⟨rfl, rfl⟩
 | s :: r, h => ⟨_, _, [], [], rfl, rfl, pBox_rep.2 ⟨rfl, rfl, h s (by simp)⟩, repL_pBox r (fun t ht => h t (by simp [ht]))⟩
structure PNode where
 kind : Int
 a : Int
 b : Int
 sign : Int
 deriving DecidableEq
def pNode : Ty PNode := (int64.prod (int64.prod (int64.prod int64))).via fun s => (s.kind, s.a, s.b, s.sign)
theorem pNode_rep {o : Bool} {w : World} {s : PNode} {cs : List Value} {F : List Nat} : pNode.rep o w s cs F ↔ cs = [.int .i64 s.kind, .int .i64 s.a, .int .i64 s.b, .int .i64 s.sign] ∧ F = [] ∧ I64 s.kind ∧ I64 s.a ∧ I64 s.b ∧ I64 s.sign := by
 constructor
 · rintro ⟨_, _, _, _, rfl, rfl, ⟨rfl, rfl, h0⟩, ⟨_, _, _, _, rfl, rfl, ⟨rfl, rfl, h1⟩, ⟨_, _, _, _, rfl, rfl, ⟨rfl, rfl, h2⟩, ⟨rfl, rfl, h3⟩⟩⟩⟩
   exact ⟨rfl, rfl, h0, h1, h2, h3⟩
 · rintro ⟨rfl, rfl, h0, h1, h2, h3⟩
   exact ⟨_, _, [], [], rfl, rfl, ⟨rfl, rfl, h0⟩, ⟨_, _, [], [], rfl, rfl, ⟨rfl, rfl, h1⟩, ⟨_, _, [], [], rfl, rfl, ⟨rfl, rfl, h2⟩, ⟨rfl, rfl, h3⟩⟩⟩⟩
def pNodes (e : TypeId) : Ty (List PNode) := pNode.slice e
theorem pNodes_open {o : Bool} {w : World} {e : TypeId} {xs : List PNode} {v : Value} {F : List Nat} (h : (pNodes e).rep o w xs [v] F) :
 ∃ A c, v = .slice A xs.length c ∧ xs.length ≤ c ∧ c ≤ maxLen ∧ ∀ k (hk : k < xs.length), ∃ b off, A = some ⟨b, off, none⟩ ∧ b < w.heap.size ∧ b ∈ F ∧
  w.cell? ⟨b, off + k * 4, none⟩ = some (.int .i64 xs[k].kind) ∧ w.cell? ⟨b, off + k * 4 + 1, none⟩ = some (.int .i64 xs[k].a) ∧ w.cell? ⟨b, off + k * 4 + 2, none⟩ = some (.int .i64 xs[k].b) ∧ w.cell? ⟨b, off + k * 4 + 3, none⟩ = some (.int .i64 xs[k].sign) ∧ I64 xs[k].kind ∧ I64 xs[k].a ∧ I64 xs[k].b ∧ I64 xs[k].sign := by
 obtain ⟨A, c, hv, h1, h2, h3⟩ := slice_open h
 refine ⟨A, c, hv, h1, h2, fun k hk => ?_⟩
 obtain ⟨b, off, ck, Fk, hA, hb, hin, hr, _, hc⟩ := h3 k hk
 obtain ⟨rfl, rfl, i0, i1, i2, i3⟩ := pNode_rep.1 hr
 exact ⟨b, off, hA, hb, hin, hc 0 _ rfl, by rw [Nat.add_assoc]; exact hc 1 _ rfl, by rw [Nat.add_assoc]; exact hc 2 _ rfl, by rw [Nat.add_assoc]; exact hc 3 _ rfl, i0, i1, i2, i3⟩
def pNodeCells (s : PNode) : List Value := [.int .i64 s.kind, .int .i64 s.a, .int .i64 s.b, .int .i64 s.sign]
def pNodeOk (s : PNode) : Prop := I64 s.kind ∧ I64 s.a ∧ I64 s.b ∧ I64 s.sign
theorem pNodeCells_len (xs : List PNode) : (xs.flatMap pNodeCells).length = xs.length * 4 := by
 induction xs with
 | nil => rfl
 | cons a r ih => simp only [List.flatMap_cons, List.length_append, ih, List.length_cons]; simp [pNodeCells]; omega
theorem repL_pNode {o : Bool} {w : World} : ∀ (xs : List PNode), (∀ s ∈ xs, pNodeOk s) → repL pNode o w xs (xs.flatMap pNodeCells) []
 | [], _ => ⟨rfl, rfl⟩
 | s :: r, h => ⟨_, _, [], [], rfl, rfl, pNode_rep.2 ⟨rfl, rfl, h s (by simp)⟩, repL_pNode r (fun t ht => h t (by simp [ht]))⟩
theorem repL_pNode_inv {o : Bool} {w : World} : ∀ {xs : List PNode} {cs : List Value} {F : List Nat}, repL pNode o w xs cs F → cs = xs.flatMap pNodeCells ∧ F = []
 | [], _, _, ⟨rfl, rfl⟩ => ⟨rfl, rfl⟩
 | s :: r, _, _, ⟨c1, c2, F1, F2, rfl, rfl, h1, h2⟩ => by
   obtain ⟨rfl, rfl, _⟩ := pNode_rep.1 h1
   obtain ⟨rfl, rfl⟩ := repL_pNode_inv h2
   exact ⟨rfl, rfl⟩
theorem pNodes_ok {o : Bool} {w : World} {e : TypeId} {xs : List PNode} {v : Value} {F : List Nat} (h : (pNodes e).rep o w xs [v] F) : ∀ s ∈ xs, pNodeOk s := by
 obtain ⟨_, _, _, _, _, hr⟩ := pNodes_open h
 intro s hs
 obtain ⟨k, hk, rfl⟩ := List.getElem_of_mem hs
 obtain ⟨_, _, _, _, _, _, _, _, _, h⟩ := hr k hk
 exact h
structure PSymbol where
 label : ByteArray
 x1 : Int
 y1 : Int
 x2 : Int
 y2 : Int
 deriving DecidableEq
def pSymbol : Ty PSymbol := (str.prod (int64.prod (int64.prod (int64.prod int64)))).via fun s => (s.label, s.x1, s.y1, s.x2, s.y2)
theorem pSymbol_rep {o : Bool} {w : World} {s : PSymbol} {cs : List Value} {F : List Nat} : pSymbol.rep o w s cs F ↔ cs = [.string s.label, .int .i64 s.x1, .int .i64 s.y1, .int .i64 s.x2, .int .i64 s.y2] ∧ F = [] ∧ s.label.size ≤ maxLen ∧ I64 s.x1 ∧ I64 s.y1 ∧ I64 s.x2 ∧ I64 s.y2 := by
 constructor
 · rintro ⟨_, _, _, _, rfl, rfl, ⟨rfl, rfl, h0⟩, ⟨_, _, _, _, rfl, rfl, ⟨rfl, rfl, h1⟩, ⟨_, _, _, _, rfl, rfl, ⟨rfl, rfl, h2⟩, ⟨_, _, _, _, rfl, rfl, ⟨rfl, rfl, h3⟩, ⟨rfl, rfl, h4⟩⟩⟩⟩⟩
   exact ⟨rfl, rfl, h0, h1, h2, h3, h4⟩
 · rintro ⟨rfl, rfl, h0, h1, h2, h3, h4⟩
   exact ⟨_, _, [], [], rfl, rfl, ⟨rfl, rfl, h0⟩, ⟨_, _, [], [], rfl, rfl, ⟨rfl, rfl, h1⟩, ⟨_, _, [], [], rfl, rfl, ⟨rfl, rfl, h2⟩, ⟨_, _, [], [], rfl, rfl, ⟨rfl, rfl, h3⟩, ⟨rfl, rfl, h4⟩⟩⟩⟩⟩
def pSymbols (e : TypeId) : Ty (List PSymbol) := pSymbol.slice e
theorem pSymbols_open {o : Bool} {w : World} {e : TypeId} {xs : List PSymbol} {v : Value} {F : List Nat} (h : (pSymbols e).rep o w xs [v] F) :
 ∃ A c, v = .slice A xs.length c ∧ xs.length ≤ c ∧ c ≤ maxLen ∧ ∀ k (hk : k < xs.length), ∃ b off, A = some ⟨b, off, none⟩ ∧ b < w.heap.size ∧ b ∈ F ∧
  w.cell? ⟨b, off + k * 5, none⟩ = some (.string xs[k].label) ∧ w.cell? ⟨b, off + k * 5 + 1, none⟩ = some (.int .i64 xs[k].x1) ∧ w.cell? ⟨b, off + k * 5 + 2, none⟩ = some (.int .i64 xs[k].y1) ∧ w.cell? ⟨b, off + k * 5 + 3, none⟩ = some (.int .i64 xs[k].x2) ∧ w.cell? ⟨b, off + k * 5 + 4, none⟩ = some (.int .i64 xs[k].y2) ∧ xs[k].label.size ≤ maxLen ∧ I64 xs[k].x1 ∧ I64 xs[k].y1 ∧ I64 xs[k].x2 ∧ I64 xs[k].y2 := by
 obtain ⟨A, c, hv, h1, h2, h3⟩ := slice_open h
 refine ⟨A, c, hv, h1, h2, fun k hk => ?_⟩
 obtain ⟨b, off, ck, Fk, hA, hb, hin, hr, _, hc⟩ := h3 k hk
 obtain ⟨rfl, rfl, i0, i1, i2, i3, i4⟩ := pSymbol_rep.1 hr
 exact ⟨b, off, hA, hb, hin, hc 0 _ rfl, by rw [Nat.add_assoc]; exact hc 1 _ rfl, by rw [Nat.add_assoc]; exact hc 2 _ rfl, by rw [Nat.add_assoc]; exact hc 3 _ rfl, by rw [Nat.add_assoc]; exact hc 4 _ rfl, i0, i1, i2, i3, i4⟩
def pSymbolCells (s : PSymbol) : List Value := [.string s.label, .int .i64 s.x1, .int .i64 s.y1, .int .i64 s.x2, .int .i64 s.y2]
def pSymbolOk (s : PSymbol) : Prop := s.label.size ≤ maxLen ∧ I64 s.x1 ∧ I64 s.y1 ∧ I64 s.x2 ∧ I64 s.y2
theorem pSymbolCells_len (xs : List PSymbol) : (xs.flatMap pSymbolCells).length = xs.length * 5 := by
 induction xs with
 | nil => rfl
 | cons a r ih => simp only [List.flatMap_cons, List.length_append, ih, List.length_cons]; simp [pSymbolCells]; omega
theorem repL_pSymbol {o : Bool} {w : World} : ∀ (xs : List PSymbol), (∀ s ∈ xs, pSymbolOk s) → repL pSymbol o w xs (xs.flatMap pSymbolCells) []
 | [], _ => ⟨rfl, rfl⟩
 | s :: r, h => ⟨_, _, [], [], rfl, rfl, pSymbol_rep.2 ⟨rfl, rfl, h s (by simp)⟩, repL_pSymbol r (fun t ht => h t (by simp [ht]))⟩
theorem repL_pSymbol_inv {o : Bool} {w : World} : ∀ {xs : List PSymbol} {cs : List Value} {F : List Nat}, repL pSymbol o w xs cs F → cs = xs.flatMap pSymbolCells ∧ F = []
 | [], _, _, ⟨rfl, rfl⟩ => ⟨rfl, rfl⟩
 | s :: r, _, _, ⟨c1, c2, F1, F2, rfl, rfl, h1, h2⟩ => by
   obtain ⟨rfl, rfl, _⟩ := pSymbol_rep.1 h1
   obtain ⟨rfl, rfl⟩ := repL_pSymbol_inv h2
   exact ⟨rfl, rfl⟩
theorem pSymbols_ok {o : Bool} {w : World} {e : TypeId} {xs : List PSymbol} {v : Value} {F : List Nat} (h : (pSymbols e).rep o w xs [v] F) : ∀ s ∈ xs, pSymbolOk s := by
 obtain ⟨_, _, _, _, _, hr⟩ := pSymbols_open h
 intro s hs
 obtain ⟨k, hk, rfl⟩ := List.getElem_of_mem hs
 obtain ⟨_, _, _, _, _, _, _, _, _, _, h⟩ := hr k hk
 exact h
end Go.Proofs.Ytmopioaojdlnkaa

/- The words from which steps of pages are drawn. Conditions: none. -/
import Derived.Test.YtmopioaojdlnkaaDoorSrcp
import Derived.Test.YtmopioaojdlnkaaDoorRows
import Derived.Test.YtmopioaojdlnkaaDoorStrSp
namespace Go.Proofs.YtmopioaojdlnkaaDoor
open Go Go.RowKit
def lexWords : List ByteArray := [⟨#[97]⟩, ⟨#[97, 110]⟩, ⟨#[97, 110, 116]⟩, ⟨#[97, 116]⟩, ⟨#[97, 116, 101]⟩, ⟨#[101, 97, 116]⟩, ⟨#[101]⟩, ⟨#[101, 110]⟩, ⟨#[105]⟩, ⟨#[105, 110]⟩, ⟨#[105, 115]⟩, ⟨#[105, 116]⟩, ⟨#[110, 101, 115, 116]⟩, ⟨#[110, 101, 116]⟩, ⟨#[115, 101, 116]⟩, ⟨#[115, 105, 116]⟩, ⟨#[115, 97, 116]⟩, ⟨#[115, 105, 116, 101]⟩, ⟨#[116, 101, 97]⟩, ⟨#[116, 101, 110]⟩, ⟨#[116, 101, 115, 116]⟩, ⟨#[116, 105, 101]⟩, ⟨#[116, 105, 110]⟩, ⟨#[116, 105]⟩]
theorem lexWords_small : ∀ s ∈ lexWords, s.size ≤ 4 := by decide
set_option maxRecDepth 100000 in
set_option maxHeartbeats 1000000 in
theorem spec_l16Words_c (w : World) : Calls Tryd.prog 39 #[] w fun e w' => e = .returned (.slice (some ⟨w.heap.size, 0, none⟩) 24 24) ∧ w' = w.alloc (.cells (lexWords.map Value.string).toArray 9) := by
 go_enter Tryd.func39, Tryd.ntmps39
 go_wp2_with fail
 go_ret
 exact ⟨rfl, rfl⟩
theorem lexWords_at (w : World) : (strs 9).rep true (w.alloc (.cells (lexWords.map Value.string).toArray 9)) lexWords [.slice (some ⟨w.heap.size, 0, none⟩) 24 24] [w.heap.size] :=
 slice_of_row (xs := lexWords) (Row.new w _ _) (repL_strs _ (fun s hs => by have := lexWords_small s hs; unfold maxLen; omega)) (by decide)
structure PStep where
 kind : Int
 line : Int
 pos : Int
 word : ByteArray
 old : ByteArray
 deriving DecidableEq
def pStep : Ty PStep := (int64.prod (int64.prod (int64.prod (str.prod str)))).via fun s => (s.kind, s.line, s.pos, s.word, s.old)
theorem pStep_rep {o : Bool} {w : World} {s : PStep} {cs : List Value} {F : List Nat} : pStep.rep o w s cs F ↔ cs = [.int .i64 s.kind, .int .i64 s.line, .int .i64 s.pos, .string s.word, .string s.old] ∧ F = [] ∧ I64 s.kind ∧ I64 s.line ∧ I64 s.pos ∧ s.word.size ≤ maxLen ∧ s.old.size ≤ maxLen := by
 constructor
 · rintro ⟨_, _, _, _, rfl, rfl, ⟨rfl, rfl, h0⟩, ⟨_, _, _, _, rfl, rfl, ⟨rfl, rfl, h1⟩, ⟨_, _, _, _, rfl, rfl, ⟨rfl, rfl, h2⟩, ⟨_, _, _, _, rfl, rfl, ⟨rfl, rfl, h3⟩, ⟨rfl, rfl, h4⟩⟩⟩⟩⟩
   exact ⟨rfl, rfl, h0, h1, h2, h3, h4⟩
 · rintro ⟨rfl, rfl, h0, h1, h2, h3, h4⟩
   exact ⟨_, _, [], [], rfl, rfl, ⟨rfl, rfl, h0⟩, ⟨_, _, [], [], rfl, rfl, ⟨rfl, rfl, h1⟩, ⟨_, _, [], [], rfl, rfl, ⟨rfl, rfl, h2⟩, ⟨_, _, [], [], rfl, rfl, ⟨rfl, rfl, h3⟩, ⟨rfl, rfl, h4⟩⟩⟩⟩⟩
def pSteps (e : TypeId) : Ty (List PStep) := pStep.slice e
theorem pSteps_open {o : Bool} {w : World} {e : TypeId} {xs : List PStep} {v : Value} {F : List Nat} (h : (pSteps e).rep o w xs [v] F) :
 ∃ A c, v = .slice A xs.length c ∧ xs.length ≤ c ∧ c ≤ maxLen ∧ ∀ k (hk : k < xs.length), ∃ b off, A = some ⟨b, off, none⟩ ∧ b < w.heap.size ∧ b ∈ F ∧
  w.cell? ⟨b, off + k * 5, none⟩ = some (.int .i64 xs[k].kind) ∧ w.cell? ⟨b, off + k * 5 + 1, none⟩ = some (.int .i64 xs[k].line) ∧ w.cell? ⟨b, off + k * 5 + 2, none⟩ = some (.int .i64 xs[k].pos) ∧ w.cell? ⟨b, off + k * 5 + 3, none⟩ = some (.string xs[k].word) ∧ w.cell? ⟨b, off + k * 5 + 4, none⟩ = some (.string xs[k].old) ∧ I64 xs[k].kind ∧ I64 xs[k].line ∧ I64 xs[k].pos ∧ xs[k].word.size ≤ maxLen ∧ xs[k].old.size ≤ maxLen := by
 obtain ⟨A, c, hv, h1, h2, h3⟩ := slice_open h
 refine ⟨A, c, hv, h1, h2, fun k hk => ?_⟩
 obtain ⟨b, off, ck, Fk, hA, hb, hin, hr, _, hc⟩ := h3 k hk
 obtain ⟨rfl, rfl, i0, i1, i2, i3, i4⟩ := pStep_rep.1 hr
 exact ⟨b, off, hA, hb, hin, hc 0 _ rfl, by rw [Nat.add_assoc]; exact hc 1 _ rfl, by rw [Nat.add_assoc]; exact hc 2 _ rfl, by rw [Nat.add_assoc]; exact hc 3 _ rfl, by rw [Nat.add_assoc]; exact hc 4 _ rfl, i0, i1, i2, i3, i4⟩
def pStepCells (s : PStep) : List Value := [.int .i64 s.kind, .int .i64 s.line, .int .i64 s.pos, .string s.word, .string s.old]
def pStepOk (s : PStep) : Prop := I64 s.kind ∧ I64 s.line ∧ I64 s.pos ∧ s.word.size ≤ maxLen ∧ s.old.size ≤ maxLen
theorem repL_pStep {o : Bool} {w : World} : ∀ (xs : List PStep), (∀ s ∈ xs, pStepOk s) → repL pStep o w xs (xs.flatMap pStepCells) []
 | [], _ => ⟨rfl, rfl⟩
 | s :: r, h => ⟨_, _, [], [], rfl, rfl, pStep_rep.2 ⟨rfl, rfl, h s (by simp)⟩, repL_pStep r (fun t ht => h t (by simp [ht]))⟩
theorem repL_pStep_inv {o : Bool} {w : World} : ∀ {xs : List PStep} {cs : List Value} {F : List Nat}, repL pStep o w xs cs F → cs = xs.flatMap pStepCells ∧ F = []
 | [], _, _, ⟨rfl, rfl⟩ => ⟨rfl, rfl⟩
 | s :: r, _, _, ⟨c1, c2, F1, F2, rfl, rfl, h1, h2⟩ => by
   obtain ⟨rfl, rfl, _⟩ := pStep_rep.1 h1
   obtain ⟨rfl, rfl⟩ := repL_pStep_inv h2
   exact ⟨rfl, rfl⟩
theorem pSteps_ok {o : Bool} {w : World} {e : TypeId} {xs : List PStep} {v : Value} {F : List Nat} (h : (pSteps e).rep o w xs [v] F) : ∀ s ∈ xs, pStepOk s := by
 obtain ⟨_, _, _, _, _, hr⟩ := pSteps_open h
 intro s hs
 obtain ⟨k, hk, rfl⟩ := List.getElem_of_mem hs
 obtain ⟨_, _, _, _, _, _, _, _, _, _, h⟩ := hr k hk
 exact h
def pStepW (s : PStep) : Nat := s.word.size + s.old.size
def szpStep (xs : List PStep) : Nat := xs.length + (xs.map pStepW).sum
end Go.Proofs.YtmopioaojdlnkaaDoor

/- Pages: UndoStep and RedoStep, in the program and in the reference. Conditions: none. -/
import Derived.Test.YtmopioaojdlnkaaDoorPgNewp
import Derived.Test.YtmopioaojdlnkaaDoorPgDo4p
namespace Go.Proofs.YtmopioaojdlnkaaDoor
open Go Go.RowKit
theorem slice_take {α : Type} {T : Ty α} {e : TypeId} {o : Bool} {w : World} {xs : List α} {A : Option Addr} {n c : Nat} {F : List Nat} (h : (T.slice e).rep o w xs [.slice A n c] F) (m : Nat) (hm : m ≤ xs.length) :
 ∃ F', (T.slice e).rep false w (xs.take m) [.slice A m c] F' := by
 obtain ⟨A', c', ec, F0, F1, hv, rfl, hl, hc, hr, hlt, ha, _⟩ := h
 simp only [List.cons.injEq, and_true, Value.slice.injEq] at hv
 obtain ⟨rfl, rfl, rfl⟩ := hv
 obtain ⟨Fa, Fb, rfl, h1, h2⟩ := repL_at hr m hm
 refine ⟨F0 ++ Fa, A, c, _, F0, Fa, by rw [List.length_take, Nat.min_eq_left hm], rfl, by rw [List.length_take]; omega, hc, repL_read h1, hlt, fun hn => ?_, fun h => by cases h⟩
 rw [List.length_take] at hn
 obtain ⟨b, off, rfl, hb, hcell⟩ := ha (by omega)
 refine ⟨b, off, rfl, hb, fun j u hu => hcell j u ?_⟩
 rw [List.getElem?_take] at hu
 split at hu
 · exact hu
 · cases hu
theorem fresh3 {a b c b' c' : Nat} {G1 G2 G3 : List Nat} (f1 : Fresh a G1) (l1 : ∀ x ∈ G1, x < b) (f2 : Fresh b' G2) (hb : b ≤ b') (l2 : ∀ x ∈ G2, x < c) (f3 : Fresh c' G3) (hc : c ≤ c') (hab : a ≤ b') (hac : a ≤ c') (hbc : b ≤ c') : Fresh a (G1 ++ (G2 ++ G3)) := by
 refine ⟨List.nodup_append.2 ⟨f1.1, List.nodup_append.2 ⟨f2.1, f3.1, fun x hx y hy e => ?_⟩, fun x hx y hy e => ?_⟩, fun x hx => ?_⟩
 · subst e; have := l2 _ hx; have := f3.2 _ hy; omega
 · subst e
   have := l1 _ hx
   rcases List.mem_append.1 hy with hy | hy
   · have := f2.2 _ hy; omega
   · have := f3.2 _ hy; omega
 · rcases List.mem_append.1 hx with hx | hx
   · exact f1.2 _ hx
   · rcases List.mem_append.1 hx with hx | hx
     · have := f2.2 _ hx; omega
     · have := f3.2 _ hx; omega
theorem last_take {xs : List PStep} {k : Nat} (h : xs.length = k + 1) : xs.getLast? = some (xs[k]'(by omega)) ∧ xs.dropLast = xs.take k := by
 have e : xs.length - 1 = k := by omega
 refine ⟨by rw [List.getLast?_eq_getElem?, e]; exact List.getElem?_eq_getElem _, by rw [List.dropLast_eq_take, e]⟩
section
variable {el es : TypeId} {o : Bool} {p : PPage} {a b c : Value} {F : List Nat} {w0 w w' : World}
theorem ed_stepped (h : PageIs el es o w p (.agg #[a, b, c]) F) (hok : LinesOk p.lines) (s : PStep) (hc : Can p.lines s) (hs : pStepOk s) :
 Calls Tryd.prog 20 #[a, .agg #[.int .i64 s.kind, .int .i64 s.line, .int .i64 s.pos, .string s.word, .string s.old]] w (Gives (pLines 56) (stepL p.lines s) w) := by
 obtain ⟨F1, F2, F3, -, h1, h2, h3⟩ := h.lines
 exact impl_stepped_c s w h1 hok hc hs.2.2.2.1
theorem ed_l27Apply (h : PageIs el es o w p (.agg #[a, b, c]) F) (hok : LinesOk p.lines) (s : PStep) (hc : Can p.lines s) (hs : pStepOk s) {gs : Nat} (hg : Row w gs 30 (pStepCells s)) :
 Calls Tryd.prog 63 #[a, .pointer (some ⟨gs, 0, none⟩)] w (Gives (pLines 56) (stepL p.lines s) w) := by
 obtain ⟨F1, F2, F3, -, h1, h2, h3⟩ := h.lines
 exact spec_l27Apply_c s w h1 hg hok hc hs.2.2.2.1
theorem edS (E : EdIs el es o p a b c F w0 w) {gs : Nat} {s : PStep} (R : Row w gs 30 (pStepCells s)) : w.cell? ⟨w0.heap.size, 0, none⟩ = some a ∧ w.cell? ⟨w0.heap.size, 1, none⟩ = some b ∧ w.cell? ⟨w0.heap.size, 2, none⟩ = some c ∧ w.cell? ⟨gs, 0, none⟩ = some (.int .i64 s.kind) ∧ w.cell? ⟨gs, 1, none⟩ = some (.int .i64 s.line) ∧ w.cell? ⟨gs, 2, none⟩ = some (.int .i64 s.pos) ∧ w.cell? ⟨gs, 3, none⟩ = some (.string s.word) ∧ w.cell? ⟨gs, 4, none⟩ = some (.string s.old) :=
 ⟨E.row.c0, E.row.c1, E.row.c2, R.c0, R.c1, R.c2, R.c3, R.c4⟩
theorem edS3 (E : EdIs el es o p a b c F w0 w) {gs : Nat} {s : PStep} (R : Row w gs 30 (pStepCells s)) (hg : w0.heap.size + 1 < gs) (x y z : Value) : let w2 := ((w.setCell ⟨w0.heap.size + 1, 0, none⟩ x).setCell ⟨w0.heap.size + 1, 1, none⟩ y).setCell ⟨w0.heap.size + 1, 2, none⟩ z
 w2.cell? ⟨w0.heap.size, 0, none⟩ = some a ∧ w2.cell? ⟨w0.heap.size, 1, none⟩ = some b ∧ w2.cell? ⟨w0.heap.size, 2, none⟩ = some c ∧ w2.cell? ⟨gs, 0, none⟩ = some (.int .i64 s.kind) ∧ w2.cell? ⟨gs, 1, none⟩ = some (.int .i64 s.line) ∧ w2.cell? ⟨gs, 2, none⟩ = some (.int .i64 s.pos) ∧ w2.cell? ⟨gs, 3, none⟩ = some (.string s.word) ∧ w2.cell? ⟨gs, 4, none⟩ = some (.string s.old) := by
 obtain ⟨h0, h1, h2, h3, h4, h5, h6, h7⟩ := edS E R
 have n1 : w0.heap.size ≠ w0.heap.size + 1 := by omega
 have n2 : gs ≠ w0.heap.size + 1 := by omega
 exact ⟨keep_set3 n1 h0, keep_set3 n1 h1, keep_set3 n1 h2, keep_set3 n2 h3, keep_set3 n2 h4, keep_set3 n2 h5, keep_set3 n2 h6, keep_set3 n2 h7⟩
end
set_option maxRecDepth 100000 in
set_option maxHeartbeats 1000000 in
theorem spec_l27Less_c {o : Bool} {e : TypeId} {xs : List PStep} {v : Value} {F : List Nat} (w : World) (h : (pSteps e).rep o w xs [v] F) (hx : xs.length ≤ 1000) (k : Nat) (hk : xs.length = k + 1) :
 Calls Tryd.prog 66 #[v] w (Gives (pSteps 30) (xs.take k) w) := by
 obtain ⟨A, c, rfl, hc1, hc2, -⟩ := pSteps_open h
 obtain ⟨F', h'⟩ := slice_take h k (by omega)
 obtain ⟨ys, hys, hl⟩ : ∃ ys, xs.take k = ys ∧ ys.length = k := ⟨_, rfl, by rw [List.length_take]; omega⟩
 rw [hys] at h' ⊢
 clear hys h
 subst hl
 generalize xs.length = n at *
 subst hk
 have hxo := pSteps_ok h'
 obtain ⟨ec, Gs, hs1, hs2, hs3⟩ := slice_src h'
 obtain ⟨rfl, rfl⟩ := repL_pStep_inv hs1
 have HX := Lib.hid (repL_pStep (o := true) (w := w) ys hxo)
 have HA := Lib.hid hs2
 unfold maxLen at hc2
 have kw : IntKind.i64.wrap ((ys.length : Int) + 1 - 1) = (ys.length : Int) := (IntWalk.i64_in _ (by omega)).trans (by omega)
 have g0 : (0 : Int) ≤ (ys.length : Int) := by omega
 have g1 : (ys.length : Int) ≤ (c : Int) := by omega
 have g2 : ys.length ≤ c := by omega
 clear h' hs1 hs2 hs3 hxo hc1
 go_enter Tryd.func66, Tryd.ntmps66
 go_wp2_with (at_builtin; refine wpList_append_rep (T := pStep) (e := 30) (ys := ys) rfl (.tmp 3) (.tmp 8) rfl Tryd.underlying25 Tryd.infoStep rfl (by decide) rfl (empty_at pStep _ _ (n := w.heap.size) rfl) rfl (repL_alloc HX.out _) (HA.out.alloc _) trivial (by simp) (by simp [maxLen]; omega) (by simp; omega) ?_; intro v2 w2 F2 r2 o2 q2; rw [List.nil_append] at r2)
 go_ret
 exact ⟨_, F2, rfl, r2, q2 _ ⟨by simp, by simp⟩ (by simp), ((Below.refl _ _).alloc (Nat.le_refl _) _).trans (o2.below (by simp) (by simp))⟩
def GivesPCF (r : PPage × Int) (w : World) (e : Ending) (w' : World) : Prop := ∃ v F, e = .returned (.tuple #[v, .int .i64 r.2]) ∧ PageIs 56 30 false w' r.1 v F ∧ (∀ x ∈ F, w.heap.size ≤ x) ∧ Below w.heap.size w w'
end Go.Proofs.YtmopioaojdlnkaaDoor

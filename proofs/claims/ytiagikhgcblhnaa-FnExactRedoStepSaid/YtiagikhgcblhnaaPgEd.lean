/- Pages: what the edits of a page have in common. Conditions: none. -/
import Derived.Test.YtiagikhgcblhnaaPgDo4
namespace Go.Proofs.Ytiagikhgcblhnaa
open Go Go.RowKit

/-- Inside an edit: the page that is its argument, the cells of its result, and that nothing old has changed. -/
structure EdIs (el es : TypeId) (o : Bool) (p : PPage) (a b c : Value) (F : List Nat) (w0 w : World) : Prop where
  row : Row w w0.heap.size 31 [a, b, c]
  out : Row w (w0.heap.size + 1) 31 [.slice none 0 0, .slice none 0 0, .slice none 0 0]
  pg : PageIs el es o w p (.agg #[a, b, c]) F
  low : Below w0.heap.size w0 w
section
variable {el es : TypeId} {o : Bool} {p : PPage} {a b c : Value} {F : List Nat} {w0 w w' : World}
theorem EdIs.new (h : PageIs el es o w p (.agg #[a, b, c]) F) : EdIs el es o p a b c F w ((w.alloc (.cells #[a, b, c] 31)).alloc (.cells #[.slice none 0 0, .slice none 0 0, .slice none 0 0] 31)) :=
  ⟨(Row.at' w _ [a, b, c] rfl).alloc _, Row.at' _ _ [_, _, _] (by simp), (h.alloc _).alloc _, ((Below.refl _ _).alloc (Nat.le_refl _) _).alloc (by simp) _⟩
theorem EdIs.later (h : EdIs el es o p a b c F w0 w) (hb : Below w.heap.size w w') : EdIs el es o p a b c F w0 w' :=
  ⟨h.row.later hb, h.out.later hb, h.pg.below hb, bt h.low hb⟩
theorem EdIs.drew (h : EdIs el es o p a b c F w0 w) : EdIs el es o p a b c F w0 w.drew := ⟨h.row.drew, h.out.drew, h.pg.drew, h.low.drew⟩
theorem EdIs.alloc (h : EdIs el es o p a b c F w0 w) (x : Obj) : EdIs el es o p a b c F w0 (w.alloc x) := ⟨h.row.alloc x, h.out.alloc x, h.pg.alloc x, h.low.alloc h.low.size x⟩
theorem EdIs.facts (h : EdIs el es o p a b c F w0 w) : w.cell? ⟨w0.heap.size, 0, none⟩ = some a ∧ w.cell? ⟨w0.heap.size, 1, none⟩ = some b ∧ w.cell? ⟨w0.heap.size, 2, none⟩ = some c ∧
    w.cell? ⟨w0.heap.size + 1, 0, none⟩ = some (.slice none 0 0) ∧ w.cell? ⟨w0.heap.size + 1, 1, none⟩ = some (.slice none 0 0) ∧ w.cell? ⟨w0.heap.size + 1, 2, none⟩ = some (.slice none 0 0) ∧ ∀ i, w.frozen? ⟨w0.heap.size + 1, i, none⟩ = false :=
  ⟨h.row.cell' (i := 0) rfl, h.row.cell' (i := 1) rfl, h.row.cell' (i := 2) rfl, h.out.cell' (i := 0) rfl, h.out.cell' (i := 1) rfl, h.out.cell' (i := 2) rfl, h.out.frozen⟩
theorem EdIs.off (h : EdIs el es o p a b c F w0 w) {C : Nat} {G : List Nat} (hC : w.heap.size ≤ C) (hG : ∀ x ∈ G, C ≤ x) : w0.heap.size + 1 ∉ G := fun hx => by
  have := h.out.lt
  have := hG _ hx
  omega
theorem ed_l27Ok (h : EdIs el es o p a b c F w0 w) (hp : PLaw p) : Calls Try.prog 36 #[.pointer (some ⟨w0.heap.size, 0, none⟩)] w fun e w' => e = .returned (.bool (validB p)) ∧ Below w.heap.size w w' := by
  obtain ⟨F1, F2, F3, -, h1, h2, h3⟩ := h.pg.lines
  exact spec_l27Ok_c w h.row h1 h2 h3 hp.s hp.b
theorem ed_l27Do (h : EdIs el es o p a b c F w0 w) (hv : validB p = true) (s : PStep) (hc : canB p.lines s = true) (hs : pStepOk s) {gs : Nat} (hg : Row w gs 43 (pStepCells s)) :
    Calls Try.prog 55 #[.pointer (some ⟨w0.heap.size, 0, none⟩), .pointer (some ⟨gs, 0, none⟩)] w (GivesPageR (doP p s) w) := by
  obtain ⟨F1, F2, F3, -, h1, h2, h3⟩ := h.pg.lines
  obtain ⟨hok, hd, -, -, -⟩ := validB_parts hv
  exact spec_l27Do_c s w h.row hg h1 h2 hok ((can_iff _ s).1 hc) hs (by omega)
theorem ed_doStep (h : PageIs el es o w p (.agg #[a, b, c]) F) (hv : validB p = true) (s : PStep) (hc : canB p.lines s = true) (hs : pStepOk s) :
    Calls Try.prog 57 #[.agg #[a, b, c], .agg #[.int .i64 s.kind, .int .i64 s.line, .int .i64 s.pos, .string s.word, .string s.old]] w (GivesPage (doP p s) w) := by
  obtain ⟨hok, hd, -, -, -⟩ := validB_parts hv
  exact impl_doStep_c s w h hok ((can_iff _ s).1 hc) hs (by omega)
/-- The word at a place, as cells. -/
theorem PageIs.word {A1 : Option Addr} {n1 k1 : Nat} (h : PageIs el es o w p (.agg #[.slice A1 n1 k1, b, c]) F) {n a' : Nat} (hn : n < p.lines.length) (ha : a' < p.lines[n].length) :
    ∃ g off g' off' c', A1 = some ⟨g, off, none⟩ ∧ w.cell? ⟨g, off + n, none⟩ = some (.slice (some ⟨g', off', none⟩) p.lines[n].length c') ∧ w.cell? ⟨g', off' + a', none⟩ = some (.string p.lines[n][a']) ∧ g < w.heap.size ∧ g' < w.heap.size ∧ p.lines[n][a'].size ≤ maxLen ∧ p.lines[n].length ≤ c' ∧ c' ≤ maxLen ∧ g ∈ F ∧ g' ∈ F := by
  obtain ⟨F1, F2, F3, hFF, h1, h2, h3⟩ := h.lines
  obtain ⟨A, k, e, _, _, hr⟩ := pLines_open h1
  cases e
  obtain ⟨g, off, u, Fk, rfl, hb, hi1, hrk, hi2, h0⟩ := hr n hn
  obtain ⟨A', c', rfl, hl1, hl2, hcell⟩ := strs_open hrk
  obtain ⟨g', off', rfl, hb', hi3, h0', hz⟩ := hcell a' ha
  exact ⟨g, off, g', off', c', rfl, h0, h0', hb, hb', hz, hl1, hl2, by rw [hFF]; simp [hi1], by rw [hFF]; simp [hi2 _ hi3]⟩
end
theorem keep_set3 {w : World} {g h i : Nat} {u a b c : Value} (hne : g ≠ h) (hu : w.cell? ⟨g, i, none⟩ = some u) : (((w.setCell ⟨h, 0, none⟩ a).setCell ⟨h, 1, none⟩ b).setCell ⟨h, 2, none⟩ c).cell? ⟨g, i, none⟩ = some u := by
  have hc : ∀ (w0 : World) (j : Nat) (x : Value), (w0.setCell ⟨h, j, none⟩ x).cell? ⟨g, i, none⟩ = w0.cell? ⟨g, i, none⟩ := by
    intro w0 j x
    simp only [World.cell?]
    rw [Below.heap_setCell w0 ⟨h, j, none⟩ x g hne]
  rw [hc, hc, hc]; exact hu
theorem countW_range {p : PPage} (hp : PLaw p) (n : Int) : -1 ≤ countW p n ∧ countW p n ≤ 1048576 := by
  unfold countW
  split
  · rename_i h
    obtain ⟨k, rfl⟩ := Int.eq_ofNat_of_zero_le h.1
    have hk : k < p.lines.length := by omega
    rw [lineAt_nat hk]
    have := hp.s.w _ (List.getElem_mem hk)
    omega
  · omega
theorem empty_small : ByteArray.empty.size ≤ maxLen := by decide
theorem i64_small {k : Int} (h : -1 ≤ k ∧ k ≤ 2000000) : I64 k := ⟨by omega, by omega⟩
theorem size_small {s : ByteArray} (h : s.size ≤ 1048576) : s.size ≤ maxLen := Nat.le_trans h (by decide)
end Go.Proofs.Ytiagikhgcblhnaa

/- NewPage of the program and of the reference. Conditions: none. -/
import Derived.Test.YtmopioaojdlnkaaDoorPgPushp
import Derived.Test.YtmopioaojdlnkaaDoorFpStepp
import Derived.Test.YtmopioaojdlnkaaDoorPgBackp
import Derived.Test.YtmopioaojdlnkaaDoorPgDo4p
namespace Go.Proofs.YtmopioaojdlnkaaDoor
open Go Go.RowKit
def newPage : PPage := ⟨[[]], [], []⟩
theorem newPage_is (w : World) {g : Nat} (hg : g = w.heap.size) : PageIs 56 30 true (w.alloc (.cells #[.slice none 0 0] 56)) newPage (.agg #[.slice (some ⟨g, 0, none⟩) 1 1, .slice none 0 0, .slice none 0 0]) [g] := by
 subst hg
 exact ⟨_, _, _, [w.heap.size], [], [], rfl, rfl, slice_of_row (xs := [[]]) (Row.new w _ _) (repL_single.2 (slice_nil _ _ _ _)) (by simp [maxLen]), slice_nil _ _ _ _, slice_nil _ _ _ _⟩
set_option maxHeartbeats 400000 in
theorem spec_NewPage_c (w : World) : Calls Tryd.prog 31 #[] w (GivesPage newPage w) := by
 go_enter Tryd.func31, Tryd.ntmps31
 go_wp2_with fail
 refine bodyPost_ret (v := .agg #[.slice (some ⟨w.heap.size + 1, 0, none⟩) 1 1, .slice none 0 0, .slice none 0 0]) (by simp [results, Tryd.results31, go_sem]) rfl ⟨_, [w.heap.size + 1], rfl, newPage_is _ (by simp), ⟨by simp, by simp⟩, ((Below.refl _ _).alloc (Nat.le_refl _) _).alloc (by simp) _⟩
structure DrP (p : PPage) : Prop where
 v : validB p = true
 d : ∀ s ∈ p.done, StepShort s
 u : ∀ s ∈ p.undone, StepShort s
theorem sum_le {α : Type} (f : α → Nat) (c : Nat) : ∀ xs : List α, (∀ x ∈ xs, f x ≤ c) → (xs.map f).sum ≤ xs.length * c
 | [], _ => by simp
 | a :: r, h => by
   have h1 := h a (by simp)
   have h2 := sum_le f c r (fun x hx => h x (by simp [hx]))
   simp only [List.map_cons, List.sum_cons, List.length_cons, Nat.add_mul]; omega
theorem DrP.law {p : PPage} (h : DrP p) : PLaw p := by
 obtain ⟨hok, hd, hu, -, -⟩ := validB_parts h.v
 have hw : wordsIn p.lines ≤ 240 := by
  have := sum_le List.length 12 p.lines (fun l hl => hok.each l hl)
  have := hok.few
  unfold wordsIn; omega
 have hf := hok.few
 refine ⟨⟨by omega, fun x hx => by have := hok.each x hx; omega, by omega, by omega, by omega⟩, ⟨fun l hl s hs => by have := word_size (hok.word l hl s hs); omega, fun s hs => ?_, fun s hs => ?_⟩, by unfold marksIn; omega⟩
 · have := h.d s hs; exact ⟨by have := this.2.1; omega, by have := this.2.2; omega⟩
 · have := h.u s hs; exact ⟨by have := this.2.1; omega, by have := this.2.2; omega⟩
theorem pushS_mem {l : List PStep} {s t : PStep} (h : t ∈ pushS l s) : t ∈ l ∨ t = s := by
 unfold pushS at h
 split at h
 · have := List.mem_of_mem_drop h; simpa using this
 · simpa using h
theorem DrP.done {p : PPage} (h : DrP p) {s : PStep} (hc : canB p.lines s = true) (hs : StepShort s) : DrP (doP p s) :=
 ⟨doP_valid h.v hc, fun t ht => (pushS_mem ht).elim (h.d t) (fun e => e ▸ hs), fun t ht => by cases ht⟩
theorem DrP.undo {p : PPage} (h : DrP p) (h0 : (undoR p).2 = 0) : DrP (undoR p).1 := by
 have hv := undo_valid h.v h0
 cases e : p.done.getLast? with
 | none => simp [undoR, h.v, e] at h0
 | some s =>
   have hs := List.mem_of_getLast? e
   have e2 : (undoR p).1 = ⟨stepL p.lines (oppS s), p.done.dropLast, pushS p.undone s⟩ := by simp [undoR, h.v, e]
   rw [e2] at hv ⊢
   exact ⟨hv, fun t ht => h.d t (List.dropLast_subset _ ht), fun t ht => (pushS_mem ht).elim (h.u t) (fun e => e ▸ h.d _ hs)⟩
theorem DrP.redo {p : PPage} (h : DrP p) (h0 : (redoR p).2 = 0) : DrP (redoR p).1 := by
 have hv := redo_valid h.v h0
 cases e : p.undone.getLast? with
 | none => simp [redoR, h.v, e] at h0
 | some s =>
   have hs := List.mem_of_getLast? e
   have e2 : (redoR p).1 = ⟨stepL p.lines s, pushS p.done s, p.undone.dropLast⟩ := by simp [redoR, h.v, e]
   rw [e2] at hv ⊢
   exact ⟨hv, fun t ht => (pushS_mem ht).elim (h.d t) (fun e => e ▸ h.u _ hs), fun t ht => h.u t (List.dropLast_subset _ ht)⟩
theorem DrP.new : DrP newPage := ⟨by decide, fun s hs => by simp [newPage] at hs, fun s hs => by simp [newPage] at hs⟩
structure EdIs (el es : TypeId) (o : Bool) (p : PPage) (a b c : Value) (F : List Nat) (w0 w : World) : Prop where
 row : Row w w0.heap.size 27 [a, b, c]
 out : Row w (w0.heap.size + 1) 27 [.slice none 0 0, .slice none 0 0, .slice none 0 0]
 pg : PageIs el es o w p (.agg #[a, b, c]) F
 low : Below w0.heap.size w0 w
section
variable {el es : TypeId} {o : Bool} {p : PPage} {a b c : Value} {F : List Nat} {w0 w w' : World}
theorem EdIs.new (h : PageIs el es o w p (.agg #[a, b, c]) F) : EdIs el es o p a b c F w ((w.alloc (.cells #[a, b, c] 27)).alloc (.cells #[.slice none 0 0, .slice none 0 0, .slice none 0 0] 27)) :=
 ⟨(Row.at' w _ [a, b, c] rfl).alloc _, Row.at' _ _ [_, _, _] (by simp), (h.alloc _).alloc _, ((Below.refl _ _).alloc (Nat.le_refl _) _).alloc (by simp) _⟩
theorem EdIs.later (h : EdIs el es o p a b c F w0 w) (hb : Below w.heap.size w w') : EdIs el es o p a b c F w0 w' :=
 ⟨h.row.later hb, h.out.later hb, h.pg.below hb, bt h.low hb⟩
theorem EdIs.drew (h : EdIs el es o p a b c F w0 w) : EdIs el es o p a b c F w0 w.drew := ⟨h.row.drew, h.out.drew, h.pg.drew, h.low.drew⟩
theorem EdIs.alloc (h : EdIs el es o p a b c F w0 w) (x : Obj) : EdIs el es o p a b c F w0 (w.alloc x) := ⟨h.row.alloc x, h.out.alloc x, h.pg.alloc x, h.low.alloc h.low.size x⟩
theorem EdIs.facts (h : EdIs el es o p a b c F w0 w) : w.cell? ⟨w0.heap.size, 0, none⟩ = some a ∧ w.cell? ⟨w0.heap.size, 1, none⟩ = some b ∧ w.cell? ⟨w0.heap.size, 2, none⟩ = some c ∧
 w.cell? ⟨w0.heap.size + 1, 0, none⟩ = some (.slice none 0 0) ∧ w.cell? ⟨w0.heap.size + 1, 1, none⟩ = some (.slice none 0 0) ∧ w.cell? ⟨w0.heap.size + 1, 2, none⟩ = some (.slice none 0 0) ∧ ∀ i, w.frozen? ⟨w0.heap.size + 1, i, none⟩ = false :=
 ⟨h.row.c0, h.row.c1, h.row.c2, h.out.c0, h.out.c1, h.out.c2, h.out.frozen⟩
theorem EdIs.off (h : EdIs el es o p a b c F w0 w) {C : Nat} {G : List Nat} (hC : w.heap.size ≤ C) (hG : ∀ x ∈ G, C ≤ x) : w0.heap.size + 1 ∉ G := fun hx => by
 have := h.out.lt
 have := hG _ hx
 omega
theorem ed_l27Ok (h : EdIs el es o p a b c F w0 w) (hp : PLaw p) : Calls Tryd.prog 24 #[.pointer (some ⟨w0.heap.size, 0, none⟩)] w fun e w' => e = .returned (.bool (validB p)) ∧ Below w.heap.size w w' := by
 obtain ⟨F1, F2, F3, -, h1, h2, h3⟩ := h.pg.lines
 exact spec_l27Ok_c w h.row h1 h2 h3 hp.s hp.b
theorem PageIs.word {A1 : Option Addr} {n1 k1 : Nat} (h : PageIs el es o w p (.agg #[.slice A1 n1 k1, b, c]) F) {n a' : Nat} (hn : n < p.lines.length) (ha : a' < p.lines[n].length) :
 ∃ g off g' off' c', A1 = some ⟨g, off, none⟩ ∧ w.cell? ⟨g, off + n, none⟩ = some (.slice (some ⟨g', off', none⟩) p.lines[n].length c') ∧ w.cell? ⟨g', off' + a', none⟩ = some (.string p.lines[n][a']) ∧ g < w.heap.size ∧ g' < w.heap.size ∧ p.lines[n][a'].size ≤ maxLen ∧ p.lines[n].length ≤ c' ∧ c' ≤ maxLen ∧ g ∈ F ∧ g' ∈ F := by
 obtain ⟨F1, F2, F3, hFF, h1, h2, h3⟩ := h.lines
 obtain ⟨A, k, e, _, _, hr⟩ := pLines_open h1
 cases e
 obtain ⟨g, off, u, Fk, rfl, hb, hi1, hrk, hi2, h0⟩ := hr n hn
 obtain ⟨A', c', rfl, hl1, hl2, hcell⟩ := strs_open hrk
 obtain ⟨g', off', rfl, hb', hi3, h0', hz⟩ := hcell a' ha
 exact ⟨g, off, g', off', c', rfl, h0, h0', hb, hb', hz, hl1, hl2, by rw [hFF]; simp [hi1], by rw [hFF]; simp [hi2 _ hi3]⟩
end
theorem keep_set3 {w : World} {g h i : Nat} {u a b c : Value} (hne : g ≠ h) (hu : w.cell? ⟨g, i, none⟩ = some u) : (((w.setCell ⟨h, 0, none⟩ a).setCell ⟨h, 1, none⟩ b).setCell ⟨h, 2, none⟩ c).cell? ⟨g, i, none⟩ = some u := by
 have hc : ∀ (w0 : World) (j : Nat) (x : Value), (w0.setCell ⟨h, j, none⟩ x).cell? ⟨g, i, none⟩ = w0.cell? ⟨g, i, none⟩ := by
  intro w0 j x
  simp only [World.cell?]
  rw [Below.heap_setCell w0 ⟨h, j, none⟩ x g hne]
 rw [hc, hc, hc]; exact hu
end Go.Proofs.YtmopioaojdlnkaaDoor

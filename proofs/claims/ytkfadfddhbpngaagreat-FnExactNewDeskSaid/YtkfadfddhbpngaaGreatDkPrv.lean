/- A desk's value in memory, as one predicate. Conditions: none. -/
import Derived.Test.YtkfadfddhbpngaaGreatPgApplyv
namespace Go.Proofs.YtkfadfddhbpngaaGreat
open Go Go.RowKit

/-- The types of the elements: the law's or the program's. -/
structure DIds where
 i : Ids
 ln : TypeId
 sp : TypeId
abbrev didsI : DIds := ⟨idsI, 147, 159⟩

/-- A Desk's value. -/
def DeskIs (I : DIds) (o : Bool) (w : World) (p : PDesk) (v : Value) (F : List Nat) : Prop :=
 ∃ a0 a1 a2 a3 a4 a5 a6 a7 a8 F0 F1 F2 F3 F4 F5 F6 F7 F8, v = .agg #[.int .i64 p.session.setup.band, a0, .int .i64 p.session.setup.points, .int .i64 p.session.setup.most, .int .i64 p.session.setup.pen, a1, .int .i64 p.session.setup.dflt, a2, .int .i64 p.session.setup.pause, a3, a4, .int .i64 p.session.time, a5, a6, a7, a8] ∧ F = F0 ++ (F1 ++ (F2 ++ (F3 ++ (F4 ++ (F5 ++ (F6 ++ (F7 ++ F8))))))) ∧ (pTemps I.i.ft I.i.tm).rep o w p.session.setup.temps [a0] F0 ∧ (pEntrys I.i.en).rep o w p.session.setup.entries [a1] F1 ∧ (pBigrams I.i.bg).rep o w p.session.setup.bigrams [a2] F2 ∧ (pStrokes I.i.pt I.i.st).rep o w p.session.strokes [a3] F3 ∧ (pPoints I.i.pt).rep o w p.session.opn [a4] F4 ∧ (strs 9).rep o w p.session.words [a5] F5 ∧ (pLines I.ln).rep o w p.page.lines [a6] F6 ∧ (pSteps I.sp).rep o w p.page.done [a7] F7 ∧ (pSteps I.sp).rep o w p.page.undone [a8] F8
section
variable {I : DIds} {o : Bool} {w w' : World} {p : PDesk} {v : Value} {F G : List Nat}
theorem DeskIs.below (h : DeskIs I o w p v F) (hb : Below w.heap.size w w') : DeskIs I o w' p v F := by
 obtain ⟨a0, a1, a2, a3, a4, a5, a6, a7, a8, F0, F1, F2, F3, F4, F5, F6, F7, F8, rfl, rfl, h0, h1, h2, h3, h4, h5, h6, h7, h8⟩ := h
 exact ⟨a0, a1, a2, a3, a4, a5, a6, a7, a8, F0, F1, F2, F3, F4, F5, F6, F7, F8, rfl, rfl, h0.below hb, h1.below hb, h2.below hb, h3.below hb, h4.below hb, h5.below hb, h6.below hb, h7.below hb, h8.below hb⟩
theorem DeskIs.alloc (h : DeskIs I o w p v F) (x : Obj) : DeskIs I o (w.alloc x) p v F := by
 obtain ⟨a0, a1, a2, a3, a4, a5, a6, a7, a8, F0, F1, F2, F3, F4, F5, F6, F7, F8, rfl, rfl, h0, h1, h2, h3, h4, h5, h6, h7, h8⟩ := h
 exact ⟨a0, a1, a2, a3, a4, a5, a6, a7, a8, F0, F1, F2, F3, F4, F5, F6, F7, F8, rfl, rfl, h0.alloc x, h1.alloc x, h2.alloc x, h3.alloc x, h4.alloc x, h5.alloc x, h6.alloc x, h7.alloc x, h8.alloc x⟩
theorem DeskIs.drew (h : DeskIs I o w p v F) : DeskIs I o w.drew p v F := by
 obtain ⟨a0, a1, a2, a3, a4, a5, a6, a7, a8, F0, F1, F2, F3, F4, F5, F6, F7, F8, rfl, rfl, h0, h1, h2, h3, h4, h5, h6, h7, h8⟩ := h
 exact ⟨a0, a1, a2, a3, a4, a5, a6, a7, a8, F0, F1, F2, F3, F4, F5, F6, F7, F8, rfl, rfl, h0.drew, h1.drew, h2.drew, h3.drew, h4.drew, h5.drew, h6.drew, h7.drew, h8.drew⟩
theorem DeskIs.drewN (h : DeskIs I o w p v F) (n : Nat) : DeskIs I o (w.drewN n) p v F := by
 obtain ⟨a0, a1, a2, a3, a4, a5, a6, a7, a8, F0, F1, F2, F3, F4, F5, F6, F7, F8, rfl, rfl, h0, h1, h2, h3, h4, h5, h6, h7, h8⟩ := h
 exact ⟨a0, a1, a2, a3, a4, a5, a6, a7, a8, F0, F1, F2, F3, F4, F5, F6, F7, F8, rfl, rfl, h0.drewN n, h1.drewN n, h2.drewN n, h3.drewN n, h4.drewN n, h5.drewN n, h6.drewN n, h7.drewN n, h8.drewN n⟩
theorem DeskIs.only (h : DeskIs I o w p v F) (hb : Only G w w') (hd : ∀ x ∈ F, x ∉ G) : DeskIs I o w' p v F := by
 obtain ⟨a0, a1, a2, a3, a4, a5, a6, a7, a8, F0, F1, F2, F3, F4, F5, F6, F7, F8, rfl, rfl, h0, h1, h2, h3, h4, h5, h6, h7, h8⟩ := h
 exact ⟨a0, a1, a2, a3, a4, a5, a6, a7, a8, F0, F1, F2, F3, F4, F5, F6, F7, F8, rfl, rfl, h0.only hb (fun x hx => hd x (by simp [hx])), h1.only hb (fun x hx => hd x (by simp [hx])), h2.only hb (fun x hx => hd x (by simp [hx])), h3.only hb (fun x hx => hd x (by simp [hx])), h4.only hb (fun x hx => hd x (by simp [hx])), h5.only hb (fun x hx => hd x (by simp [hx])), h6.only hb (fun x hx => hd x (by simp [hx])), h7.only hb (fun x hx => hd x (by simp [hx])), h8.only hb (fun x hx => hd x (by simp [hx]))⟩
theorem DeskIs.blocks (h : DeskIs I o w p v F) : ∀ x ∈ F, x < w.heap.size := by
 obtain ⟨a0, a1, a2, a3, a4, a5, a6, a7, a8, F0, F1, F2, F3, F4, F5, F6, F7, F8, rfl, rfl, h0, h1, h2, h3, h4, h5, h6, h7, h8⟩ := h
 intro x hx
 repeat' (rcases List.mem_append.1 hx with hx | hx)
 all_goals first | exact h0.blocks x hx | exact h1.blocks x hx | exact h2.blocks x hx | exact h3.blocks x hx | exact h4.blocks x hx | exact h5.blocks x hx | exact h6.blocks x hx | exact h7.blocks x hx | exact h8.blocks x hx
theorem DeskIs.shape (h : DeskIs I o w p v F) : ∃ A0 k0 A1 k1 A2 k2 A3 k3 A4 k4 A5 k5 A6 k6 A7 k7 A8 k8, v = .agg #[.int .i64 p.session.setup.band, .slice A0 p.session.setup.temps.length k0, .int .i64 p.session.setup.points, .int .i64 p.session.setup.most, .int .i64 p.session.setup.pen, .slice A1 p.session.setup.entries.length k1, .int .i64 p.session.setup.dflt, .slice A2 p.session.setup.bigrams.length k2, .int .i64 p.session.setup.pause, .slice A3 p.session.strokes.length k3, .slice A4 p.session.opn.length k4, .int .i64 p.session.time, .slice A5 p.session.words.length k5, .slice A6 p.page.lines.length k6, .slice A7 p.page.done.length k7, .slice A8 p.page.undone.length k8] := by
 obtain ⟨a0, a1, a2, a3, a4, a5, a6, a7, a8, F0, F1, F2, F3, F4, F5, F6, F7, F8, rfl, rfl, h0, h1, h2, h3, h4, h5, h6, h7, h8⟩ := h
 obtain ⟨A0, k0, rfl⟩ := slice_len h0
 obtain ⟨A1, k1, rfl⟩ := slice_len h1
 obtain ⟨A2, k2, rfl⟩ := slice_len h2
 obtain ⟨A3, k3, rfl⟩ := slice_len h3
 obtain ⟨A4, k4, rfl⟩ := slice_len h4
 obtain ⟨A5, k5, rfl⟩ := slice_len h5
 obtain ⟨A6, k6, rfl⟩ := slice_len h6
 obtain ⟨A7, k7, rfl⟩ := slice_len h7
 obtain ⟨A8, k8, rfl⟩ := slice_len h8
 exact ⟨A0, k0, A1, k1, A2, k2, A3, k3, A4, k4, A5, k5, A6, k6, A7, k7, A8, k8, rfl⟩
theorem DeskIs.parts (h : DeskIs I o w p v F) : ∃ a0 a1 a2 a3 a4 a5 a6 a7 a8 F0 F1 F2 F3 F4 F5 F6 F7 F8, v = .agg #[.int .i64 p.session.setup.band, a0, .int .i64 p.session.setup.points, .int .i64 p.session.setup.most, .int .i64 p.session.setup.pen, a1, .int .i64 p.session.setup.dflt, a2, .int .i64 p.session.setup.pause, a3, a4, .int .i64 p.session.time, a5, a6, a7, a8] ∧ F = F0 ++ (F1 ++ (F2 ++ (F3 ++ (F4 ++ (F5 ++ (F6 ++ (F7 ++ F8))))))) ∧ (pTemps I.i.ft I.i.tm).rep o w p.session.setup.temps [a0] F0 ∧ (pEntrys I.i.en).rep o w p.session.setup.entries [a1] F1 ∧ (pBigrams I.i.bg).rep o w p.session.setup.bigrams [a2] F2 ∧ (pStrokes I.i.pt I.i.st).rep o w p.session.strokes [a3] F3 ∧ (pPoints I.i.pt).rep o w p.session.opn [a4] F4 ∧ (strs 9).rep o w p.session.words [a5] F5 ∧ (pLines I.ln).rep o w p.page.lines [a6] F6 ∧ (pSteps I.sp).rep o w p.page.done [a7] F7 ∧ (pSteps I.sp).rep o w p.page.undone [a8] F8 := h
end
/-- A Desk in memory of its own. -/
def GivesDesk (p : PDesk) (w : World) (e : Ending) (w' : World) : Prop := ∃ v F, e = .returned v ∧ DeskIs didsI true w' p v F ∧ Fresh w.heap.size F ∧ Below w.heap.size w w'
theorem DeskIs.split {I : DIds} {o : Bool} {w : World} {p : PDesk} {F : List Nat} {a b c d g x l m n : Value} (h : DeskIs I o w p (.agg #[.int .i64 p.session.setup.band, a, .int .i64 p.session.setup.points, .int .i64 p.session.setup.most, .int .i64 p.session.setup.pen, b, .int .i64 p.session.setup.dflt, c, .int .i64 p.session.setup.pause, d, g, .int .i64 p.session.time, x, l, m, n]) F) : ∃ F1 F2, F = F1 ++ F2 ∧ SessIs I.i o w p.session (.agg #[.int .i64 p.session.setup.band, a, .int .i64 p.session.setup.points, .int .i64 p.session.setup.most, .int .i64 p.session.setup.pen, b, .int .i64 p.session.setup.dflt, c, .int .i64 p.session.setup.pause, d, g, .int .i64 p.session.time, x]) F1 ∧ PageIs I.ln I.sp o w p.page (.agg #[l, m, n]) F2 := by
 obtain ⟨e0, e1, e2, e3, e4, e5, e6, e7, e8, F0, F1, F2, F3, F4, F5, F6, F7, F8, he, rfl, h1, h2, h3, h4, h5, h6, h7, h8, h9⟩ := h
 simp only [Value.agg.injEq, Array.mk.injEq, List.cons.injEq, and_true, true_and] at he
 obtain ⟨rfl, rfl, rfl, rfl, rfl, rfl, rfl, rfl, rfl⟩ := he
 exact ⟨F0 ++ (F1 ++ (F2 ++ (F3 ++ (F4 ++ F5)))), F6 ++ (F7 ++ F8), by simp only [List.append_assoc], ⟨a, b, c, d, g, x, F0, F1, F2, F3, F4, F5, rfl, rfl, h1, h2, h3, h4, h5, h6⟩, ⟨l, m, n, F6, F7, F8, rfl, rfl, h7, h8, h9⟩⟩
/-- A desk from its session and its page. -/
theorem DeskIs.join {I : DIds} {o : Bool} {w : World} {p : PDesk} {F1 F2 : List Nat} {s0 s1 s2 s3 s4 s5 s6 s7 s8 s9 s10 s11 s12 l m n : Value} (hs : SessIs I.i o w p.session (.agg #[s0, s1, s2, s3, s4, s5, s6, s7, s8, s9, s10, s11, s12]) F1) (hg : PageIs I.ln I.sp o w p.page (.agg #[l, m, n]) F2) : DeskIs I o w p (.agg #[s0, s1, s2, s3, s4, s5, s6, s7, s8, s9, s10, s11, s12, l, m, n]) (F1 ++ F2) := by
 obtain ⟨a0, a1, a2, a3, a4, a5, H0, H1, H2, H3, H4, H5, he, rfl, h0, h1, h2, h3, h4, h5⟩ := hs
 obtain ⟨b0, b1, b2, K0, K1, K2, hf, rfl, k0, k1, k2⟩ := hg
 simp only [Value.agg.injEq, Array.mk.injEq, List.cons.injEq, and_true] at he hf
 obtain ⟨rfl, rfl, rfl, rfl, rfl, rfl, rfl, rfl, rfl, rfl, rfl, rfl, rfl⟩ := he
 obtain ⟨rfl, rfl, rfl⟩ := hf
 exact ⟨_, _, _, _, _, _, _, _, _, H0, H1, H2, H3, H4, H5, K0, K1, K2, rfl, by simp only [List.append_assoc], h0, h1, h2, h3, h4, h5, k0, k1, k2⟩
end Go.Proofs.YtkfadfddhbpngaaGreat

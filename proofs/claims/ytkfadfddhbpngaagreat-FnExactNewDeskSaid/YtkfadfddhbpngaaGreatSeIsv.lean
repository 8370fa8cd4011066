/- A setup's and a session's value in memory, as one predicate. Conditions: none. -/
import Derived.Test.YtkfadfddhbpngaaGreatTyInkv
import Derived.Test.YtkfadfddhbpngaaGreatSeEqv
namespace Go.Proofs.YtkfadfddhbpngaaGreat
open Go Go.RowKit

/-- The types of the elements: the law's or the program's. -/
structure Ids where
 ft : TypeId
 tm : TypeId
 en : TypeId
 bg : TypeId
 pt : TypeId
 st : TypeId
abbrev idsI : Ids := ⟨224, 215, 183, 186, 155, 141⟩
theorem kb {w2 w3 : World} {b o : Nat} {u : Value} (o3 : Below w2.heap.size w2 w3) (hb : b < w2.heap.size) (hu : w2.cell? ⟨b, o, none⟩ = some u) : w3.cell? ⟨b, o, none⟩ = some u := (o3.cell (p := ⟨b, o, none⟩) hb).trans hu

/-- A Setup's value. -/
def SetupIs (I : Ids) (o : Bool) (w : World) (p : PSetup) (v : Value) (F : List Nat) : Prop :=
 ∃ a0 a1 a2 F0 F1 F2, v = .agg #[.int .i64 p.band, a0, .int .i64 p.points, .int .i64 p.most, .int .i64 p.pen, a1, .int .i64 p.dflt, a2, .int .i64 p.pause] ∧ F = F0 ++ (F1 ++ F2) ∧ (pTemps I.ft I.tm).rep o w p.temps [a0] F0 ∧ (pEntrys I.en).rep o w p.entries [a1] F1 ∧ (pBigrams I.bg).rep o w p.bigrams [a2] F2
section
variable {I : Ids} {o : Bool} {w w' : World} {p : PSetup} {v : Value} {F G : List Nat}
theorem SetupIs.below (h : SetupIs I o w p v F) (hb : Below w.heap.size w w') : SetupIs I o w' p v F := by
 obtain ⟨a0, a1, a2, F0, F1, F2, rfl, rfl, h0, h1, h2⟩ := h
 exact ⟨a0, a1, a2, F0, F1, F2, rfl, rfl, h0.below hb, h1.below hb, h2.below hb⟩
theorem SetupIs.alloc (h : SetupIs I o w p v F) (x : Obj) : SetupIs I o (w.alloc x) p v F := by
 obtain ⟨a0, a1, a2, F0, F1, F2, rfl, rfl, h0, h1, h2⟩ := h
 exact ⟨a0, a1, a2, F0, F1, F2, rfl, rfl, h0.alloc x, h1.alloc x, h2.alloc x⟩
theorem SetupIs.drew (h : SetupIs I o w p v F) : SetupIs I o w.drew p v F := by
 obtain ⟨a0, a1, a2, F0, F1, F2, rfl, rfl, h0, h1, h2⟩ := h
 exact ⟨a0, a1, a2, F0, F1, F2, rfl, rfl, h0.drew, h1.drew, h2.drew⟩
theorem SetupIs.drewN (h : SetupIs I o w p v F) (n : Nat) : SetupIs I o (w.drewN n) p v F := by
 obtain ⟨a0, a1, a2, F0, F1, F2, rfl, rfl, h0, h1, h2⟩ := h
 exact ⟨a0, a1, a2, F0, F1, F2, rfl, rfl, h0.drewN n, h1.drewN n, h2.drewN n⟩
theorem SetupIs.only (h : SetupIs I o w p v F) (hb : Only G w w') (hd : ∀ x ∈ F, x ∉ G) : SetupIs I o w' p v F := by
 obtain ⟨a0, a1, a2, F0, F1, F2, rfl, rfl, h0, h1, h2⟩ := h
 exact ⟨a0, a1, a2, F0, F1, F2, rfl, rfl, h0.only hb (fun x hx => hd x (by simp [hx])), h1.only hb (fun x hx => hd x (by simp [hx])), h2.only hb (fun x hx => hd x (by simp [hx]))⟩
theorem SetupIs.blocks (h : SetupIs I o w p v F) : ∀ x ∈ F, x < w.heap.size := by
 obtain ⟨a0, a1, a2, F0, F1, F2, rfl, rfl, h0, h1, h2⟩ := h
 intro x hx
 repeat' (rcases List.mem_append.1 hx with hx | hx)
 all_goals first | exact h0.blocks x hx | exact h1.blocks x hx | exact h2.blocks x hx
theorem SetupIs.shape (h : SetupIs I o w p v F) : ∃ A0 k0 A1 k1 A2 k2, v = .agg #[.int .i64 p.band, .slice A0 p.temps.length k0, .int .i64 p.points, .int .i64 p.most, .int .i64 p.pen, .slice A1 p.entries.length k1, .int .i64 p.dflt, .slice A2 p.bigrams.length k2, .int .i64 p.pause] := by
 obtain ⟨a0, a1, a2, F0, F1, F2, rfl, rfl, h0, h1, h2⟩ := h
 obtain ⟨A0, k0, rfl⟩ := slice_len h0
 obtain ⟨A1, k1, rfl⟩ := slice_len h1
 obtain ⟨A2, k2, rfl⟩ := slice_len h2
 exact ⟨A0, k0, A1, k1, A2, k2, rfl⟩
theorem SetupIs.parts (h : SetupIs I o w p v F) : ∃ a0 a1 a2 F0 F1 F2, v = .agg #[.int .i64 p.band, a0, .int .i64 p.points, .int .i64 p.most, .int .i64 p.pen, a1, .int .i64 p.dflt, a2, .int .i64 p.pause] ∧ F = F0 ++ (F1 ++ F2) ∧ (pTemps I.ft I.tm).rep o w p.temps [a0] F0 ∧ (pEntrys I.en).rep o w p.entries [a1] F1 ∧ (pBigrams I.bg).rep o w p.bigrams [a2] F2 := h
end
/-- A Session's value. -/
def SessIs (I : Ids) (o : Bool) (w : World) (p : PSess) (v : Value) (F : List Nat) : Prop :=
 ∃ a0 a1 a2 a3 a4 a5 F0 F1 F2 F3 F4 F5, v = .agg #[.int .i64 p.setup.band, a0, .int .i64 p.setup.points, .int .i64 p.setup.most, .int .i64 p.setup.pen, a1, .int .i64 p.setup.dflt, a2, .int .i64 p.setup.pause, a3, a4, .int .i64 p.time, a5] ∧ F = F0 ++ (F1 ++ (F2 ++ (F3 ++ (F4 ++ F5)))) ∧ (pTemps I.ft I.tm).rep o w p.setup.temps [a0] F0 ∧ (pEntrys I.en).rep o w p.setup.entries [a1] F1 ∧ (pBigrams I.bg).rep o w p.setup.bigrams [a2] F2 ∧ (pStrokes I.pt I.st).rep o w p.strokes [a3] F3 ∧ (pPoints I.pt).rep o w p.opn [a4] F4 ∧ (strs 9).rep o w p.words [a5] F5
section
variable {I : Ids} {o : Bool} {w w' : World} {p : PSess} {v : Value} {F G : List Nat}
theorem SessIs.below (h : SessIs I o w p v F) (hb : Below w.heap.size w w') : SessIs I o w' p v F := by
 obtain ⟨a0, a1, a2, a3, a4, a5, F0, F1, F2, F3, F4, F5, rfl, rfl, h0, h1, h2, h3, h4, h5⟩ := h
 exact ⟨a0, a1, a2, a3, a4, a5, F0, F1, F2, F3, F4, F5, rfl, rfl, h0.below hb, h1.below hb, h2.below hb, h3.below hb, h4.below hb, h5.below hb⟩
theorem SessIs.alloc (h : SessIs I o w p v F) (x : Obj) : SessIs I o (w.alloc x) p v F := by
 obtain ⟨a0, a1, a2, a3, a4, a5, F0, F1, F2, F3, F4, F5, rfl, rfl, h0, h1, h2, h3, h4, h5⟩ := h
 exact ⟨a0, a1, a2, a3, a4, a5, F0, F1, F2, F3, F4, F5, rfl, rfl, h0.alloc x, h1.alloc x, h2.alloc x, h3.alloc x, h4.alloc x, h5.alloc x⟩
theorem SessIs.drew (h : SessIs I o w p v F) : SessIs I o w.drew p v F := by
 obtain ⟨a0, a1, a2, a3, a4, a5, F0, F1, F2, F3, F4, F5, rfl, rfl, h0, h1, h2, h3, h4, h5⟩ := h
 exact ⟨a0, a1, a2, a3, a4, a5, F0, F1, F2, F3, F4, F5, rfl, rfl, h0.drew, h1.drew, h2.drew, h3.drew, h4.drew, h5.drew⟩
theorem SessIs.drewN (h : SessIs I o w p v F) (n : Nat) : SessIs I o (w.drewN n) p v F := by
 obtain ⟨a0, a1, a2, a3, a4, a5, F0, F1, F2, F3, F4, F5, rfl, rfl, h0, h1, h2, h3, h4, h5⟩ := h
 exact ⟨a0, a1, a2, a3, a4, a5, F0, F1, F2, F3, F4, F5, rfl, rfl, h0.drewN n, h1.drewN n, h2.drewN n, h3.drewN n, h4.drewN n, h5.drewN n⟩
theorem SessIs.only (h : SessIs I o w p v F) (hb : Only G w w') (hd : ∀ x ∈ F, x ∉ G) : SessIs I o w' p v F := by
 obtain ⟨a0, a1, a2, a3, a4, a5, F0, F1, F2, F3, F4, F5, rfl, rfl, h0, h1, h2, h3, h4, h5⟩ := h
 exact ⟨a0, a1, a2, a3, a4, a5, F0, F1, F2, F3, F4, F5, rfl, rfl, h0.only hb (fun x hx => hd x (by simp [hx])), h1.only hb (fun x hx => hd x (by simp [hx])), h2.only hb (fun x hx => hd x (by simp [hx])), h3.only hb (fun x hx => hd x (by simp [hx])), h4.only hb (fun x hx => hd x (by simp [hx])), h5.only hb (fun x hx => hd x (by simp [hx]))⟩
theorem SessIs.blocks (h : SessIs I o w p v F) : ∀ x ∈ F, x < w.heap.size := by
 obtain ⟨a0, a1, a2, a3, a4, a5, F0, F1, F2, F3, F4, F5, rfl, rfl, h0, h1, h2, h3, h4, h5⟩ := h
 intro x hx
 repeat' (rcases List.mem_append.1 hx with hx | hx)
 all_goals first | exact h0.blocks x hx | exact h1.blocks x hx | exact h2.blocks x hx | exact h3.blocks x hx | exact h4.blocks x hx | exact h5.blocks x hx
theorem SessIs.shape (h : SessIs I o w p v F) : ∃ A0 k0 A1 k1 A2 k2 A3 k3 A4 k4 A5 k5, v = .agg #[.int .i64 p.setup.band, .slice A0 p.setup.temps.length k0, .int .i64 p.setup.points, .int .i64 p.setup.most, .int .i64 p.setup.pen, .slice A1 p.setup.entries.length k1, .int .i64 p.setup.dflt, .slice A2 p.setup.bigrams.length k2, .int .i64 p.setup.pause, .slice A3 p.strokes.length k3, .slice A4 p.opn.length k4, .int .i64 p.time, .slice A5 p.words.length k5] := by
 obtain ⟨a0, a1, a2, a3, a4, a5, F0, F1, F2, F3, F4, F5, rfl, rfl, h0, h1, h2, h3, h4, h5⟩ := h
 obtain ⟨A0, k0, rfl⟩ := slice_len h0
 obtain ⟨A1, k1, rfl⟩ := slice_len h1
 obtain ⟨A2, k2, rfl⟩ := slice_len h2
 obtain ⟨A3, k3, rfl⟩ := slice_len h3
 obtain ⟨A4, k4, rfl⟩ := slice_len h4
 obtain ⟨A5, k5, rfl⟩ := slice_len h5
 exact ⟨A0, k0, A1, k1, A2, k2, A3, k3, A4, k4, A5, k5, rfl⟩
theorem SessIs.parts (h : SessIs I o w p v F) : ∃ a0 a1 a2 a3 a4 a5 F0 F1 F2 F3 F4 F5, v = .agg #[.int .i64 p.setup.band, a0, .int .i64 p.setup.points, .int .i64 p.setup.most, .int .i64 p.setup.pen, a1, .int .i64 p.setup.dflt, a2, .int .i64 p.setup.pause, a3, a4, .int .i64 p.time, a5] ∧ F = F0 ++ (F1 ++ (F2 ++ (F3 ++ (F4 ++ F5)))) ∧ (pTemps I.ft I.tm).rep o w p.setup.temps [a0] F0 ∧ (pEntrys I.en).rep o w p.setup.entries [a1] F1 ∧ (pBigrams I.bg).rep o w p.setup.bigrams [a2] F2 ∧ (pStrokes I.pt I.st).rep o w p.strokes [a3] F3 ∧ (pPoints I.pt).rep o w p.opn [a4] F4 ∧ (strs 9).rep o w p.words [a5] F5 := h
end
/-- A Setup in memory of its own. -/
def GivesSetup (p : PSetup) (w : World) (e : Ending) (w' : World) : Prop := ∃ v F, e = .returned v ∧ SetupIs idsI true w' p v F ∧ Fresh w.heap.size F ∧ Below w.heap.size w w'
theorem eqSession_p {I J : Ids} {oa ob : Bool} {p q : PSess} {v u : Value} {F G : List Nat} (w : World) (h : SessIs I oa w p v F) (h' : SessIs J ob w q u G) (hp : SsSmall p) (hq : SsSmall q) : Calls Tryz.prog 20 #[v, u] w fun e w' => e = .returned (.bool (sameSessB p q)) ∧ Below w.heap.size w w' := by
 obtain ⟨a0, a1, a2, a3, a4, a5, F0, F1, F2, F3, F4, F5, rfl, rfl, h0, h1, h2, h3, h4, h5⟩ := h
 obtain ⟨b0, b1, b2, b3, b4, b5, G0, G1, G2, G3, G4, G5, rfl, rfl, k0, k1, k2, k3, k4, k5⟩ := h'
 exact eqSession_c w h0 h1 h2 h3 h4 h5 k0 k1 k2 k3 k4 k5 hp hq
end Go.Proofs.YtkfadfddhbpngaaGreat

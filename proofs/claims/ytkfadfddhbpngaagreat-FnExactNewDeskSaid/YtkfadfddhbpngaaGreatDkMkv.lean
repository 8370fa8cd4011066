/- The law's own mark and held over desks. Conditions: none. -/
import Derived.Test.YtkfadfddhbpngaaGreatDkIsv
import Derived.Test.YtkfadfddhbpngaaGreatSeMkv
namespace Go.Proofs.YtkfadfddhbpngaaGreat
open Go Go.RowKit


/-- Marks in place of what a Desk holds. -/
def markDesk (d : PDesk) (s : Nat) : PDesk := { d with session := markSession d.session s, page := markP d.page (s + marksSession d.session) }
/-- How many marks it takes. -/
def marksDesk (d : PDesk) : Nat := marksSession d.session + marksIn d.page
set_option maxRecDepth 100000 in
set_option maxHeartbeats 4000000 in
theorem markDesk_s {bg en ft ln op pt sp st tm : TypeId} {d : PDesk} {a0 a1 a2 a3 a4 a5 a6 a7 a8 : Value} {F0 F1 F2 F3 F4 F5 F6 F7 F8 : List Nat} (w : World) (h0 : (pTemps ft tm).rep true w d.session.setup.temps [a0] F0) (h1 : (pEntrys en).rep true w d.session.setup.entries [a1] F1) (h2 : (pBigrams bg).rep true w d.session.setup.bigrams [a2] F2) (h3 : (pStrokes pt st).rep true w d.session.strokes [a3] F3) (h4 : (pPoints op).rep true w d.session.opn [a4] F4) (h5 : (strs 9).rep true w d.session.words [a5] F5) (h6 : (pLines ln).rep true w d.page.lines [a6] F6) (h7 : (pSteps sp).rep true w d.page.done [a7] F7) (h8 : (pSteps sp).rep true w d.page.undone [a8] F8) (hnd : (F0 ++ (F1 ++ (F2 ++ (F3 ++ (F4 ++ (F5 ++ (F6 ++ (F7 ++ F8)))))))).Nodup) (hp : DkSmall d) (n : Int) (s : Nat) (hn : n = (s : Int)) (hs0 : 0 < s) (hs : s + marksDesk d ≤ 10000000) :
 Calls Tryz.prog 14 #[.agg #[.int .i64 d.session.setup.band, a0, .int .i64 d.session.setup.points, .int .i64 d.session.setup.most, .int .i64 d.session.setup.pen, a1, .int .i64 d.session.setup.dflt, a2, .int .i64 d.session.setup.pause, a3, a4, .int .i64 d.session.time, a5, a6, a7, a8], .int .i64 n] w fun e w' => ∃ r : Int, e = .returned (.int .i64 r) ∧ r = ((s + marksDesk d : Nat) : Int) ∧ (pTemps ft tm).rep true w' (markTemps d.session.setup.temps s) [a0] F0 ∧ (pEntrys en).rep true w' (markPEntry d.session.setup.entries.length (s + tempsIn d.session.setup.temps)) [a1] F1 ∧ (pBigrams bg).rep true w' (markPBigram d.session.setup.bigrams.length (s + tempsIn d.session.setup.temps + d.session.setup.entries.length * 2)) [a2] F2 ∧ (pStrokes pt st).rep true w' (markStrokes d.session.strokes (s + marksSetup d.session.setup)) [a3] F3 ∧ (pPoints op).rep true w' (markPPoint d.session.opn.length (s + marksSetup d.session.setup + pointsIn d.session.strokes)) [a4] F4 ∧ (strs 9).rep true w' (markS d.session.words.length (s + marksSetup d.session.setup + pointsIn d.session.strokes + d.session.opn.length * 3)) [a5] F5 ∧ (pLines ln).rep true w' ((markP d.page (s + marksSession d.session)).lines) [a6] F6 ∧ (pSteps sp).rep true w' ((markP d.page (s + marksSession d.session)).done) [a7] F7 ∧ (pSteps sp).rep true w' ((markP d.page (s + marksSession d.session)).undone) [a8] F8 ∧ Only (F0 ++ (F1 ++ (F2 ++ (F3 ++ (F4 ++ (F5 ++ (F6 ++ (F7 ++ F8)))))))) w w' := by
 unfold marksDesk at *
 have N0 := hnd
 have M0 := List.nodup_append.1 N0
 have N1 := M0.2.1
 have M1 := List.nodup_append.1 N1
 have N2 := M1.2.1
 have M2 := List.nodup_append.1 N2
 have N3 := M2.2.1
 have M3 := List.nodup_append.1 N3
 have N4 := M3.2.1
 have M4 := List.nodup_append.1 N4
 have N5 := M4.2.1
 have M5 := List.nodup_append.1 N5
 have N6 := M5.2.1
 have M6 := List.nodup_append.1 N6
 have N7 := M6.2.1
 have M7 := List.nodup_append.1 N7
 have N8 := M7.2.1
 have d0_1 : ∀ x ∈ F0, x ∉ F1 := fun x hx hx2 => M0.2.2 x hx x (by simp [hx2]) rfl
 have d1_0 : ∀ x ∈ F1, x ∉ F0 := fun x hx hx2 => M0.2.2 x hx2 x (by simp [hx]) rfl
 have d0_2 : ∀ x ∈ F0, x ∉ F2 := fun x hx hx2 => M0.2.2 x hx x (by simp [hx2]) rfl
 have d2_0 : ∀ x ∈ F2, x ∉ F0 := fun x hx hx2 => M0.2.2 x hx2 x (by simp [hx]) rfl
 have d0_3 : ∀ x ∈ F0, x ∉ F3 := fun x hx hx2 => M0.2.2 x hx x (by simp [hx2]) rfl
 have d3_0 : ∀ x ∈ F3, x ∉ F0 := fun x hx hx2 => M0.2.2 x hx2 x (by simp [hx]) rfl
 have d0_4 : ∀ x ∈ F0, x ∉ F4 := fun x hx hx2 => M0.2.2 x hx x (by simp [hx2]) rfl
 have d4_0 : ∀ x ∈ F4, x ∉ F0 := fun x hx hx2 => M0.2.2 x hx2 x (by simp [hx]) rfl
 have d0_5 : ∀ x ∈ F0, x ∉ F5 := fun x hx hx2 => M0.2.2 x hx x (by simp [hx2]) rfl
 have d5_0 : ∀ x ∈ F5, x ∉ F0 := fun x hx hx2 => M0.2.2 x hx2 x (by simp [hx]) rfl
 have d0_6 : ∀ x ∈ F0, x ∉ F6 := fun x hx hx2 => M0.2.2 x hx x (by simp [hx2]) rfl
 have d6_0 : ∀ x ∈ F6, x ∉ F0 := fun x hx hx2 => M0.2.2 x hx2 x (by simp [hx]) rfl
 have d0_7 : ∀ x ∈ F0, x ∉ F7 := fun x hx hx2 => M0.2.2 x hx x (by simp [hx2]) rfl
 have d7_0 : ∀ x ∈ F7, x ∉ F0 := fun x hx hx2 => M0.2.2 x hx2 x (by simp [hx]) rfl
 have d0_8 : ∀ x ∈ F0, x ∉ F8 := fun x hx hx2 => M0.2.2 x hx x (by simp [hx2]) rfl
 have d8_0 : ∀ x ∈ F8, x ∉ F0 := fun x hx hx2 => M0.2.2 x hx2 x (by simp [hx]) rfl
 have d1_2 : ∀ x ∈ F1, x ∉ F2 := fun x hx hx2 => M1.2.2 x hx x (by simp [hx2]) rfl
 have d2_1 : ∀ x ∈ F2, x ∉ F1 := fun x hx hx2 => M1.2.2 x hx2 x (by simp [hx]) rfl
 have d1_3 : ∀ x ∈ F1, x ∉ F3 := fun x hx hx2 => M1.2.2 x hx x (by simp [hx2]) rfl
 have d3_1 : ∀ x ∈ F3, x ∉ F1 := fun x hx hx2 => M1.2.2 x hx2 x (by simp [hx]) rfl
 have d1_4 : ∀ x ∈ F1, x ∉ F4 := fun x hx hx2 => M1.2.2 x hx x (by simp [hx2]) rfl
 have d4_1 : ∀ x ∈ F4, x ∉ F1 := fun x hx hx2 => M1.2.2 x hx2 x (by simp [hx]) rfl
 have d1_5 : ∀ x ∈ F1, x ∉ F5 := fun x hx hx2 => M1.2.2 x hx x (by simp [hx2]) rfl
 have d5_1 : ∀ x ∈ F5, x ∉ F1 := fun x hx hx2 => M1.2.2 x hx2 x (by simp [hx]) rfl
 have d1_6 : ∀ x ∈ F1, x ∉ F6 := fun x hx hx2 => M1.2.2 x hx x (by simp [hx2]) rfl
 have d6_1 : ∀ x ∈ F6, x ∉ F1 := fun x hx hx2 => M1.2.2 x hx2 x (by simp [hx]) rfl
 have d1_7 : ∀ x ∈ F1, x ∉ F7 := fun x hx hx2 => M1.2.2 x hx x (by simp [hx2]) rfl
 have d7_1 : ∀ x ∈ F7, x ∉ F1 := fun x hx hx2 => M1.2.2 x hx2 x (by simp [hx]) rfl
 have d1_8 : ∀ x ∈ F1, x ∉ F8 := fun x hx hx2 => M1.2.2 x hx x (by simp [hx2]) rfl
 have d8_1 : ∀ x ∈ F8, x ∉ F1 := fun x hx hx2 => M1.2.2 x hx2 x (by simp [hx]) rfl
 have d2_3 : ∀ x ∈ F2, x ∉ F3 := fun x hx hx2 => M2.2.2 x hx x (by simp [hx2]) rfl
 have d3_2 : ∀ x ∈ F3, x ∉ F2 := fun x hx hx2 => M2.2.2 x hx2 x (by simp [hx]) rfl
 have d2_4 : ∀ x ∈ F2, x ∉ F4 := fun x hx hx2 => M2.2.2 x hx x (by simp [hx2]) rfl
 have d4_2 : ∀ x ∈ F4, x ∉ F2 := fun x hx hx2 => M2.2.2 x hx2 x (by simp [hx]) rfl
 have d2_5 : ∀ x ∈ F2, x ∉ F5 := fun x hx hx2 => M2.2.2 x hx x (by simp [hx2]) rfl
 have d5_2 : ∀ x ∈ F5, x ∉ F2 := fun x hx hx2 => M2.2.2 x hx2 x (by simp [hx]) rfl
 have d2_6 : ∀ x ∈ F2, x ∉ F6 := fun x hx hx2 => M2.2.2 x hx x (by simp [hx2]) rfl
 have d6_2 : ∀ x ∈ F6, x ∉ F2 := fun x hx hx2 => M2.2.2 x hx2 x (by simp [hx]) rfl
 have d2_7 : ∀ x ∈ F2, x ∉ F7 := fun x hx hx2 => M2.2.2 x hx x (by simp [hx2]) rfl
 have d7_2 : ∀ x ∈ F7, x ∉ F2 := fun x hx hx2 => M2.2.2 x hx2 x (by simp [hx]) rfl
 have d2_8 : ∀ x ∈ F2, x ∉ F8 := fun x hx hx2 => M2.2.2 x hx x (by simp [hx2]) rfl
 have d8_2 : ∀ x ∈ F8, x ∉ F2 := fun x hx hx2 => M2.2.2 x hx2 x (by simp [hx]) rfl
 have d3_4 : ∀ x ∈ F3, x ∉ F4 := fun x hx hx2 => M3.2.2 x hx x (by simp [hx2]) rfl
 have d4_3 : ∀ x ∈ F4, x ∉ F3 := fun x hx hx2 => M3.2.2 x hx2 x (by simp [hx]) rfl
 have d3_5 : ∀ x ∈ F3, x ∉ F5 := fun x hx hx2 => M3.2.2 x hx x (by simp [hx2]) rfl
 have d5_3 : ∀ x ∈ F5, x ∉ F3 := fun x hx hx2 => M3.2.2 x hx2 x (by simp [hx]) rfl
 have d3_6 : ∀ x ∈ F3, x ∉ F6 := fun x hx hx2 => M3.2.2 x hx x (by simp [hx2]) rfl
 have d6_3 : ∀ x ∈ F6, x ∉ F3 := fun x hx hx2 => M3.2.2 x hx2 x (by simp [hx]) rfl
 have d3_7 : ∀ x ∈ F3, x ∉ F7 := fun x hx hx2 => M3.2.2 x hx x (by simp [hx2]) rfl
 have d7_3 : ∀ x ∈ F7, x ∉ F3 := fun x hx hx2 => M3.2.2 x hx2 x (by simp [hx]) rfl
 have d3_8 : ∀ x ∈ F3, x ∉ F8 := fun x hx hx2 => M3.2.2 x hx x (by simp [hx2]) rfl
 have d8_3 : ∀ x ∈ F8, x ∉ F3 := fun x hx hx2 => M3.2.2 x hx2 x (by simp [hx]) rfl
 have d4_5 : ∀ x ∈ F4, x ∉ F5 := fun x hx hx2 => M4.2.2 x hx x (by simp [hx2]) rfl
 have d5_4 : ∀ x ∈ F5, x ∉ F4 := fun x hx hx2 => M4.2.2 x hx2 x (by simp [hx]) rfl
 have d4_6 : ∀ x ∈ F4, x ∉ F6 := fun x hx hx2 => M4.2.2 x hx x (by simp [hx2]) rfl
 have d6_4 : ∀ x ∈ F6, x ∉ F4 := fun x hx hx2 => M4.2.2 x hx2 x (by simp [hx]) rfl
 have d4_7 : ∀ x ∈ F4, x ∉ F7 := fun x hx hx2 => M4.2.2 x hx x (by simp [hx2]) rfl
 have d7_4 : ∀ x ∈ F7, x ∉ F4 := fun x hx hx2 => M4.2.2 x hx2 x (by simp [hx]) rfl
 have d4_8 : ∀ x ∈ F4, x ∉ F8 := fun x hx hx2 => M4.2.2 x hx x (by simp [hx2]) rfl
 have d8_4 : ∀ x ∈ F8, x ∉ F4 := fun x hx hx2 => M4.2.2 x hx2 x (by simp [hx]) rfl
 have d5_6 : ∀ x ∈ F5, x ∉ F6 := fun x hx hx2 => M5.2.2 x hx x (by simp [hx2]) rfl
 have d6_5 : ∀ x ∈ F6, x ∉ F5 := fun x hx hx2 => M5.2.2 x hx2 x (by simp [hx]) rfl
 have d5_7 : ∀ x ∈ F5, x ∉ F7 := fun x hx hx2 => M5.2.2 x hx x (by simp [hx2]) rfl
 have d7_5 : ∀ x ∈ F7, x ∉ F5 := fun x hx hx2 => M5.2.2 x hx2 x (by simp [hx]) rfl
 have d5_8 : ∀ x ∈ F5, x ∉ F8 := fun x hx hx2 => M5.2.2 x hx x (by simp [hx2]) rfl
 have d8_5 : ∀ x ∈ F8, x ∉ F5 := fun x hx hx2 => M5.2.2 x hx2 x (by simp [hx]) rfl
 have d6_7 : ∀ x ∈ F6, x ∉ F7 := fun x hx hx2 => M6.2.2 x hx x (by simp [hx2]) rfl
 have d7_6 : ∀ x ∈ F7, x ∉ F6 := fun x hx hx2 => M6.2.2 x hx2 x (by simp [hx]) rfl
 have d6_8 : ∀ x ∈ F6, x ∉ F8 := fun x hx hx2 => M6.2.2 x hx x (by simp [hx2]) rfl
 have d8_6 : ∀ x ∈ F8, x ∉ F6 := fun x hx hx2 => M6.2.2 x hx2 x (by simp [hx]) rfl
 have d7_8 : ∀ x ∈ F7, x ∉ F8 := fun x hx hx2 => M7.2.2 x hx x (by simp [hx2]) rfl
 have d8_7 : ∀ x ∈ F8, x ∉ F7 := fun x hx hx2 => M7.2.2 x hx2 x (by simp [hx]) rfl
 have nd0 : F0.Nodup := M0.1
 have nd1 : F1.Nodup := M1.1
 have nd2 : F2.Nodup := M2.1
 have nd3 : F3.Nodup := M3.1
 have nd4 : F4.Nodup := M4.1
 have nd5 : F5.Nodup := M5.1
 have nd6 : F6.Nodup := M6.1
 have nd7 : F7.Nodup := M7.1
 have nd8 : F8.Nodup := N8
 have o0 : w.heap.size ∉ F0 := fun hx => by have := h0.blocks _ hx; omega
 have o1 : w.heap.size ∉ F1 := fun hx => by have := h1.blocks _ hx; omega
 have o2 : w.heap.size ∉ F2 := fun hx => by have := h2.blocks _ hx; omega
 have o3 : w.heap.size ∉ F3 := fun hx => by have := h3.blocks _ hx; omega
 have o4 : w.heap.size ∉ F4 := fun hx => by have := h4.blocks _ hx; omega
 have o5 : w.heap.size ∉ F5 := fun hx => by have := h5.blocks _ hx; omega
 have o6 : w.heap.size ∉ F6 := fun hx => by have := h6.blocks _ hx; omega
 have o7 : w.heap.size ∉ F7 := fun hx => by have := h7.blocks _ hx; omega
 have o8 : w.heap.size ∉ F8 := fun hx => by have := h8.blocks _ hx; omega
 have np0 : (F0 ++ (F1 ++ (F2 ++ (F3 ++ (F4 ++ F5))))).Nodup := by
  have t := hnd
  rw [show F0 ++ (F1 ++ (F2 ++ (F3 ++ (F4 ++ (F5 ++ (F6 ++ (F7 ++ F8))))))) = (F0 ++ (F1 ++ (F2 ++ (F3 ++ (F4 ++ F5))))) ++ (F6 ++ (F7 ++ F8)) from by simp only [List.append_assoc]] at t
  exact (List.nodup_append.1 t).1
 have np1 : (F6 ++ (F7 ++ F8)).Nodup := by
  have t := hnd
  rw [show F0 ++ (F1 ++ (F2 ++ (F3 ++ (F4 ++ (F5 ++ (F6 ++ (F7 ++ F8))))))) = (F0 ++ (F1 ++ (F2 ++ (F3 ++ (F4 ++ F5))))) ++ (F6 ++ (F7 ++ F8)) from by simp only [List.append_assoc]] at t
  exact (List.nodup_append.1 t).2.1
 clear M0 M1 M2 M3 M4 M5 M6 M7 N0 N1 N2 N3 N4 N5 N6 N7 N8
 obtain ⟨A0, Ak0, rfl⟩ := slice_len h0
 obtain ⟨A1, Ak1, rfl⟩ := slice_len h1
 obtain ⟨A2, Ak2, rfl⟩ := slice_len h2
 obtain ⟨A3, Ak3, rfl⟩ := slice_len h3
 obtain ⟨A4, Ak4, rfl⟩ := slice_len h4
 obtain ⟨A5, Ak5, rfl⟩ := slice_len h5
 obtain ⟨A6, Ak6, rfl⟩ := slice_len h6
 obtain ⟨A7, Ak7, rfl⟩ := slice_len h7
 obtain ⟨A8, Ak8, rfl⟩ := slice_len h8
 have R := Row.new w 73 #[.int .i64 d.session.setup.band, .slice A0 d.session.setup.temps.length Ak0, .int .i64 d.session.setup.points, .int .i64 d.session.setup.most, .int .i64 d.session.setup.pen, .slice A1 d.session.setup.entries.length Ak1, .int .i64 d.session.setup.dflt, .slice A2 d.session.setup.bigrams.length Ak2, .int .i64 d.session.setup.pause, .slice A3 d.session.strokes.length Ak3, .slice A4 d.session.opn.length Ak4, .int .i64 d.session.time, .slice A5 d.session.words.length Ak5, .slice A6 d.page.lines.length Ak6, .slice A7 d.page.done.length Ak7, .slice A8 d.page.undone.length Ak8]
 replace h0 := h0.alloc (.cells #[.int .i64 d.session.setup.band, .slice A0 d.session.setup.temps.length Ak0, .int .i64 d.session.setup.points, .int .i64 d.session.setup.most, .int .i64 d.session.setup.pen, .slice A1 d.session.setup.entries.length Ak1, .int .i64 d.session.setup.dflt, .slice A2 d.session.setup.bigrams.length Ak2, .int .i64 d.session.setup.pause, .slice A3 d.session.strokes.length Ak3, .slice A4 d.session.opn.length Ak4, .int .i64 d.session.time, .slice A5 d.session.words.length Ak5, .slice A6 d.page.lines.length Ak6, .slice A7 d.page.done.length Ak7, .slice A8 d.page.undone.length Ak8] 73)
 replace h1 := h1.alloc (.cells #[.int .i64 d.session.setup.band, .slice A0 d.session.setup.temps.length Ak0, .int .i64 d.session.setup.points, .int .i64 d.session.setup.most, .int .i64 d.session.setup.pen, .slice A1 d.session.setup.entries.length Ak1, .int .i64 d.session.setup.dflt, .slice A2 d.session.setup.bigrams.length Ak2, .int .i64 d.session.setup.pause, .slice A3 d.session.strokes.length Ak3, .slice A4 d.session.opn.length Ak4, .int .i64 d.session.time, .slice A5 d.session.words.length Ak5, .slice A6 d.page.lines.length Ak6, .slice A7 d.page.done.length Ak7, .slice A8 d.page.undone.length Ak8] 73)
 replace h2 := h2.alloc (.cells #[.int .i64 d.session.setup.band, .slice A0 d.session.setup.temps.length Ak0, .int .i64 d.session.setup.points, .int .i64 d.session.setup.most, .int .i64 d.session.setup.pen, .slice A1 d.session.setup.entries.length Ak1, .int .i64 d.session.setup.dflt, .slice A2 d.session.setup.bigrams.length Ak2, .int .i64 d.session.setup.pause, .slice A3 d.session.strokes.length Ak3, .slice A4 d.session.opn.length Ak4, .int .i64 d.session.time, .slice A5 d.session.words.length Ak5, .slice A6 d.page.lines.length Ak6, .slice A7 d.page.done.length Ak7, .slice A8 d.page.undone.length Ak8] 73)
 replace h3 := h3.alloc (.cells #[.int .i64 d.session.setup.band, .slice A0 d.session.setup.temps.length Ak0, .int .i64 d.session.setup.points, .int .i64 d.session.setup.most, .int .i64 d.session.setup.pen, .slice A1 d.session.setup.entries.length Ak1, .int .i64 d.session.setup.dflt, .slice A2 d.session.setup.bigrams.length Ak2, .int .i64 d.session.setup.pause, .slice A3 d.session.strokes.length Ak3, .slice A4 d.session.opn.length Ak4, .int .i64 d.session.time, .slice A5 d.session.words.length Ak5, .slice A6 d.page.lines.length Ak6, .slice A7 d.page.done.length Ak7, .slice A8 d.page.undone.length Ak8] 73)
 replace h4 := h4.alloc (.cells #[.int .i64 d.session.setup.band, .slice A0 d.session.setup.temps.length Ak0, .int .i64 d.session.setup.points, .int .i64 d.session.setup.most, .int .i64 d.session.setup.pen, .slice A1 d.session.setup.entries.length Ak1, .int .i64 d.session.setup.dflt, .slice A2 d.session.setup.bigrams.length Ak2, .int .i64 d.session.setup.pause, .slice A3 d.session.strokes.length Ak3, .slice A4 d.session.opn.length Ak4, .int .i64 d.session.time, .slice A5 d.session.words.length Ak5, .slice A6 d.page.lines.length Ak6, .slice A7 d.page.done.length Ak7, .slice A8 d.page.undone.length Ak8] 73)
 replace h5 := h5.alloc (.cells #[.int .i64 d.session.setup.band, .slice A0 d.session.setup.temps.length Ak0, .int .i64 d.session.setup.points, .int .i64 d.session.setup.most, .int .i64 d.session.setup.pen, .slice A1 d.session.setup.entries.length Ak1, .int .i64 d.session.setup.dflt, .slice A2 d.session.setup.bigrams.length Ak2, .int .i64 d.session.setup.pause, .slice A3 d.session.strokes.length Ak3, .slice A4 d.session.opn.length Ak4, .int .i64 d.session.time, .slice A5 d.session.words.length Ak5, .slice A6 d.page.lines.length Ak6, .slice A7 d.page.done.length Ak7, .slice A8 d.page.undone.length Ak8] 73)
 replace h6 := h6.alloc (.cells #[.int .i64 d.session.setup.band, .slice A0 d.session.setup.temps.length Ak0, .int .i64 d.session.setup.points, .int .i64 d.session.setup.most, .int .i64 d.session.setup.pen, .slice A1 d.session.setup.entries.length Ak1, .int .i64 d.session.setup.dflt, .slice A2 d.session.setup.bigrams.length Ak2, .int .i64 d.session.setup.pause, .slice A3 d.session.strokes.length Ak3, .slice A4 d.session.opn.length Ak4, .int .i64 d.session.time, .slice A5 d.session.words.length Ak5, .slice A6 d.page.lines.length Ak6, .slice A7 d.page.done.length Ak7, .slice A8 d.page.undone.length Ak8] 73)
 replace h7 := h7.alloc (.cells #[.int .i64 d.session.setup.band, .slice A0 d.session.setup.temps.length Ak0, .int .i64 d.session.setup.points, .int .i64 d.session.setup.most, .int .i64 d.session.setup.pen, .slice A1 d.session.setup.entries.length Ak1, .int .i64 d.session.setup.dflt, .slice A2 d.session.setup.bigrams.length Ak2, .int .i64 d.session.setup.pause, .slice A3 d.session.strokes.length Ak3, .slice A4 d.session.opn.length Ak4, .int .i64 d.session.time, .slice A5 d.session.words.length Ak5, .slice A6 d.page.lines.length Ak6, .slice A7 d.page.done.length Ak7, .slice A8 d.page.undone.length Ak8] 73)
 replace h8 := h8.alloc (.cells #[.int .i64 d.session.setup.band, .slice A0 d.session.setup.temps.length Ak0, .int .i64 d.session.setup.points, .int .i64 d.session.setup.most, .int .i64 d.session.setup.pen, .slice A1 d.session.setup.entries.length Ak1, .int .i64 d.session.setup.dflt, .slice A2 d.session.setup.bigrams.length Ak2, .int .i64 d.session.setup.pause, .slice A3 d.session.strokes.length Ak3, .slice A4 d.session.opn.length Ak4, .int .i64 d.session.time, .slice A5 d.session.words.length Ak5, .slice A6 d.page.lines.length Ak6, .slice A7 d.page.done.length Ak7, .slice A8 d.page.undone.length Ak8] 73)
 have bb : Only (F0 ++ (F1 ++ (F2 ++ (F3 ++ (F4 ++ (F5 ++ (F6 ++ (F7 ++ F8)))))))) w (w.alloc (.cells #[.int .i64 d.session.setup.band, .slice A0 d.session.setup.temps.length Ak0, .int .i64 d.session.setup.points, .int .i64 d.session.setup.most, .int .i64 d.session.setup.pen, .slice A1 d.session.setup.entries.length Ak1, .int .i64 d.session.setup.dflt, .slice A2 d.session.setup.bigrams.length Ak2, .int .i64 d.session.setup.pause, .slice A3 d.session.strokes.length Ak3, .slice A4 d.session.opn.length Ak4, .int .i64 d.session.time, .slice A5 d.session.words.length Ak5, .slice A6 d.page.lines.length Ak6, .slice A7 d.page.done.length Ak7, .slice A8 d.page.undone.length Ak8] 73)) := Only.of_below ((Below.refl _ _).alloc (Nat.le_refl _) _)
 subst hn
 go_enter Tryz.func14, Tryz.ntmps14
 go_wp2_with fail
 refine (markSession_s (q := d.session) _ h0 h1 h2 h3 h4 h5 np0 hp.s _ (s) rfl (by omega) (by omega)).mono ?_
 rintro e w0 ⟨m0, rfl, e0, r0, r1, r2, r3, r4, r5, q0⟩
 have E0 := Lib.hid e0
 clear e0
 replace R := R.onl q0 (fun hx => by
  simp only [List.mem_append] at hx
  rcases hx with hx | hx | hx | hx | hx | hx
  · exact o0 hx
  · exact o1 hx
  · exact o2 hx
  · exact o3 hx
  · exact o4 hx
  · exact o5 hx)
 replace h6 := h6.only q0 (fun x hx hx2 => by
  simp only [List.mem_append] at hx2
  rcases hx2 with hx2 | hx2 | hx2 | hx2 | hx2 | hx2
  · exact d6_0 x hx hx2
  · exact d6_1 x hx hx2
  · exact d6_2 x hx hx2
  · exact d6_3 x hx hx2
  · exact d6_4 x hx hx2
  · exact d6_5 x hx hx2)
 replace h7 := h7.only q0 (fun x hx hx2 => by
  simp only [List.mem_append] at hx2
  rcases hx2 with hx2 | hx2 | hx2 | hx2 | hx2 | hx2
  · exact d7_0 x hx hx2
  · exact d7_1 x hx hx2
  · exact d7_2 x hx hx2
  · exact d7_3 x hx hx2
  · exact d7_4 x hx hx2
  · exact d7_5 x hx hx2)
 replace h8 := h8.only q0 (fun x hx hx2 => by
  simp only [List.mem_append] at hx2
  rcases hx2 with hx2 | hx2 | hx2 | hx2 | hx2 | hx2
  · exact d8_0 x hx hx2
  · exact d8_1 x hx hx2
  · exact d8_2 x hx hx2
  · exact d8_3 x hx hx2
  · exact d8_4 x hx hx2
  · exact d8_5 x hx hx2)
 clear h0
 have h0 := r0
 clear h1
 have h1 := r1
 clear h2
 have h2 := r2
 clear h3
 have h3 := r3
 clear h4
 have h4 := r4
 clear h5
 have h5 := r5
 replace bb := bb.trans (q0.mono (by intro x hx; simp only [List.mem_append] at hx; rcases hx with hx | hx | hx | hx | hx | hx <;> simp [hx]))
 have c0 := R.cell' (i := 0) rfl
 have c1 := R.cell' (i := 1) rfl
 have c2 := R.cell' (i := 2) rfl
 have c3 := R.cell' (i := 3) rfl
 have c4 := R.cell' (i := 4) rfl
 have c5 := R.cell' (i := 5) rfl
 have c6 := R.cell' (i := 6) rfl
 have c7 := R.cell' (i := 7) rfl
 have c8 := R.cell' (i := 8) rfl
 have c9 := R.cell' (i := 9) rfl
 have c10 := R.cell' (i := 10) rfl
 have c11 := R.cell' (i := 11) rfl
 have c12 := R.cell' (i := 12) rfl
 have c13 := R.cell' (i := 13) rfl
 have c14 := R.cell' (i := 14) rfl
 have c15 := R.cell' (i := 15) rfl
 go_wp2_with fail
 refine (markPage_s (p := d.page) _ h6 h7 h8 np1 hp.p _ (s + marksSession d.session) E0.out (by omega) (by omega)).mono ?_
 rintro e w1 ⟨m1, rfl, e1, r6, r7, r8, q1⟩
 have E1 := Lib.hid e1
 clear e1
 clear c0 c1 c2 c3 c4 c5 c6 c7 c8 c9 c10 c11 c12 c13 c14 c15
 replace R := R.onl q1 (fun hx => by
  simp only [List.mem_append] at hx
  rcases hx with hx | hx | hx
  · exact o6 hx
  · exact o7 hx
  · exact o8 hx)
 replace h0 := h0.only q1 (fun x hx hx2 => by
  simp only [List.mem_append] at hx2
  rcases hx2 with hx2 | hx2 | hx2
  · exact d0_6 x hx hx2
  · exact d0_7 x hx hx2
  · exact d0_8 x hx hx2)
 replace h1 := h1.only q1 (fun x hx hx2 => by
  simp only [List.mem_append] at hx2
  rcases hx2 with hx2 | hx2 | hx2
  · exact d1_6 x hx hx2
  · exact d1_7 x hx hx2
  · exact d1_8 x hx hx2)
 replace h2 := h2.only q1 (fun x hx hx2 => by
  simp only [List.mem_append] at hx2
  rcases hx2 with hx2 | hx2 | hx2
  · exact d2_6 x hx hx2
  · exact d2_7 x hx hx2
  · exact d2_8 x hx hx2)
 replace h3 := h3.only q1 (fun x hx hx2 => by
  simp only [List.mem_append] at hx2
  rcases hx2 with hx2 | hx2 | hx2
  · exact d3_6 x hx hx2
  · exact d3_7 x hx hx2
  · exact d3_8 x hx hx2)
 replace h4 := h4.only q1 (fun x hx hx2 => by
  simp only [List.mem_append] at hx2
  rcases hx2 with hx2 | hx2 | hx2
  · exact d4_6 x hx hx2
  · exact d4_7 x hx hx2
  · exact d4_8 x hx hx2)
 replace h5 := h5.only q1 (fun x hx hx2 => by
  simp only [List.mem_append] at hx2
  rcases hx2 with hx2 | hx2 | hx2
  · exact d5_6 x hx hx2
  · exact d5_7 x hx hx2
  · exact d5_8 x hx hx2)
 clear h6
 have h6 := r6
 clear h7
 have h7 := r7
 clear h8
 have h8 := r8
 replace bb := bb.trans (q1.mono (by intro x hx; simp only [List.mem_append] at hx; rcases hx with hx | hx | hx <;> simp [hx]))
 go_wp2_with fail
 go_ret
 exact ⟨m1, rfl, by have := E1.out; omega, h0, h1, h2, h3, h4, h5, h6, h7, h8, bb⟩
set_option maxRecDepth 100000 in
set_option maxHeartbeats 4000000 in
theorem heldDesk_s {o : Bool} {bg en ft ln op pt sp st tm : TypeId} {d : PDesk} {a0 a1 a2 a3 a4 a5 a6 a7 a8 : Value} {F0 F1 F2 F3 F4 F5 F6 F7 F8 : List Nat} (w : World) (s : Nat) (h0 : (pTemps ft tm).rep o w (markTemps d.session.setup.temps s) [a0] F0) (h1 : (pEntrys en).rep o w (markPEntry d.session.setup.entries.length (s + tempsIn d.session.setup.temps)) [a1] F1) (h2 : (pBigrams bg).rep o w (markPBigram d.session.setup.bigrams.length (s + tempsIn d.session.setup.temps + d.session.setup.entries.length * 2)) [a2] F2) (h3 : (pStrokes pt st).rep o w (markStrokes d.session.strokes (s + marksSetup d.session.setup)) [a3] F3) (h4 : (pPoints op).rep o w (markPPoint d.session.opn.length (s + marksSetup d.session.setup + pointsIn d.session.strokes)) [a4] F4) (h5 : (strs 9).rep o w (markS d.session.words.length (s + marksSetup d.session.setup + pointsIn d.session.strokes + d.session.opn.length * 3)) [a5] F5) (h6 : (pLines ln).rep o w ((markP d.page (s + marksSession d.session)).lines) [a6] F6) (h7 : (pSteps sp).rep o w ((markP d.page (s + marksSession d.session)).done) [a7] F7) (h8 : (pSteps sp).rep o w ((markP d.page (s + marksSession d.session)).undone) [a8] F8) (hp : DkSmall d) (n : Int) (hn : n = (s : Int)) (hs0 : 0 < s) (hs : s + marksDesk d ≤ 10000000) :
 Calls Tryz.prog 15 #[.agg #[.int .i64 d.session.setup.band, a0, .int .i64 d.session.setup.points, .int .i64 d.session.setup.most, .int .i64 d.session.setup.pen, a1, .int .i64 d.session.setup.dflt, a2, .int .i64 d.session.setup.pause, a3, a4, .int .i64 d.session.time, a5, a6, a7, a8], .int .i64 n] w fun e w' => ∃ r : Int, e = .returned (.int .i64 r) ∧ r = ((s + marksDesk d : Nat) : Int) ∧ Below w.heap.size w w' := by
 unfold marksDesk at *
 obtain ⟨A0, Ak0, rfl⟩ := slice_len h0
 obtain ⟨A1, Ak1, rfl⟩ := slice_len h1
 obtain ⟨A2, Ak2, rfl⟩ := slice_len h2
 obtain ⟨A3, Ak3, rfl⟩ := slice_len h3
 obtain ⟨A4, Ak4, rfl⟩ := slice_len h4
 obtain ⟨A5, Ak5, rfl⟩ := slice_len h5
 obtain ⟨A6, Ak6, rfl⟩ := slice_len h6
 obtain ⟨A7, Ak7, rfl⟩ := slice_len h7
 obtain ⟨A8, Ak8, rfl⟩ := slice_len h8
 generalize hl0 : (markTemps d.session.setup.temps s).length = l0 at *
 generalize hl1 : (markPEntry d.session.setup.entries.length (s + tempsIn d.session.setup.temps)).length = l1 at *
 generalize hl2 : (markPBigram d.session.setup.bigrams.length (s + tempsIn d.session.setup.temps + d.session.setup.entries.length * 2)).length = l2 at *
 generalize hl3 : (markStrokes d.session.strokes (s + marksSetup d.session.setup)).length = l3 at *
 generalize hl4 : (markPPoint d.session.opn.length (s + marksSetup d.session.setup + pointsIn d.session.strokes)).length = l4 at *
 generalize hl5 : (markS d.session.words.length (s + marksSetup d.session.setup + pointsIn d.session.strokes + d.session.opn.length * 3)).length = l5 at *
 generalize hl6 : ((markP d.page (s + marksSession d.session)).lines).length = l6 at *
 generalize hl7 : ((markP d.page (s + marksSession d.session)).done).length = l7 at *
 generalize hl8 : ((markP d.page (s + marksSession d.session)).undone).length = l8 at *
 have R := Row.new w 73 #[.int .i64 d.session.setup.band, .slice A0 l0 Ak0, .int .i64 d.session.setup.points, .int .i64 d.session.setup.most, .int .i64 d.session.setup.pen, .slice A1 l1 Ak1, .int .i64 d.session.setup.dflt, .slice A2 l2 Ak2, .int .i64 d.session.setup.pause, .slice A3 l3 Ak3, .slice A4 l4 Ak4, .int .i64 d.session.time, .slice A5 l5 Ak5, .slice A6 l6 Ak6, .slice A7 l7 Ak7, .slice A8 l8 Ak8]
 replace h0 := h0.alloc (.cells #[.int .i64 d.session.setup.band, .slice A0 l0 Ak0, .int .i64 d.session.setup.points, .int .i64 d.session.setup.most, .int .i64 d.session.setup.pen, .slice A1 l1 Ak1, .int .i64 d.session.setup.dflt, .slice A2 l2 Ak2, .int .i64 d.session.setup.pause, .slice A3 l3 Ak3, .slice A4 l4 Ak4, .int .i64 d.session.time, .slice A5 l5 Ak5, .slice A6 l6 Ak6, .slice A7 l7 Ak7, .slice A8 l8 Ak8] 73)
 replace h1 := h1.alloc (.cells #[.int .i64 d.session.setup.band, .slice A0 l0 Ak0, .int .i64 d.session.setup.points, .int .i64 d.session.setup.most, .int .i64 d.session.setup.pen, .slice A1 l1 Ak1, .int .i64 d.session.setup.dflt, .slice A2 l2 Ak2, .int .i64 d.session.setup.pause, .slice A3 l3 Ak3, .slice A4 l4 Ak4, .int .i64 d.session.time, .slice A5 l5 Ak5, .slice A6 l6 Ak6, .slice A7 l7 Ak7, .slice A8 l8 Ak8] 73)
 replace h2 := h2.alloc (.cells #[.int .i64 d.session.setup.band, .slice A0 l0 Ak0, .int .i64 d.session.setup.points, .int .i64 d.session.setup.most, .int .i64 d.session.setup.pen, .slice A1 l1 Ak1, .int .i64 d.session.setup.dflt, .slice A2 l2 Ak2, .int .i64 d.session.setup.pause, .slice A3 l3 Ak3, .slice A4 l4 Ak4, .int .i64 d.session.time, .slice A5 l5 Ak5, .slice A6 l6 Ak6, .slice A7 l7 Ak7, .slice A8 l8 Ak8] 73)
 replace h3 := h3.alloc (.cells #[.int .i64 d.session.setup.band, .slice A0 l0 Ak0, .int .i64 d.session.setup.points, .int .i64 d.session.setup.most, .int .i64 d.session.setup.pen, .slice A1 l1 Ak1, .int .i64 d.session.setup.dflt, .slice A2 l2 Ak2, .int .i64 d.session.setup.pause, .slice A3 l3 Ak3, .slice A4 l4 Ak4, .int .i64 d.session.time, .slice A5 l5 Ak5, .slice A6 l6 Ak6, .slice A7 l7 Ak7, .slice A8 l8 Ak8] 73)
 replace h4 := h4.alloc (.cells #[.int .i64 d.session.setup.band, .slice A0 l0 Ak0, .int .i64 d.session.setup.points, .int .i64 d.session.setup.most, .int .i64 d.session.setup.pen, .slice A1 l1 Ak1, .int .i64 d.session.setup.dflt, .slice A2 l2 Ak2, .int .i64 d.session.setup.pause, .slice A3 l3 Ak3, .slice A4 l4 Ak4, .int .i64 d.session.time, .slice A5 l5 Ak5, .slice A6 l6 Ak6, .slice A7 l7 Ak7, .slice A8 l8 Ak8] 73)
 replace h5 := h5.alloc (.cells #[.int .i64 d.session.setup.band, .slice A0 l0 Ak0, .int .i64 d.session.setup.points, .int .i64 d.session.setup.most, .int .i64 d.session.setup.pen, .slice A1 l1 Ak1, .int .i64 d.session.setup.dflt, .slice A2 l2 Ak2, .int .i64 d.session.setup.pause, .slice A3 l3 Ak3, .slice A4 l4 Ak4, .int .i64 d.session.time, .slice A5 l5 Ak5, .slice A6 l6 Ak6, .slice A7 l7 Ak7, .slice A8 l8 Ak8] 73)
 replace h6 := h6.alloc (.cells #[.int .i64 d.session.setup.band, .slice A0 l0 Ak0, .int .i64 d.session.setup.points, .int .i64 d.session.setup.most, .int .i64 d.session.setup.pen, .slice A1 l1 Ak1, .int .i64 d.session.setup.dflt, .slice A2 l2 Ak2, .int .i64 d.session.setup.pause, .slice A3 l3 Ak3, .slice A4 l4 Ak4, .int .i64 d.session.time, .slice A5 l5 Ak5, .slice A6 l6 Ak6, .slice A7 l7 Ak7, .slice A8 l8 Ak8] 73)
 replace h7 := h7.alloc (.cells #[.int .i64 d.session.setup.band, .slice A0 l0 Ak0, .int .i64 d.session.setup.points, .int .i64 d.session.setup.most, .int .i64 d.session.setup.pen, .slice A1 l1 Ak1, .int .i64 d.session.setup.dflt, .slice A2 l2 Ak2, .int .i64 d.session.setup.pause, .slice A3 l3 Ak3, .slice A4 l4 Ak4, .int .i64 d.session.time, .slice A5 l5 Ak5, .slice A6 l6 Ak6, .slice A7 l7 Ak7, .slice A8 l8 Ak8] 73)
 replace h8 := h8.alloc (.cells #[.int .i64 d.session.setup.band, .slice A0 l0 Ak0, .int .i64 d.session.setup.points, .int .i64 d.session.setup.most, .int .i64 d.session.setup.pen, .slice A1 l1 Ak1, .int .i64 d.session.setup.dflt, .slice A2 l2 Ak2, .int .i64 d.session.setup.pause, .slice A3 l3 Ak3, .slice A4 l4 Ak4, .int .i64 d.session.time, .slice A5 l5 Ak5, .slice A6 l6 Ak6, .slice A7 l7 Ak7, .slice A8 l8 Ak8] 73)
 have bb : Below w.heap.size w (w.alloc (.cells #[.int .i64 d.session.setup.band, .slice A0 l0 Ak0, .int .i64 d.session.setup.points, .int .i64 d.session.setup.most, .int .i64 d.session.setup.pen, .slice A1 l1 Ak1, .int .i64 d.session.setup.dflt, .slice A2 l2 Ak2, .int .i64 d.session.setup.pause, .slice A3 l3 Ak3, .slice A4 l4 Ak4, .int .i64 d.session.time, .slice A5 l5 Ak5, .slice A6 l6 Ak6, .slice A7 l7 Ak7, .slice A8 l8 Ak8] 73)) := (Below.refl _ _).alloc (Nat.le_refl _) _
 subst hn
 clear hl0 hl1 hl2 hl3 hl4 hl5 hl6 hl7 hl8
 go_enter Tryz.func15, Tryz.ntmps15
 go_wp2_with fail
 refine (heldSession_s (q := d.session) _ (s) h0 h1 h2 h3 h4 h5 hp.s _ rfl (by omega) (by omega)).mono ?_
 rintro e w0 ⟨m0, rfl, e0, b0⟩
 replace R := R.later b0
 replace h0 := h0.below b0
 replace h1 := h1.below b0
 replace h2 := h2.below b0
 replace h3 := h3.below b0
 replace h4 := h4.below b0
 replace h5 := h5.below b0
 replace h6 := h6.below b0
 replace h7 := h7.below b0
 replace h8 := h8.below b0
 replace bb := bt bb b0
 have n0 : ¬ m0 < 0 := by omega
 have E0 := Lib.hid e0
 clear e0
 have c0 := R.cell' (i := 0) rfl
 have c1 := R.cell' (i := 1) rfl
 have c2 := R.cell' (i := 2) rfl
 have c3 := R.cell' (i := 3) rfl
 have c4 := R.cell' (i := 4) rfl
 have c5 := R.cell' (i := 5) rfl
 have c6 := R.cell' (i := 6) rfl
 have c7 := R.cell' (i := 7) rfl
 have c8 := R.cell' (i := 8) rfl
 have c9 := R.cell' (i := 9) rfl
 have c10 := R.cell' (i := 10) rfl
 have c11 := R.cell' (i := 11) rfl
 have c12 := R.cell' (i := 12) rfl
 have c13 := R.cell' (i := 13) rfl
 have c14 := R.cell' (i := 14) rfl
 have c15 := R.cell' (i := 15) rfl
 go_wp2_with fail
 refine (heldPage_s (p := d.page) _ (s + marksSession d.session) h6 h7 h8 hp.p _ E0.out (by omega) (by omega)).mono ?_
 rintro e w1 ⟨m1, rfl, e1, b1⟩
 clear c0 c1 c2 c3 c4 c5 c6 c7 c8 c9 c10 c11 c12 c13 c14 c15
 replace R := R.later b1
 replace h0 := h0.below b1
 replace h1 := h1.below b1
 replace h2 := h2.below b1
 replace h3 := h3.below b1
 replace h4 := h4.below b1
 replace h5 := h5.below b1
 replace h6 := h6.below b1
 replace h7 := h7.below b1
 replace h8 := h8.below b1
 replace bb := bt bb b1
 have n1 : ¬ m1 < 0 := by omega
 have E1 := Lib.hid e1
 clear e1
 go_wp2_with fail
 go_ret
 exact ⟨m1, rfl, by have := E1.out; omega, bb⟩
end Go.Proofs.YtkfadfddhbpngaaGreat

/- SameSession of the program. Conditions: none. -/
import Derived.Deep.Cut
import Derived.Deep.CutRange
import Derived.Test.YtkfadfddhbpngaaGreatSmEx
import Derived.Test.YtkfadfddhbpngaaGreatSeIsx
namespace Go.Proofs.YtkfadfddhbpngaaGreat
open Go Go.RowKit

theorem Setting_eql (s t : PSetting) (w : World) : (binOp .eql 53 (.agg #[.int .i64 s.points, .int .i64 s.most, .int .i64 s.pen]) (.agg #[.int .i64 t.points, .int .i64 t.most, .int .i64 t.pen])).run Tryz.prog w = .ok (.bool (decide (s = t))) w := by
 have hS : Tryz.prog.underlying 53 = some (.struct (Tryz.prog.fieldsOf 53)) := by kernel_rfl
 have hp : Tryz.prog.stoodInHeld 53 = false := by kernel_rfl
 rw [run_eql_struct, show (10000 : Nat) = 9999 + 1 from rfl, run_equalIn_agg w 9999 53 _ _ hS hp]
 simp only [Program.fieldsOf, Tryz.underlying53]
 go_simp
 obtain ⟨a, b, c⟩ := s
 obtain ⟨x, y, z⟩ := t
 simp only [PSetting.mk.injEq]
 by_cases h0 : a = x <;> by_cases h1 : b = y <;> by_cases h2 : c = z <;> simp [h0, h1, h2]
theorem Equal_Point_b {oa ob : Bool} {ea eb : TypeId} {xs ys : List PPoint} {v u : Value} {F G : List Nat} (w : World) (h : (pPoints ea).rep oa w xs [v] F) (h' : (pPoints eb).rep ob w ys [u] G) (hx : xs.length ≤ 1048576) (hy : ys.length ≤ 1048576) :
 Calls Tryz.prog 92 #[v, u] w fun e w' => e = .returned (.bool (decide (xs = ys))) ∧ Below w.heap.size w w' :=
 (Equal_Point_c w h h' hx hy).mono fun _ _ ⟨h1, n, h2⟩ => ⟨h1, h2 ▸ below_drewN (Below.refl _ _) n⟩
theorem Equal_Str_b {oa ob : Bool} {ea eb : TypeId} {xs ys : List ByteArray} {v u : Value} {F G : List Nat} (w : World) (h : (strs ea).rep oa w xs [v] F) (h' : (strs eb).rep ob w ys [u] G) (hx : xs.length ≤ 1048576) (hy : ys.length ≤ 1048576) :
 Calls Tryz.prog 93 #[v, u] w fun e w' => e = .returned (.bool (decide (xs = ys))) ∧ Below w.heap.size w w' :=
 (Equal_Str_c w h h' hx hy).mono fun _ _ ⟨h1, n, h2⟩ => ⟨h1, h2 ▸ below_drewN (Below.refl _ _) n⟩
set_option maxRecDepth 100000 in
set_option maxHeartbeats 8000000 in
theorem impl_SameSession_p {I J : Ids} {oa ob : Bool} {p q : PSess} {v u : Value} {F G : List Nat} (w : World) (h : SessIs I oa w p v F) (h' : SessIs J ob w q u G) (hp : SsSmall p) (hq : SsSmall q) :
 Calls Tryz.prog 33 #[v, u] w fun e w' => e = .returned (.bool (sameSessB p q)) ∧ Below w.heap.size w w' := by
 obtain ⟨A0, Ak0, A1, Ak1, A2, Ak2, A3, Ak3, A4, Ak4, A5, Ak5, rfl⟩ := h.shape
 obtain ⟨B0, Bk0, B1, Bk1, B2, Bk2, B3, Bk3, B4, Bk4, B5, Bk5, rfl⟩ := h'.shape
 obtain ⟨a0, a1, a2, a3, a4, a5, F0, F1, F2, F3, F4, F5, he, -, h0, h1, h2, h3, h4, h5⟩ := h
 obtain ⟨b0, b1, b2, b3, b4, b5, G0, G1, G2, G3, G4, G5, he', -, k0, k1, k2, k3, k4, k5⟩ := h'
 simp only [Value.agg.injEq, Array.mk.injEq, List.cons.injEq, and_true, true_and] at he he'
 obtain ⟨rfl, rfl, rfl, rfl, rfl, rfl⟩ := he
 obtain ⟨rfl, rfl, rfl, rfl, rfl, rfl⟩ := he'
 have C0 := Lib.hid (fun w' (r : (pTemps I.ft I.tm).rep oa w' p.setup.temps [.slice A0 p.setup.temps.length Ak0] F0) (r' : (pTemps J.ft J.tm).rep ob w' q.setup.temps [.slice B0 q.setup.temps.length Bk0] G0) => impl_SameStore_c (n := p.setup.band) (m' := q.setup.band) w' r r' hp.s.t hq.s.t hp.s.f hq.s.f)
 have C2 := Lib.hid (fun w' (r : (pEntrys I.en).rep oa w' p.setup.entries [.slice A1 p.setup.entries.length Ak1] F1) (r' : (pEntrys J.en).rep ob w' q.setup.entries [.slice B1 q.setup.entries.length Bk1] G1) => impl_SameLexicon_c w' r r' hp.s.e hq.s.e)
 have C3 := Lib.hid (fun w' (r : (pBigrams I.bg).rep oa w' p.setup.bigrams [.slice A2 p.setup.bigrams.length Ak2] F2) (r' : (pBigrams J.bg).rep ob w' q.setup.bigrams [.slice B2 q.setup.bigrams.length Bk2] G2) => impl_SameModel_c (n := p.setup.dflt) (m' := q.setup.dflt) w' r r' hp.s.b hq.s.b)
 have C5 := Lib.hid (fun w' (r : (pStrokes I.pt I.st).rep oa w' p.strokes [.slice A3 p.strokes.length Ak3] F3) (r' : (pStrokes J.pt J.st).rep ob w' q.strokes [.slice B3 q.strokes.length Bk3] G3) => impl_SameInk_c w' r r' hp.i hq.i hp.j hq.j)
 have C6 := Lib.hid (fun w' (r : (pPoints I.pt).rep oa w' p.opn [.slice A4 p.opn.length Ak4] F4) (r' : (pPoints J.pt).rep ob w' q.opn [.slice B4 q.opn.length Bk4] G4) => Equal_Point_b w' r r' hp.o hq.o)
 have C8 := Lib.hid (fun w' (r : (strs 9).rep oa w' p.words [.slice A5 p.words.length Ak5] F5) (r' : (strs 9).rep ob w' q.words [.slice B5 q.words.length Bk5] G5) => Equal_Str_b w' r r' hp.w hq.w)
 have E1 := Setting_eql ⟨p.setup.points, p.setup.most, p.setup.pen⟩ ⟨q.setup.points, q.setup.most, q.setup.pen⟩
 have hm : Tryz.prog.eqGuardType Tryz.prog.depth 53 = false := by kernel_rfl
 have g4 : (p.setup.pause == q.setup.pause) = decide (p.setup.pause = q.setup.pause) := by by_cases hh : p.setup.pause = q.setup.pause <;> simp [hh]
 have g7 : (p.time == q.time) = decide (p.time = q.time) := by by_cases hh : p.time = q.time <;> simp [hh]
 unfold sameSessB sameSetupB
 generalize (decide (p.setup.band = q.setup.band) && decide (p.setup.temps = q.setup.temps)) = d0 at *
 generalize decide ((⟨p.setup.points, p.setup.most, p.setup.pen⟩ : PSetting) = ⟨q.setup.points, q.setup.most, q.setup.pen⟩) = d1 at *
 generalize decide (p.setup.entries = q.setup.entries) = d2 at *
 generalize (decide (p.setup.dflt = q.setup.dflt) && decide (p.setup.bigrams = q.setup.bigrams)) = d3 at *
 generalize decide (p.setup.pause = q.setup.pause) = d4 at *
 generalize decide (p.strokes = q.strokes) = d5 at *
 generalize decide (p.opn = q.opn) = d6 at *
 generalize decide (p.time = q.time) = d7 at *
 generalize decide (p.words = q.words) = d8 at *
 go_enter Tryz.func33, Tryz.ntmps33
 go_wp2_with fail
 go_region
 · skip
   have R := ((((Row.new w 67 #[.int .i64 p.setup.band, .slice A0 p.setup.temps.length Ak0, .int .i64 p.setup.points, .int .i64 p.setup.most, .int .i64 p.setup.pen, .slice A1 p.setup.entries.length Ak1, .int .i64 p.setup.dflt, .slice A2 p.setup.bigrams.length Ak2, .int .i64 p.setup.pause, .slice A3 p.strokes.length Ak3, .slice A4 p.opn.length Ak4, .int .i64 p.time, .slice A5 p.words.length Ak5]).alloc (.cells #[.int .i64 q.setup.band, .slice B0 q.setup.temps.length Bk0, .int .i64 q.setup.points, .int .i64 q.setup.most, .int .i64 q.setup.pen, .slice B1 q.setup.entries.length Bk1, .int .i64 q.setup.dflt, .slice B2 q.setup.bigrams.length Bk2, .int .i64 q.setup.pause, .slice B3 q.strokes.length Bk3, .slice B4 q.opn.length Bk4, .int .i64 q.time, .slice B5 q.words.length Bk5] 67)).alloc (.cells #[.int .i64 p.setup.band, .slice A0 p.setup.temps.length Ak0, .int .i64 p.setup.points, .int .i64 p.setup.most, .int .i64 p.setup.pen, .slice A1 p.setup.entries.length Ak1, .int .i64 p.setup.dflt, .slice A2 p.setup.bigrams.length Ak2, .int .i64 p.setup.pause] 61)).alloc (.cells #[.int .i64 q.setup.band, .slice B0 q.setup.temps.length Bk0, .int .i64 q.setup.points, .int .i64 q.setup.most, .int .i64 q.setup.pen, .slice B1 q.setup.entries.length Bk1, .int .i64 q.setup.dflt, .slice B2 q.setup.bigrams.length Bk2, .int .i64 q.setup.pause] 61)).drew
   have Q := (((Row.new (w.alloc (.cells #[.int .i64 p.setup.band, .slice A0 p.setup.temps.length Ak0, .int .i64 p.setup.points, .int .i64 p.setup.most, .int .i64 p.setup.pen, .slice A1 p.setup.entries.length Ak1, .int .i64 p.setup.dflt, .slice A2 p.setup.bigrams.length Ak2, .int .i64 p.setup.pause, .slice A3 p.strokes.length Ak3, .slice A4 p.opn.length Ak4, .int .i64 p.time, .slice A5 p.words.length Ak5] 67)) 67 #[.int .i64 q.setup.band, .slice B0 q.setup.temps.length Bk0, .int .i64 q.setup.points, .int .i64 q.setup.most, .int .i64 q.setup.pen, .slice B1 q.setup.entries.length Bk1, .int .i64 q.setup.dflt, .slice B2 q.setup.bigrams.length Bk2, .int .i64 q.setup.pause, .slice B3 q.strokes.length Bk3, .slice B4 q.opn.length Bk4, .int .i64 q.time, .slice B5 q.words.length Bk5]).alloc (.cells #[.int .i64 p.setup.band, .slice A0 p.setup.temps.length Ak0, .int .i64 p.setup.points, .int .i64 p.setup.most, .int .i64 p.setup.pen, .slice A1 p.setup.entries.length Ak1, .int .i64 p.setup.dflt, .slice A2 p.setup.bigrams.length Ak2, .int .i64 p.setup.pause] 61)).alloc (.cells #[.int .i64 q.setup.band, .slice B0 q.setup.temps.length Bk0, .int .i64 q.setup.points, .int .i64 q.setup.most, .int .i64 q.setup.pen, .slice B1 q.setup.entries.length Bk1, .int .i64 q.setup.dflt, .slice B2 q.setup.bigrams.length Bk2, .int .i64 q.setup.pause] 61)).drew
   have X := ((Row.new ((w.alloc (.cells #[.int .i64 p.setup.band, .slice A0 p.setup.temps.length Ak0, .int .i64 p.setup.points, .int .i64 p.setup.most, .int .i64 p.setup.pen, .slice A1 p.setup.entries.length Ak1, .int .i64 p.setup.dflt, .slice A2 p.setup.bigrams.length Ak2, .int .i64 p.setup.pause, .slice A3 p.strokes.length Ak3, .slice A4 p.opn.length Ak4, .int .i64 p.time, .slice A5 p.words.length Ak5] 67)).alloc (.cells #[.int .i64 q.setup.band, .slice B0 q.setup.temps.length Bk0, .int .i64 q.setup.points, .int .i64 q.setup.most, .int .i64 q.setup.pen, .slice B1 q.setup.entries.length Bk1, .int .i64 q.setup.dflt, .slice B2 q.setup.bigrams.length Bk2, .int .i64 q.setup.pause, .slice B3 q.strokes.length Bk3, .slice B4 q.opn.length Bk4, .int .i64 q.time, .slice B5 q.words.length Bk5] 67)) 61 #[.int .i64 p.setup.band, .slice A0 p.setup.temps.length Ak0, .int .i64 p.setup.points, .int .i64 p.setup.most, .int .i64 p.setup.pen, .slice A1 p.setup.entries.length Ak1, .int .i64 p.setup.dflt, .slice A2 p.setup.bigrams.length Ak2, .int .i64 p.setup.pause]).alloc (.cells #[.int .i64 q.setup.band, .slice B0 q.setup.temps.length Bk0, .int .i64 q.setup.points, .int .i64 q.setup.most, .int .i64 q.setup.pen, .slice B1 q.setup.entries.length Bk1, .int .i64 q.setup.dflt, .slice B2 q.setup.bigrams.length Bk2, .int .i64 q.setup.pause] 61)).drew
   have Y := (Row.new (((w.alloc (.cells #[.int .i64 p.setup.band, .slice A0 p.setup.temps.length Ak0, .int .i64 p.setup.points, .int .i64 p.setup.most, .int .i64 p.setup.pen, .slice A1 p.setup.entries.length Ak1, .int .i64 p.setup.dflt, .slice A2 p.setup.bigrams.length Ak2, .int .i64 p.setup.pause, .slice A3 p.strokes.length Ak3, .slice A4 p.opn.length Ak4, .int .i64 p.time, .slice A5 p.words.length Ak5] 67)).alloc (.cells #[.int .i64 q.setup.band, .slice B0 q.setup.temps.length Bk0, .int .i64 q.setup.points, .int .i64 q.setup.most, .int .i64 q.setup.pen, .slice B1 q.setup.entries.length Bk1, .int .i64 q.setup.dflt, .slice B2 q.setup.bigrams.length Bk2, .int .i64 q.setup.pause, .slice B3 q.strokes.length Bk3, .slice B4 q.opn.length Bk4, .int .i64 q.time, .slice B5 q.words.length Bk5] 67)).alloc (.cells #[.int .i64 p.setup.band, .slice A0 p.setup.temps.length Ak0, .int .i64 p.setup.points, .int .i64 p.setup.most, .int .i64 p.setup.pen, .slice A1 p.setup.entries.length Ak1, .int .i64 p.setup.dflt, .slice A2 p.setup.bigrams.length Ak2, .int .i64 p.setup.pause] 61)) 61 #[.int .i64 q.setup.band, .slice B0 q.setup.temps.length Bk0, .int .i64 q.setup.points, .int .i64 q.setup.most, .int .i64 q.setup.pen, .slice B1 q.setup.entries.length Bk1, .int .i64 q.setup.dflt, .slice B2 q.setup.bigrams.length Bk2, .int .i64 q.setup.pause]).drew
   simp only [World.size_alloc] at Q X Y
   have bb : Below w.heap.size w ((((w.alloc (.cells #[.int .i64 p.setup.band, .slice A0 p.setup.temps.length Ak0, .int .i64 p.setup.points, .int .i64 p.setup.most, .int .i64 p.setup.pen, .slice A1 p.setup.entries.length Ak1, .int .i64 p.setup.dflt, .slice A2 p.setup.bigrams.length Ak2, .int .i64 p.setup.pause, .slice A3 p.strokes.length Ak3, .slice A4 p.opn.length Ak4, .int .i64 p.time, .slice A5 p.words.length Ak5] 67)).alloc (.cells #[.int .i64 q.setup.band, .slice B0 q.setup.temps.length Bk0, .int .i64 q.setup.points, .int .i64 q.setup.most, .int .i64 q.setup.pen, .slice B1 q.setup.entries.length Bk1, .int .i64 q.setup.dflt, .slice B2 q.setup.bigrams.length Bk2, .int .i64 q.setup.pause, .slice B3 q.strokes.length Bk3, .slice B4 q.opn.length Bk4, .int .i64 q.time, .slice B5 q.words.length Bk5] 67)).alloc (.cells #[.int .i64 p.setup.band, .slice A0 p.setup.temps.length Ak0, .int .i64 p.setup.points, .int .i64 p.setup.most, .int .i64 p.setup.pen, .slice A1 p.setup.entries.length Ak1, .int .i64 p.setup.dflt, .slice A2 p.setup.bigrams.length Ak2, .int .i64 p.setup.pause] 61)).alloc (.cells #[.int .i64 q.setup.band, .slice B0 q.setup.temps.length Bk0, .int .i64 q.setup.points, .int .i64 q.setup.most, .int .i64 q.setup.pen, .slice B1 q.setup.entries.length Bk1, .int .i64 q.setup.dflt, .slice B2 q.setup.bigrams.length Bk2, .int .i64 q.setup.pause] 61)).drew := (((((Below.refl _ _).alloc (Nat.le_refl _) _).alloc (by simp) _).alloc (by simp; omega) _).alloc (by simp; omega) _).drew
   replace h0 := ((((h0.alloc (.cells #[.int .i64 p.setup.band, .slice A0 p.setup.temps.length Ak0, .int .i64 p.setup.points, .int .i64 p.setup.most, .int .i64 p.setup.pen, .slice A1 p.setup.entries.length Ak1, .int .i64 p.setup.dflt, .slice A2 p.setup.bigrams.length Ak2, .int .i64 p.setup.pause, .slice A3 p.strokes.length Ak3, .slice A4 p.opn.length Ak4, .int .i64 p.time, .slice A5 p.words.length Ak5] 67)).alloc (.cells #[.int .i64 q.setup.band, .slice B0 q.setup.temps.length Bk0, .int .i64 q.setup.points, .int .i64 q.setup.most, .int .i64 q.setup.pen, .slice B1 q.setup.entries.length Bk1, .int .i64 q.setup.dflt, .slice B2 q.setup.bigrams.length Bk2, .int .i64 q.setup.pause, .slice B3 q.strokes.length Bk3, .slice B4 q.opn.length Bk4, .int .i64 q.time, .slice B5 q.words.length Bk5] 67)).alloc (.cells #[.int .i64 p.setup.band, .slice A0 p.setup.temps.length Ak0, .int .i64 p.setup.points, .int .i64 p.setup.most, .int .i64 p.setup.pen, .slice A1 p.setup.entries.length Ak1, .int .i64 p.setup.dflt, .slice A2 p.setup.bigrams.length Ak2, .int .i64 p.setup.pause] 61)).alloc (.cells #[.int .i64 q.setup.band, .slice B0 q.setup.temps.length Bk0, .int .i64 q.setup.points, .int .i64 q.setup.most, .int .i64 q.setup.pen, .slice B1 q.setup.entries.length Bk1, .int .i64 q.setup.dflt, .slice B2 q.setup.bigrams.length Bk2, .int .i64 q.setup.pause] 61)).drew
   replace k0 := ((((k0.alloc (.cells #[.int .i64 p.setup.band, .slice A0 p.setup.temps.length Ak0, .int .i64 p.setup.points, .int .i64 p.setup.most, .int .i64 p.setup.pen, .slice A1 p.setup.entries.length Ak1, .int .i64 p.setup.dflt, .slice A2 p.setup.bigrams.length Ak2, .int .i64 p.setup.pause, .slice A3 p.strokes.length Ak3, .slice A4 p.opn.length Ak4, .int .i64 p.time, .slice A5 p.words.length Ak5] 67)).alloc (.cells #[.int .i64 q.setup.band, .slice B0 q.setup.temps.length Bk0, .int .i64 q.setup.points, .int .i64 q.setup.most, .int .i64 q.setup.pen, .slice B1 q.setup.entries.length Bk1, .int .i64 q.setup.dflt, .slice B2 q.setup.bigrams.length Bk2, .int .i64 q.setup.pause, .slice B3 q.strokes.length Bk3, .slice B4 q.opn.length Bk4, .int .i64 q.time, .slice B5 q.words.length Bk5] 67)).alloc (.cells #[.int .i64 p.setup.band, .slice A0 p.setup.temps.length Ak0, .int .i64 p.setup.points, .int .i64 p.setup.most, .int .i64 p.setup.pen, .slice A1 p.setup.entries.length Ak1, .int .i64 p.setup.dflt, .slice A2 p.setup.bigrams.length Ak2, .int .i64 p.setup.pause] 61)).alloc (.cells #[.int .i64 q.setup.band, .slice B0 q.setup.temps.length Bk0, .int .i64 q.setup.points, .int .i64 q.setup.most, .int .i64 q.setup.pen, .slice B1 q.setup.entries.length Bk1, .int .i64 q.setup.dflt, .slice B2 q.setup.bigrams.length Bk2, .int .i64 q.setup.pause] 61)).drew
   replace h1 := ((((h1.alloc (.cells #[.int .i64 p.setup.band, .slice A0 p.setup.temps.length Ak0, .int .i64 p.setup.points, .int .i64 p.setup.most, .int .i64 p.setup.pen, .slice A1 p.setup.entries.length Ak1, .int .i64 p.setup.dflt, .slice A2 p.setup.bigrams.length Ak2, .int .i64 p.setup.pause, .slice A3 p.strokes.length Ak3, .slice A4 p.opn.length Ak4, .int .i64 p.time, .slice A5 p.words.length Ak5] 67)).alloc (.cells #[.int .i64 q.setup.band, .slice B0 q.setup.temps.length Bk0, .int .i64 q.setup.points, .int .i64 q.setup.most, .int .i64 q.setup.pen, .slice B1 q.setup.entries.length Bk1, .int .i64 q.setup.dflt, .slice B2 q.setup.bigrams.length Bk2, .int .i64 q.setup.pause, .slice B3 q.strokes.length Bk3, .slice B4 q.opn.length Bk4, .int .i64 q.time, .slice B5 q.words.length Bk5] 67)).alloc (.cells #[.int .i64 p.setup.band, .slice A0 p.setup.temps.length Ak0, .int .i64 p.setup.points, .int .i64 p.setup.most, .int .i64 p.setup.pen, .slice A1 p.setup.entries.length Ak1, .int .i64 p.setup.dflt, .slice A2 p.setup.bigrams.length Ak2, .int .i64 p.setup.pause] 61)).alloc (.cells #[.int .i64 q.setup.band, .slice B0 q.setup.temps.length Bk0, .int .i64 q.setup.points, .int .i64 q.setup.most, .int .i64 q.setup.pen, .slice B1 q.setup.entries.length Bk1, .int .i64 q.setup.dflt, .slice B2 q.setup.bigrams.length Bk2, .int .i64 q.setup.pause] 61)).drew
   replace k1 := ((((k1.alloc (.cells #[.int .i64 p.setup.band, .slice A0 p.setup.temps.length Ak0, .int .i64 p.setup.points, .int .i64 p.setup.most, .int .i64 p.setup.pen, .slice A1 p.setup.entries.length Ak1, .int .i64 p.setup.dflt, .slice A2 p.setup.bigrams.length Ak2, .int .i64 p.setup.pause, .slice A3 p.strokes.length Ak3, .slice A4 p.opn.length Ak4, .int .i64 p.time, .slice A5 p.words.length Ak5] 67)).alloc (.cells #[.int .i64 q.setup.band, .slice B0 q.setup.temps.length Bk0, .int .i64 q.setup.points, .int .i64 q.setup.most, .int .i64 q.setup.pen, .slice B1 q.setup.entries.length Bk1, .int .i64 q.setup.dflt, .slice B2 q.setup.bigrams.length Bk2, .int .i64 q.setup.pause, .slice B3 q.strokes.length Bk3, .slice B4 q.opn.length Bk4, .int .i64 q.time, .slice B5 q.words.length Bk5] 67)).alloc (.cells #[.int .i64 p.setup.band, .slice A0 p.setup.temps.length Ak0, .int .i64 p.setup.points, .int .i64 p.setup.most, .int .i64 p.setup.pen, .slice A1 p.setup.entries.length Ak1, .int .i64 p.setup.dflt, .slice A2 p.setup.bigrams.length Ak2, .int .i64 p.setup.pause] 61)).alloc (.cells #[.int .i64 q.setup.band, .slice B0 q.setup.temps.length Bk0, .int .i64 q.setup.points, .int .i64 q.setup.most, .int .i64 q.setup.pen, .slice B1 q.setup.entries.length Bk1, .int .i64 q.setup.dflt, .slice B2 q.setup.bigrams.length Bk2, .int .i64 q.setup.pause] 61)).drew
   replace h2 := ((((h2.alloc (.cells #[.int .i64 p.setup.band, .slice A0 p.setup.temps.length Ak0, .int .i64 p.setup.points, .int .i64 p.setup.most, .int .i64 p.setup.pen, .slice A1 p.setup.entries.length Ak1, .int .i64 p.setup.dflt, .slice A2 p.setup.bigrams.length Ak2, .int .i64 p.setup.pause, .slice A3 p.strokes.length Ak3, .slice A4 p.opn.length Ak4, .int .i64 p.time, .slice A5 p.words.length Ak5] 67)).alloc (.cells #[.int .i64 q.setup.band, .slice B0 q.setup.temps.length Bk0, .int .i64 q.setup.points, .int .i64 q.setup.most, .int .i64 q.setup.pen, .slice B1 q.setup.entries.length Bk1, .int .i64 q.setup.dflt, .slice B2 q.setup.bigrams.length Bk2, .int .i64 q.setup.pause, .slice B3 q.strokes.length Bk3, .slice B4 q.opn.length Bk4, .int .i64 q.time, .slice B5 q.words.length Bk5] 67)).alloc (.cells #[.int .i64 p.setup.band, .slice A0 p.setup.temps.length Ak0, .int .i64 p.setup.points, .int .i64 p.setup.most, .int .i64 p.setup.pen, .slice A1 p.setup.entries.length Ak1, .int .i64 p.setup.dflt, .slice A2 p.setup.bigrams.length Ak2, .int .i64 p.setup.pause] 61)).alloc (.cells #[.int .i64 q.setup.band, .slice B0 q.setup.temps.length Bk0, .int .i64 q.setup.points, .int .i64 q.setup.most, .int .i64 q.setup.pen, .slice B1 q.setup.entries.length Bk1, .int .i64 q.setup.dflt, .slice B2 q.setup.bigrams.length Bk2, .int .i64 q.setup.pause] 61)).drew
   replace k2 := ((((k2.alloc (.cells #[.int .i64 p.setup.band, .slice A0 p.setup.temps.length Ak0, .int .i64 p.setup.points, .int .i64 p.setup.most, .int .i64 p.setup.pen, .slice A1 p.setup.entries.length Ak1, .int .i64 p.setup.dflt, .slice A2 p.setup.bigrams.length Ak2, .int .i64 p.setup.pause, .slice A3 p.strokes.length Ak3, .slice A4 p.opn.length Ak4, .int .i64 p.time, .slice A5 p.words.length Ak5] 67)).alloc (.cells #[.int .i64 q.setup.band, .slice B0 q.setup.temps.length Bk0, .int .i64 q.setup.points, .int .i64 q.setup.most, .int .i64 q.setup.pen, .slice B1 q.setup.entries.length Bk1, .int .i64 q.setup.dflt, .slice B2 q.setup.bigrams.length Bk2, .int .i64 q.setup.pause, .slice B3 q.strokes.length Bk3, .slice B4 q.opn.length Bk4, .int .i64 q.time, .slice B5 q.words.length Bk5] 67)).alloc (.cells #[.int .i64 p.setup.band, .slice A0 p.setup.temps.length Ak0, .int .i64 p.setup.points, .int .i64 p.setup.most, .int .i64 p.setup.pen, .slice A1 p.setup.entries.length Ak1, .int .i64 p.setup.dflt, .slice A2 p.setup.bigrams.length Ak2, .int .i64 p.setup.pause] 61)).alloc (.cells #[.int .i64 q.setup.band, .slice B0 q.setup.temps.length Bk0, .int .i64 q.setup.points, .int .i64 q.setup.most, .int .i64 q.setup.pen, .slice B1 q.setup.entries.length Bk1, .int .i64 q.setup.dflt, .slice B2 q.setup.bigrams.length Bk2, .int .i64 q.setup.pause] 61)).drew
   replace h3 := ((((h3.alloc (.cells #[.int .i64 p.setup.band, .slice A0 p.setup.temps.length Ak0, .int .i64 p.setup.points, .int .i64 p.setup.most, .int .i64 p.setup.pen, .slice A1 p.setup.entries.length Ak1, .int .i64 p.setup.dflt, .slice A2 p.setup.bigrams.length Ak2, .int .i64 p.setup.pause, .slice A3 p.strokes.length Ak3, .slice A4 p.opn.length Ak4, .int .i64 p.time, .slice A5 p.words.length Ak5] 67)).alloc (.cells #[.int .i64 q.setup.band, .slice B0 q.setup.temps.length Bk0, .int .i64 q.setup.points, .int .i64 q.setup.most, .int .i64 q.setup.pen, .slice B1 q.setup.entries.length Bk1, .int .i64 q.setup.dflt, .slice B2 q.setup.bigrams.length Bk2, .int .i64 q.setup.pause, .slice B3 q.strokes.length Bk3, .slice B4 q.opn.length Bk4, .int .i64 q.time, .slice B5 q.words.length Bk5] 67)).alloc (.cells #[.int .i64 p.setup.band, .slice A0 p.setup.temps.length Ak0, .int .i64 p.setup.points, .int .i64 p.setup.most, .int .i64 p.setup.pen, .slice A1 p.setup.entries.length Ak1, .int .i64 p.setup.dflt, .slice A2 p.setup.bigrams.length Ak2, .int .i64 p.setup.pause] 61)).alloc (.cells #[.int .i64 q.setup.band, .slice B0 q.setup.temps.length Bk0, .int .i64 q.setup.points, .int .i64 q.setup.most, .int .i64 q.setup.pen, .slice B1 q.setup.entries.length Bk1, .int .i64 q.setup.dflt, .slice B2 q.setup.bigrams.length Bk2, .int .i64 q.setup.pause] 61)).drew
   replace k3 := ((((k3.alloc (.cells #[.int .i64 p.setup.band, .slice A0 p.setup.temps.length Ak0, .int .i64 p.setup.points, .int .i64 p.setup.most, .int .i64 p.setup.pen, .slice A1 p.setup.entries.length Ak1, .int .i64 p.setup.dflt, .slice A2 p.setup.bigrams.length Ak2, .int .i64 p.setup.pause, .slice A3 p.strokes.length Ak3, .slice A4 p.opn.length Ak4, .int .i64 p.time, .slice A5 p.words.length Ak5] 67)).alloc (.cells #[.int .i64 q.setup.band, .slice B0 q.setup.temps.length Bk0, .int .i64 q.setup.points, .int .i64 q.setup.most, .int .i64 q.setup.pen, .slice B1 q.setup.entries.length Bk1, .int .i64 q.setup.dflt, .slice B2 q.setup.bigrams.length Bk2, .int .i64 q.setup.pause, .slice B3 q.strokes.length Bk3, .slice B4 q.opn.length Bk4, .int .i64 q.time, .slice B5 q.words.length Bk5] 67)).alloc (.cells #[.int .i64 p.setup.band, .slice A0 p.setup.temps.length Ak0, .int .i64 p.setup.points, .int .i64 p.setup.most, .int .i64 p.setup.pen, .slice A1 p.setup.entries.length Ak1, .int .i64 p.setup.dflt, .slice A2 p.setup.bigrams.length Ak2, .int .i64 p.setup.pause] 61)).alloc (.cells #[.int .i64 q.setup.band, .slice B0 q.setup.temps.length Bk0, .int .i64 q.setup.points, .int .i64 q.setup.most, .int .i64 q.setup.pen, .slice B1 q.setup.entries.length Bk1, .int .i64 q.setup.dflt, .slice B2 q.setup.bigrams.length Bk2, .int .i64 q.setup.pause] 61)).drew
   replace h4 := ((((h4.alloc (.cells #[.int .i64 p.setup.band, .slice A0 p.setup.temps.length Ak0, .int .i64 p.setup.points, .int .i64 p.setup.most, .int .i64 p.setup.pen, .slice A1 p.setup.entries.length Ak1, .int .i64 p.setup.dflt, .slice A2 p.setup.bigrams.length Ak2, .int .i64 p.setup.pause, .slice A3 p.strokes.length Ak3, .slice A4 p.opn.length Ak4, .int .i64 p.time, .slice A5 p.words.length Ak5] 67)).alloc (.cells #[.int .i64 q.setup.band, .slice B0 q.setup.temps.length Bk0, .int .i64 q.setup.points, .int .i64 q.setup.most, .int .i64 q.setup.pen, .slice B1 q.setup.entries.length Bk1, .int .i64 q.setup.dflt, .slice B2 q.setup.bigrams.length Bk2, .int .i64 q.setup.pause, .slice B3 q.strokes.length Bk3, .slice B4 q.opn.length Bk4, .int .i64 q.time, .slice B5 q.words.length Bk5] 67)).alloc (.cells #[.int .i64 p.setup.band, .slice A0 p.setup.temps.length Ak0, .int .i64 p.setup.points, .int .i64 p.setup.most, .int .i64 p.setup.pen, .slice A1 p.setup.entries.length Ak1, .int .i64 p.setup.dflt, .slice A2 p.setup.bigrams.length Ak2, .int .i64 p.setup.pause] 61)).alloc (.cells #[.int .i64 q.setup.band, .slice B0 q.setup.temps.length Bk0, .int .i64 q.setup.points, .int .i64 q.setup.most, .int .i64 q.setup.pen, .slice B1 q.setup.entries.length Bk1, .int .i64 q.setup.dflt, .slice B2 q.setup.bigrams.length Bk2, .int .i64 q.setup.pause] 61)).drew
   replace k4 := ((((k4.alloc (.cells #[.int .i64 p.setup.band, .slice A0 p.setup.temps.length Ak0, .int .i64 p.setup.points, .int .i64 p.setup.most, .int .i64 p.setup.pen, .slice A1 p.setup.entries.length Ak1, .int .i64 p.setup.dflt, .slice A2 p.setup.bigrams.length Ak2, .int .i64 p.setup.pause, .slice A3 p.strokes.length Ak3, .slice A4 p.opn.length Ak4, .int .i64 p.time, .slice A5 p.words.length Ak5] 67)).alloc (.cells #[.int .i64 q.setup.band, .slice B0 q.setup.temps.length Bk0, .int .i64 q.setup.points, .int .i64 q.setup.most, .int .i64 q.setup.pen, .slice B1 q.setup.entries.length Bk1, .int .i64 q.setup.dflt, .slice B2 q.setup.bigrams.length Bk2, .int .i64 q.setup.pause, .slice B3 q.strokes.length Bk3, .slice B4 q.opn.length Bk4, .int .i64 q.time, .slice B5 q.words.length Bk5] 67)).alloc (.cells #[.int .i64 p.setup.band, .slice A0 p.setup.temps.length Ak0, .int .i64 p.setup.points, .int .i64 p.setup.most, .int .i64 p.setup.pen, .slice A1 p.setup.entries.length Ak1, .int .i64 p.setup.dflt, .slice A2 p.setup.bigrams.length Ak2, .int .i64 p.setup.pause] 61)).alloc (.cells #[.int .i64 q.setup.band, .slice B0 q.setup.temps.length Bk0, .int .i64 q.setup.points, .int .i64 q.setup.most, .int .i64 q.setup.pen, .slice B1 q.setup.entries.length Bk1, .int .i64 q.setup.dflt, .slice B2 q.setup.bigrams.length Bk2, .int .i64 q.setup.pause] 61)).drew
   replace h5 := ((((h5.alloc (.cells #[.int .i64 p.setup.band, .slice A0 p.setup.temps.length Ak0, .int .i64 p.setup.points, .int .i64 p.setup.most, .int .i64 p.setup.pen, .slice A1 p.setup.entries.length Ak1, .int .i64 p.setup.dflt, .slice A2 p.setup.bigrams.length Ak2, .int .i64 p.setup.pause, .slice A3 p.strokes.length Ak3, .slice A4 p.opn.length Ak4, .int .i64 p.time, .slice A5 p.words.length Ak5] 67)).alloc (.cells #[.int .i64 q.setup.band, .slice B0 q.setup.temps.length Bk0, .int .i64 q.setup.points, .int .i64 q.setup.most, .int .i64 q.setup.pen, .slice B1 q.setup.entries.length Bk1, .int .i64 q.setup.dflt, .slice B2 q.setup.bigrams.length Bk2, .int .i64 q.setup.pause, .slice B3 q.strokes.length Bk3, .slice B4 q.opn.length Bk4, .int .i64 q.time, .slice B5 q.words.length Bk5] 67)).alloc (.cells #[.int .i64 p.setup.band, .slice A0 p.setup.temps.length Ak0, .int .i64 p.setup.points, .int .i64 p.setup.most, .int .i64 p.setup.pen, .slice A1 p.setup.entries.length Ak1, .int .i64 p.setup.dflt, .slice A2 p.setup.bigrams.length Ak2, .int .i64 p.setup.pause] 61)).alloc (.cells #[.int .i64 q.setup.band, .slice B0 q.setup.temps.length Bk0, .int .i64 q.setup.points, .int .i64 q.setup.most, .int .i64 q.setup.pen, .slice B1 q.setup.entries.length Bk1, .int .i64 q.setup.dflt, .slice B2 q.setup.bigrams.length Bk2, .int .i64 q.setup.pause] 61)).drew
   replace k5 := ((((k5.alloc (.cells #[.int .i64 p.setup.band, .slice A0 p.setup.temps.length Ak0, .int .i64 p.setup.points, .int .i64 p.setup.most, .int .i64 p.setup.pen, .slice A1 p.setup.entries.length Ak1, .int .i64 p.setup.dflt, .slice A2 p.setup.bigrams.length Ak2, .int .i64 p.setup.pause, .slice A3 p.strokes.length Ak3, .slice A4 p.opn.length Ak4, .int .i64 p.time, .slice A5 p.words.length Ak5] 67)).alloc (.cells #[.int .i64 q.setup.band, .slice B0 q.setup.temps.length Bk0, .int .i64 q.setup.points, .int .i64 q.setup.most, .int .i64 q.setup.pen, .slice B1 q.setup.entries.length Bk1, .int .i64 q.setup.dflt, .slice B2 q.setup.bigrams.length Bk2, .int .i64 q.setup.pause, .slice B3 q.strokes.length Bk3, .slice B4 q.opn.length Bk4, .int .i64 q.time, .slice B5 q.words.length Bk5] 67)).alloc (.cells #[.int .i64 p.setup.band, .slice A0 p.setup.temps.length Ak0, .int .i64 p.setup.points, .int .i64 p.setup.most, .int .i64 p.setup.pen, .slice A1 p.setup.entries.length Ak1, .int .i64 p.setup.dflt, .slice A2 p.setup.bigrams.length Ak2, .int .i64 p.setup.pause] 61)).alloc (.cells #[.int .i64 q.setup.band, .slice B0 q.setup.temps.length Bk0, .int .i64 q.setup.points, .int .i64 q.setup.most, .int .i64 q.setup.pen, .slice B1 q.setup.entries.length Bk1, .int .i64 q.setup.dflt, .slice B2 q.setup.bigrams.length Bk2, .int .i64 q.setup.pause] 61)).drew
   generalize ((((w.alloc (.cells #[.int .i64 p.setup.band, .slice A0 p.setup.temps.length Ak0, .int .i64 p.setup.points, .int .i64 p.setup.most, .int .i64 p.setup.pen, .slice A1 p.setup.entries.length Ak1, .int .i64 p.setup.dflt, .slice A2 p.setup.bigrams.length Ak2, .int .i64 p.setup.pause, .slice A3 p.strokes.length Ak3, .slice A4 p.opn.length Ak4, .int .i64 p.time, .slice A5 p.words.length Ak5] 67)).alloc (.cells #[.int .i64 q.setup.band, .slice B0 q.setup.temps.length Bk0, .int .i64 q.setup.points, .int .i64 q.setup.most, .int .i64 q.setup.pen, .slice B1 q.setup.entries.length Bk1, .int .i64 q.setup.dflt, .slice B2 q.setup.bigrams.length Bk2, .int .i64 q.setup.pause, .slice B3 q.strokes.length Bk3, .slice B4 q.opn.length Bk4, .int .i64 q.time, .slice B5 q.words.length Bk5] 67)).alloc (.cells #[.int .i64 p.setup.band, .slice A0 p.setup.temps.length Ak0, .int .i64 p.setup.points, .int .i64 p.setup.most, .int .i64 p.setup.pen, .slice A1 p.setup.entries.length Ak1, .int .i64 p.setup.dflt, .slice A2 p.setup.bigrams.length Ak2, .int .i64 p.setup.pause] 61)).alloc (.cells #[.int .i64 q.setup.band, .slice B0 q.setup.temps.length Bk0, .int .i64 q.setup.points, .int .i64 q.setup.most, .int .i64 q.setup.pen, .slice B1 q.setup.entries.length Bk1, .int .i64 q.setup.dflt, .slice B2 q.setup.bigrams.length Bk2, .int .i64 q.setup.pause] 61)).drew = W at *
   have qr0 := R.cell' (i := 0) rfl
   have qq0 := Q.cell' (i := 0) rfl
   have qr1 := R.cell' (i := 1) rfl
   have qq1 := Q.cell' (i := 1) rfl
   have qr2 := R.cell' (i := 2) rfl
   have qq2 := Q.cell' (i := 2) rfl
   have qr3 := R.cell' (i := 3) rfl
   have qq3 := Q.cell' (i := 3) rfl
   have qr4 := R.cell' (i := 4) rfl
   have qq4 := Q.cell' (i := 4) rfl
   have qr5 := R.cell' (i := 5) rfl
   have qq5 := Q.cell' (i := 5) rfl
   have qr6 := R.cell' (i := 6) rfl
   have qq6 := Q.cell' (i := 6) rfl
   have qr7 := R.cell' (i := 7) rfl
   have qq7 := Q.cell' (i := 7) rfl
   have qr8 := R.cell' (i := 8) rfl
   have qq8 := Q.cell' (i := 8) rfl
   have qr9 := R.cell' (i := 9) rfl
   have qq9 := Q.cell' (i := 9) rfl
   have qr10 := R.cell' (i := 10) rfl
   have qq10 := Q.cell' (i := 10) rfl
   have qr11 := R.cell' (i := 11) rfl
   have qq11 := Q.cell' (i := 11) rfl
   have qr12 := R.cell' (i := 12) rfl
   have qq12 := Q.cell' (i := 12) rfl
   have qx0 := X.cell' (i := 0) rfl
   have qy0 := Y.cell' (i := 0) rfl
   have qx1 := X.cell' (i := 1) rfl
   have qy1 := Y.cell' (i := 1) rfl
   have qx2 := X.cell' (i := 2) rfl
   have qy2 := Y.cell' (i := 2) rfl
   have qx3 := X.cell' (i := 3) rfl
   have qy3 := Y.cell' (i := 3) rfl
   have qx4 := X.cell' (i := 4) rfl
   have qy4 := Y.cell' (i := 4) rfl
   have qx5 := X.cell' (i := 5) rfl
   have qy5 := Y.cell' (i := 5) rfl
   have qx6 := X.cell' (i := 6) rfl
   have qy6 := Y.cell' (i := 6) rfl
   have qx7 := X.cell' (i := 7) rfl
   have qy7 := Y.cell' (i := 7) rfl
   have qx8 := X.cell' (i := 8) rfl
   have qy8 := Y.cell' (i := 8) rfl
   go_wp2_with fail
   refine (C0.out _ h0 k0).mono ?_
   rintro e w1 ⟨rfl, b1⟩
   clear qr0 qr1 qr2 qr3 qr4 qr5 qr6 qr7 qr8 qr9 qr10 qr11 qr12 qq0 qq1 qq2 qq3 qq4 qq5 qq6 qq7 qq8 qq9 qq10 qq11 qq12 qx0 qx1 qx2 qx3 qx4 qx5 qx6 qx7 qx8 qy0 qy1 qy2 qy3 qy4 qy5 qy6 qy7 qy8
   replace bb := bb.trans (b1.mono bb.size)
   replace R := R.later b1
   replace Q := Q.later b1
   replace X := X.later b1
   replace Y := Y.later b1
   replace h0 := h0.below b1
   replace k0 := k0.below b1
   replace h1 := h1.below b1
   replace k1 := k1.below b1
   replace h2 := h2.below b1
   replace k2 := k2.below b1
   replace h3 := h3.below b1
   replace k3 := k3.below b1
   replace h4 := h4.below b1
   replace k4 := k4.below b1
   replace h5 := h5.below b1
   replace k5 := k5.below b1
   have qr0 := R.cell' (i := 0) rfl
   have qq0 := Q.cell' (i := 0) rfl
   have qr1 := R.cell' (i := 1) rfl
   have qq1 := Q.cell' (i := 1) rfl
   have qr2 := R.cell' (i := 2) rfl
   have qq2 := Q.cell' (i := 2) rfl
   have qr3 := R.cell' (i := 3) rfl
   have qq3 := Q.cell' (i := 3) rfl
   have qr4 := R.cell' (i := 4) rfl
   have qq4 := Q.cell' (i := 4) rfl
   have qr5 := R.cell' (i := 5) rfl
   have qq5 := Q.cell' (i := 5) rfl
   have qr6 := R.cell' (i := 6) rfl
   have qq6 := Q.cell' (i := 6) rfl
   have qr7 := R.cell' (i := 7) rfl
   have qq7 := Q.cell' (i := 7) rfl
   have qr8 := R.cell' (i := 8) rfl
   have qq8 := Q.cell' (i := 8) rfl
   have qr9 := R.cell' (i := 9) rfl
   have qq9 := Q.cell' (i := 9) rfl
   have qr10 := R.cell' (i := 10) rfl
   have qq10 := Q.cell' (i := 10) rfl
   have qr11 := R.cell' (i := 11) rfl
   have qq11 := Q.cell' (i := 11) rfl
   have qr12 := R.cell' (i := 12) rfl
   have qq12 := Q.cell' (i := 12) rfl
   have qx0 := X.cell' (i := 0) rfl
   have qy0 := Y.cell' (i := 0) rfl
   have qx1 := X.cell' (i := 1) rfl
   have qy1 := Y.cell' (i := 1) rfl
   have qx2 := X.cell' (i := 2) rfl
   have qy2 := Y.cell' (i := 2) rfl
   have qx3 := X.cell' (i := 3) rfl
   have qy3 := Y.cell' (i := 3) rfl
   have qx4 := X.cell' (i := 4) rfl
   have qy4 := Y.cell' (i := 4) rfl
   have qx5 := X.cell' (i := 5) rfl
   have qy5 := Y.cell' (i := 5) rfl
   have qx6 := X.cell' (i := 6) rfl
   have qy6 := Y.cell' (i := 6) rfl
   have qx7 := X.cell' (i := 7) rfl
   have qy7 := Y.cell' (i := 7) rfl
   have qx8 := X.cell' (i := 8) rfl
   have qy8 := Y.cell' (i := 8) rfl
   cases d0
   · go_wp2_with fail
     go_ret
     first | exact ⟨rfl, bb⟩ | exact ⟨by simp, bb⟩
   cases d1
   · go_wp2_with fail
     go_ret
     first | exact ⟨rfl, bb⟩ | exact ⟨by simp, bb⟩
   go_wp2_with fail
   refine (C2.out _ h1 k1).mono ?_
   rintro e w2 ⟨rfl, b2⟩
   clear qr0 qr1 qr2 qr3 qr4 qr5 qr6 qr7 qr8 qr9 qr10 qr11 qr12 qq0 qq1 qq2 qq3 qq4 qq5 qq6 qq7 qq8 qq9 qq10 qq11 qq12 qx0 qx1 qx2 qx3 qx4 qx5 qx6 qx7 qx8 qy0 qy1 qy2 qy3 qy4 qy5 qy6 qy7 qy8
   replace bb := bb.trans (b2.mono bb.size)
   replace R := R.later b2
   replace Q := Q.later b2
   replace X := X.later b2
   replace Y := Y.later b2
   replace h0 := h0.below b2
   replace k0 := k0.below b2
   replace h1 := h1.below b2
   replace k1 := k1.below b2
   replace h2 := h2.below b2
   replace k2 := k2.below b2
   replace h3 := h3.below b2
   replace k3 := k3.below b2
   replace h4 := h4.below b2
   replace k4 := k4.below b2
   replace h5 := h5.below b2
   replace k5 := k5.below b2
   have qr0 := R.cell' (i := 0) rfl
   have qq0 := Q.cell' (i := 0) rfl
   have qr1 := R.cell' (i := 1) rfl
   have qq1 := Q.cell' (i := 1) rfl
   have qr2 := R.cell' (i := 2) rfl
   have qq2 := Q.cell' (i := 2) rfl
   have qr3 := R.cell' (i := 3) rfl
   have qq3 := Q.cell' (i := 3) rfl
   have qr4 := R.cell' (i := 4) rfl
   have qq4 := Q.cell' (i := 4) rfl
   have qr5 := R.cell' (i := 5) rfl
   have qq5 := Q.cell' (i := 5) rfl
   have qr6 := R.cell' (i := 6) rfl
   have qq6 := Q.cell' (i := 6) rfl
   have qr7 := R.cell' (i := 7) rfl
   have qq7 := Q.cell' (i := 7) rfl
   have qr8 := R.cell' (i := 8) rfl
   have qq8 := Q.cell' (i := 8) rfl
   have qr9 := R.cell' (i := 9) rfl
   have qq9 := Q.cell' (i := 9) rfl
   have qr10 := R.cell' (i := 10) rfl
   have qq10 := Q.cell' (i := 10) rfl
   have qr11 := R.cell' (i := 11) rfl
   have qq11 := Q.cell' (i := 11) rfl
   have qr12 := R.cell' (i := 12) rfl
   have qq12 := Q.cell' (i := 12) rfl
   have qx0 := X.cell' (i := 0) rfl
   have qy0 := Y.cell' (i := 0) rfl
   have qx1 := X.cell' (i := 1) rfl
   have qy1 := Y.cell' (i := 1) rfl
   have qx2 := X.cell' (i := 2) rfl
   have qy2 := Y.cell' (i := 2) rfl
   have qx3 := X.cell' (i := 3) rfl
   have qy3 := Y.cell' (i := 3) rfl
   have qx4 := X.cell' (i := 4) rfl
   have qy4 := Y.cell' (i := 4) rfl
   have qx5 := X.cell' (i := 5) rfl
   have qy5 := Y.cell' (i := 5) rfl
   have qx6 := X.cell' (i := 6) rfl
   have qy6 := Y.cell' (i := 6) rfl
   have qx7 := X.cell' (i := 7) rfl
   have qy7 := Y.cell' (i := 7) rfl
   have qx8 := X.cell' (i := 8) rfl
   have qy8 := Y.cell' (i := 8) rfl
   cases d2
   · go_wp2_with fail
     go_ret
     first | exact ⟨rfl, bb⟩ | exact ⟨by simp, bb⟩
   go_wp2_with fail
   refine (C3.out _ h2 k2).mono ?_
   rintro e w3 ⟨rfl, b3⟩
   clear qr0 qr1 qr2 qr3 qr4 qr5 qr6 qr7 qr8 qr9 qr10 qr11 qr12 qq0 qq1 qq2 qq3 qq4 qq5 qq6 qq7 qq8 qq9 qq10 qq11 qq12 qx0 qx1 qx2 qx3 qx4 qx5 qx6 qx7 qx8 qy0 qy1 qy2 qy3 qy4 qy5 qy6 qy7 qy8
   replace bb := bb.trans (b3.mono bb.size)
   replace R := R.later b3
   replace Q := Q.later b3
   replace X := X.later b3
   replace Y := Y.later b3
   replace h0 := h0.below b3
   replace k0 := k0.below b3
   replace h1 := h1.below b3
   replace k1 := k1.below b3
   replace h2 := h2.below b3
   replace k2 := k2.below b3
   replace h3 := h3.below b3
   replace k3 := k3.below b3
   replace h4 := h4.below b3
   replace k4 := k4.below b3
   replace h5 := h5.below b3
   replace k5 := k5.below b3
   have qr0 := R.cell' (i := 0) rfl
   have qq0 := Q.cell' (i := 0) rfl
   have qr1 := R.cell' (i := 1) rfl
   have qq1 := Q.cell' (i := 1) rfl
   have qr2 := R.cell' (i := 2) rfl
   have qq2 := Q.cell' (i := 2) rfl
   have qr3 := R.cell' (i := 3) rfl
   have qq3 := Q.cell' (i := 3) rfl
   have qr4 := R.cell' (i := 4) rfl
   have qq4 := Q.cell' (i := 4) rfl
   have qr5 := R.cell' (i := 5) rfl
   have qq5 := Q.cell' (i := 5) rfl
   have qr6 := R.cell' (i := 6) rfl
   have qq6 := Q.cell' (i := 6) rfl
   have qr7 := R.cell' (i := 7) rfl
   have qq7 := Q.cell' (i := 7) rfl
   have qr8 := R.cell' (i := 8) rfl
   have qq8 := Q.cell' (i := 8) rfl
   have qr9 := R.cell' (i := 9) rfl
   have qq9 := Q.cell' (i := 9) rfl
   have qr10 := R.cell' (i := 10) rfl
   have qq10 := Q.cell' (i := 10) rfl
   have qr11 := R.cell' (i := 11) rfl
   have qq11 := Q.cell' (i := 11) rfl
   have qr12 := R.cell' (i := 12) rfl
   have qq12 := Q.cell' (i := 12) rfl
   have qx0 := X.cell' (i := 0) rfl
   have qy0 := Y.cell' (i := 0) rfl
   have qx1 := X.cell' (i := 1) rfl
   have qy1 := Y.cell' (i := 1) rfl
   have qx2 := X.cell' (i := 2) rfl
   have qy2 := Y.cell' (i := 2) rfl
   have qx3 := X.cell' (i := 3) rfl
   have qy3 := Y.cell' (i := 3) rfl
   have qx4 := X.cell' (i := 4) rfl
   have qy4 := Y.cell' (i := 4) rfl
   have qx5 := X.cell' (i := 5) rfl
   have qy5 := Y.cell' (i := 5) rfl
   have qx6 := X.cell' (i := 6) rfl
   have qy6 := Y.cell' (i := 6) rfl
   have qx7 := X.cell' (i := 7) rfl
   have qy7 := Y.cell' (i := 7) rfl
   have qx8 := X.cell' (i := 8) rfl
   have qy8 := Y.cell' (i := 8) rfl
   cases d3
   · go_wp2_with fail
     go_ret
     first | exact ⟨rfl, bb⟩ | exact ⟨by simp, bb⟩
   cases d4
   · go_wp2_with fail
     go_ret
     first | exact ⟨rfl, bb⟩ | exact ⟨by simp, bb⟩
   go_wp2_with fail
   refine (C5.out _ h3 k3).mono ?_
   rintro e w4 ⟨rfl, b4⟩
   clear qr0 qr1 qr2 qr3 qr4 qr5 qr6 qr7 qr8 qr9 qr10 qr11 qr12 qq0 qq1 qq2 qq3 qq4 qq5 qq6 qq7 qq8 qq9 qq10 qq11 qq12 qx0 qx1 qx2 qx3 qx4 qx5 qx6 qx7 qx8 qy0 qy1 qy2 qy3 qy4 qy5 qy6 qy7 qy8
   replace bb := bb.trans (b4.mono bb.size)
   replace R := R.later b4
   replace Q := Q.later b4
   replace X := X.later b4
   replace Y := Y.later b4
   replace h0 := h0.below b4
   replace k0 := k0.below b4
   replace h1 := h1.below b4
   replace k1 := k1.below b4
   replace h2 := h2.below b4
   replace k2 := k2.below b4
   replace h3 := h3.below b4
   replace k3 := k3.below b4
   replace h4 := h4.below b4
   replace k4 := k4.below b4
   replace h5 := h5.below b4
   replace k5 := k5.below b4
   have qr0 := R.cell' (i := 0) rfl
   have qq0 := Q.cell' (i := 0) rfl
   have qr1 := R.cell' (i := 1) rfl
   have qq1 := Q.cell' (i := 1) rfl
   have qr2 := R.cell' (i := 2) rfl
   have qq2 := Q.cell' (i := 2) rfl
   have qr3 := R.cell' (i := 3) rfl
   have qq3 := Q.cell' (i := 3) rfl
   have qr4 := R.cell' (i := 4) rfl
   have qq4 := Q.cell' (i := 4) rfl
   have qr5 := R.cell' (i := 5) rfl
   have qq5 := Q.cell' (i := 5) rfl
   have qr6 := R.cell' (i := 6) rfl
   have qq6 := Q.cell' (i := 6) rfl
   have qr7 := R.cell' (i := 7) rfl
   have qq7 := Q.cell' (i := 7) rfl
   have qr8 := R.cell' (i := 8) rfl
   have qq8 := Q.cell' (i := 8) rfl
   have qr9 := R.cell' (i := 9) rfl
   have qq9 := Q.cell' (i := 9) rfl
   have qr10 := R.cell' (i := 10) rfl
   have qq10 := Q.cell' (i := 10) rfl
   have qr11 := R.cell' (i := 11) rfl
   have qq11 := Q.cell' (i := 11) rfl
   have qr12 := R.cell' (i := 12) rfl
   have qq12 := Q.cell' (i := 12) rfl
   have qx0 := X.cell' (i := 0) rfl
   have qy0 := Y.cell' (i := 0) rfl
   have qx1 := X.cell' (i := 1) rfl
   have qy1 := Y.cell' (i := 1) rfl
   have qx2 := X.cell' (i := 2) rfl
   have qy2 := Y.cell' (i := 2) rfl
   have qx3 := X.cell' (i := 3) rfl
   have qy3 := Y.cell' (i := 3) rfl
   have qx4 := X.cell' (i := 4) rfl
   have qy4 := Y.cell' (i := 4) rfl
   have qx5 := X.cell' (i := 5) rfl
   have qy5 := Y.cell' (i := 5) rfl
   have qx6 := X.cell' (i := 6) rfl
   have qy6 := Y.cell' (i := 6) rfl
   have qx7 := X.cell' (i := 7) rfl
   have qy7 := Y.cell' (i := 7) rfl
   have qx8 := X.cell' (i := 8) rfl
   have qy8 := Y.cell' (i := 8) rfl
   cases d5
   · go_wp2_with fail
     go_ret
     first | exact ⟨rfl, bb⟩ | exact ⟨by simp, bb⟩
   go_wp2_with fail
   refine (C6.out _ h4 k4).mono ?_
   rintro e w5 ⟨rfl, b5⟩
   clear qr0 qr1 qr2 qr3 qr4 qr5 qr6 qr7 qr8 qr9 qr10 qr11 qr12 qq0 qq1 qq2 qq3 qq4 qq5 qq6 qq7 qq8 qq9 qq10 qq11 qq12 qx0 qx1 qx2 qx3 qx4 qx5 qx6 qx7 qx8 qy0 qy1 qy2 qy3 qy4 qy5 qy6 qy7 qy8
   replace bb := bb.trans (b5.mono bb.size)
   replace R := R.later b5
   replace Q := Q.later b5
   replace X := X.later b5
   replace Y := Y.later b5
   replace h0 := h0.below b5
   replace k0 := k0.below b5
   replace h1 := h1.below b5
   replace k1 := k1.below b5
   replace h2 := h2.below b5
   replace k2 := k2.below b5
   replace h3 := h3.below b5
   replace k3 := k3.below b5
   replace h4 := h4.below b5
   replace k4 := k4.below b5
   replace h5 := h5.below b5
   replace k5 := k5.below b5
   have qr0 := R.cell' (i := 0) rfl
   have qq0 := Q.cell' (i := 0) rfl
   have qr1 := R.cell' (i := 1) rfl
   have qq1 := Q.cell' (i := 1) rfl
   have qr2 := R.cell' (i := 2) rfl
   have qq2 := Q.cell' (i := 2) rfl
   have qr3 := R.cell' (i := 3) rfl
   have qq3 := Q.cell' (i := 3) rfl
   have qr4 := R.cell' (i := 4) rfl
   have qq4 := Q.cell' (i := 4) rfl
   have qr5 := R.cell' (i := 5) rfl
   have qq5 := Q.cell' (i := 5) rfl
   have qr6 := R.cell' (i := 6) rfl
   have qq6 := Q.cell' (i := 6) rfl
   have qr7 := R.cell' (i := 7) rfl
   have qq7 := Q.cell' (i := 7) rfl
   have qr8 := R.cell' (i := 8) rfl
   have qq8 := Q.cell' (i := 8) rfl
   have qr9 := R.cell' (i := 9) rfl
   have qq9 := Q.cell' (i := 9) rfl
   have qr10 := R.cell' (i := 10) rfl
   have qq10 := Q.cell' (i := 10) rfl
   have qr11 := R.cell' (i := 11) rfl
   have qq11 := Q.cell' (i := 11) rfl
   have qr12 := R.cell' (i := 12) rfl
   have qq12 := Q.cell' (i := 12) rfl
   have qx0 := X.cell' (i := 0) rfl
   have qy0 := Y.cell' (i := 0) rfl
   have qx1 := X.cell' (i := 1) rfl
   have qy1 := Y.cell' (i := 1) rfl
   have qx2 := X.cell' (i := 2) rfl
   have qy2 := Y.cell' (i := 2) rfl
   have qx3 := X.cell' (i := 3) rfl
   have qy3 := Y.cell' (i := 3) rfl
   have qx4 := X.cell' (i := 4) rfl
   have qy4 := Y.cell' (i := 4) rfl
   have qx5 := X.cell' (i := 5) rfl
   have qy5 := Y.cell' (i := 5) rfl
   have qx6 := X.cell' (i := 6) rfl
   have qy6 := Y.cell' (i := 6) rfl
   have qx7 := X.cell' (i := 7) rfl
   have qy7 := Y.cell' (i := 7) rfl
   have qx8 := X.cell' (i := 8) rfl
   have qy8 := Y.cell' (i := 8) rfl
   cases d6
   · go_wp2_with fail
     go_ret
     first | exact ⟨rfl, bb⟩ | exact ⟨by simp, bb⟩
   cases d7
   · go_wp2_with fail
     go_ret
     first | exact ⟨rfl, bb⟩ | exact ⟨by simp, bb⟩
   go_wp2_with fail
   refine (C8.out _ h5 k5).mono ?_
   rintro e w6 ⟨rfl, b6⟩
   clear qr0 qr1 qr2 qr3 qr4 qr5 qr6 qr7 qr8 qr9 qr10 qr11 qr12 qq0 qq1 qq2 qq3 qq4 qq5 qq6 qq7 qq8 qq9 qq10 qq11 qq12 qx0 qx1 qx2 qx3 qx4 qx5 qx6 qx7 qx8 qy0 qy1 qy2 qy3 qy4 qy5 qy6 qy7 qy8
   replace bb := bb.trans (b6.mono bb.size)
   replace R := R.later b6
   replace Q := Q.later b6
   replace X := X.later b6
   replace Y := Y.later b6
   replace h0 := h0.below b6
   replace k0 := k0.below b6
   replace h1 := h1.below b6
   replace k1 := k1.below b6
   replace h2 := h2.below b6
   replace k2 := k2.below b6
   replace h3 := h3.below b6
   replace k3 := k3.below b6
   replace h4 := h4.below b6
   replace k4 := k4.below b6
   replace h5 := h5.below b6
   replace k5 := k5.below b6
   have qr0 := R.cell' (i := 0) rfl
   have qq0 := Q.cell' (i := 0) rfl
   have qr1 := R.cell' (i := 1) rfl
   have qq1 := Q.cell' (i := 1) rfl
   have qr2 := R.cell' (i := 2) rfl
   have qq2 := Q.cell' (i := 2) rfl
   have qr3 := R.cell' (i := 3) rfl
   have qq3 := Q.cell' (i := 3) rfl
   have qr4 := R.cell' (i := 4) rfl
   have qq4 := Q.cell' (i := 4) rfl
   have qr5 := R.cell' (i := 5) rfl
   have qq5 := Q.cell' (i := 5) rfl
   have qr6 := R.cell' (i := 6) rfl
   have qq6 := Q.cell' (i := 6) rfl
   have qr7 := R.cell' (i := 7) rfl
   have qq7 := Q.cell' (i := 7) rfl
   have qr8 := R.cell' (i := 8) rfl
   have qq8 := Q.cell' (i := 8) rfl
   have qr9 := R.cell' (i := 9) rfl
   have qq9 := Q.cell' (i := 9) rfl
   have qr10 := R.cell' (i := 10) rfl
   have qq10 := Q.cell' (i := 10) rfl
   have qr11 := R.cell' (i := 11) rfl
   have qq11 := Q.cell' (i := 11) rfl
   have qr12 := R.cell' (i := 12) rfl
   have qq12 := Q.cell' (i := 12) rfl
   have qx0 := X.cell' (i := 0) rfl
   have qy0 := Y.cell' (i := 0) rfl
   have qx1 := X.cell' (i := 1) rfl
   have qy1 := Y.cell' (i := 1) rfl
   have qx2 := X.cell' (i := 2) rfl
   have qy2 := Y.cell' (i := 2) rfl
   have qx3 := X.cell' (i := 3) rfl
   have qy3 := Y.cell' (i := 3) rfl
   have qx4 := X.cell' (i := 4) rfl
   have qy4 := Y.cell' (i := 4) rfl
   have qx5 := X.cell' (i := 5) rfl
   have qy5 := Y.cell' (i := 5) rfl
   have qx6 := X.cell' (i := 6) rfl
   have qy6 := Y.cell' (i := 6) rfl
   have qx7 := X.cell' (i := 7) rfl
   have qy7 := Y.cell' (i := 7) rfl
   have qx8 := X.cell' (i := 8) rfl
   have qy8 := Y.cell' (i := 8) rfl
   cases d8
   · go_wp2_with fail
     go_ret
     first | exact ⟨rfl, bb⟩ | exact ⟨by simp, bb⟩
   go_wp2_with fail
   go_ret
   first | exact ⟨rfl, bb⟩ | exact ⟨by simp, bb⟩
 · skip
   have R := ((((Row.new w 67 #[.int .i64 p.setup.band, .slice A0 p.setup.temps.length Ak0, .int .i64 p.setup.points, .int .i64 p.setup.most, .int .i64 p.setup.pen, .slice A1 p.setup.entries.length Ak1, .int .i64 p.setup.dflt, .slice A2 p.setup.bigrams.length Ak2, .int .i64 p.setup.pause, .slice A3 p.strokes.length Ak3, .slice A4 p.opn.length Ak4, .int .i64 p.time, .slice A5 p.words.length Ak5]).alloc (.cells #[.int .i64 q.setup.band, .slice B0 q.setup.temps.length Bk0, .int .i64 q.setup.points, .int .i64 q.setup.most, .int .i64 q.setup.pen, .slice B1 q.setup.entries.length Bk1, .int .i64 q.setup.dflt, .slice B2 q.setup.bigrams.length Bk2, .int .i64 q.setup.pause, .slice B3 q.strokes.length Bk3, .slice B4 q.opn.length Bk4, .int .i64 q.time, .slice B5 q.words.length Bk5] 67)).alloc (.cells #[.int .i64 q.setup.band, .slice B0 q.setup.temps.length Bk0, .int .i64 q.setup.points, .int .i64 q.setup.most, .int .i64 q.setup.pen, .slice B1 q.setup.entries.length Bk1, .int .i64 q.setup.dflt, .slice B2 q.setup.bigrams.length Bk2, .int .i64 q.setup.pause] 61)).alloc (.cells #[.int .i64 p.setup.band, .slice A0 p.setup.temps.length Ak0, .int .i64 p.setup.points, .int .i64 p.setup.most, .int .i64 p.setup.pen, .slice A1 p.setup.entries.length Ak1, .int .i64 p.setup.dflt, .slice A2 p.setup.bigrams.length Ak2, .int .i64 p.setup.pause] 61)).drew
   have Q := (((Row.new (w.alloc (.cells #[.int .i64 p.setup.band, .slice A0 p.setup.temps.length Ak0, .int .i64 p.setup.points, .int .i64 p.setup.most, .int .i64 p.setup.pen, .slice A1 p.setup.entries.length Ak1, .int .i64 p.setup.dflt, .slice A2 p.setup.bigrams.length Ak2, .int .i64 p.setup.pause, .slice A3 p.strokes.length Ak3, .slice A4 p.opn.length Ak4, .int .i64 p.time, .slice A5 p.words.length Ak5] 67)) 67 #[.int .i64 q.setup.band, .slice B0 q.setup.temps.length Bk0, .int .i64 q.setup.points, .int .i64 q.setup.most, .int .i64 q.setup.pen, .slice B1 q.setup.entries.length Bk1, .int .i64 q.setup.dflt, .slice B2 q.setup.bigrams.length Bk2, .int .i64 q.setup.pause, .slice B3 q.strokes.length Bk3, .slice B4 q.opn.length Bk4, .int .i64 q.time, .slice B5 q.words.length Bk5]).alloc (.cells #[.int .i64 q.setup.band, .slice B0 q.setup.temps.length Bk0, .int .i64 q.setup.points, .int .i64 q.setup.most, .int .i64 q.setup.pen, .slice B1 q.setup.entries.length Bk1, .int .i64 q.setup.dflt, .slice B2 q.setup.bigrams.length Bk2, .int .i64 q.setup.pause] 61)).alloc (.cells #[.int .i64 p.setup.band, .slice A0 p.setup.temps.length Ak0, .int .i64 p.setup.points, .int .i64 p.setup.most, .int .i64 p.setup.pen, .slice A1 p.setup.entries.length Ak1, .int .i64 p.setup.dflt, .slice A2 p.setup.bigrams.length Ak2, .int .i64 p.setup.pause] 61)).drew
   have Y := ((Row.new ((w.alloc (.cells #[.int .i64 p.setup.band, .slice A0 p.setup.temps.length Ak0, .int .i64 p.setup.points, .int .i64 p.setup.most, .int .i64 p.setup.pen, .slice A1 p.setup.entries.length Ak1, .int .i64 p.setup.dflt, .slice A2 p.setup.bigrams.length Ak2, .int .i64 p.setup.pause, .slice A3 p.strokes.length Ak3, .slice A4 p.opn.length Ak4, .int .i64 p.time, .slice A5 p.words.length Ak5] 67)).alloc (.cells #[.int .i64 q.setup.band, .slice B0 q.setup.temps.length Bk0, .int .i64 q.setup.points, .int .i64 q.setup.most, .int .i64 q.setup.pen, .slice B1 q.setup.entries.length Bk1, .int .i64 q.setup.dflt, .slice B2 q.setup.bigrams.length Bk2, .int .i64 q.setup.pause, .slice B3 q.strokes.length Bk3, .slice B4 q.opn.length Bk4, .int .i64 q.time, .slice B5 q.words.length Bk5] 67)) 61 #[.int .i64 q.setup.band, .slice B0 q.setup.temps.length Bk0, .int .i64 q.setup.points, .int .i64 q.setup.most, .int .i64 q.setup.pen, .slice B1 q.setup.entries.length Bk1, .int .i64 q.setup.dflt, .slice B2 q.setup.bigrams.length Bk2, .int .i64 q.setup.pause]).alloc (.cells #[.int .i64 p.setup.band, .slice A0 p.setup.temps.length Ak0, .int .i64 p.setup.points, .int .i64 p.setup.most, .int .i64 p.setup.pen, .slice A1 p.setup.entries.length Ak1, .int .i64 p.setup.dflt, .slice A2 p.setup.bigrams.length Ak2, .int .i64 p.setup.pause] 61)).drew
   have X := (Row.new (((w.alloc (.cells #[.int .i64 p.setup.band, .slice A0 p.setup.temps.length Ak0, .int .i64 p.setup.points, .int .i64 p.setup.most, .int .i64 p.setup.pen, .slice A1 p.setup.entries.length Ak1, .int .i64 p.setup.dflt, .slice A2 p.setup.bigrams.length Ak2, .int .i64 p.setup.pause, .slice A3 p.strokes.length Ak3, .slice A4 p.opn.length Ak4, .int .i64 p.time, .slice A5 p.words.length Ak5] 67)).alloc (.cells #[.int .i64 q.setup.band, .slice B0 q.setup.temps.length Bk0, .int .i64 q.setup.points, .int .i64 q.setup.most, .int .i64 q.setup.pen, .slice B1 q.setup.entries.length Bk1, .int .i64 q.setup.dflt, .slice B2 q.setup.bigrams.length Bk2, .int .i64 q.setup.pause, .slice B3 q.strokes.length Bk3, .slice B4 q.opn.length Bk4, .int .i64 q.time, .slice B5 q.words.length Bk5] 67)).alloc (.cells #[.int .i64 q.setup.band, .slice B0 q.setup.temps.length Bk0, .int .i64 q.setup.points, .int .i64 q.setup.most, .int .i64 q.setup.pen, .slice B1 q.setup.entries.length Bk1, .int .i64 q.setup.dflt, .slice B2 q.setup.bigrams.length Bk2, .int .i64 q.setup.pause] 61)) 61 #[.int .i64 p.setup.band, .slice A0 p.setup.temps.length Ak0, .int .i64 p.setup.points, .int .i64 p.setup.most, .int .i64 p.setup.pen, .slice A1 p.setup.entries.length Ak1, .int .i64 p.setup.dflt, .slice A2 p.setup.bigrams.length Ak2, .int .i64 p.setup.pause]).drew
   simp only [World.size_alloc] at Q X Y
   have bb : Below w.heap.size w ((((w.alloc (.cells #[.int .i64 p.setup.band, .slice A0 p.setup.temps.length Ak0, .int .i64 p.setup.points, .int .i64 p.setup.most, .int .i64 p.setup.pen, .slice A1 p.setup.entries.length Ak1, .int .i64 p.setup.dflt, .slice A2 p.setup.bigrams.length Ak2, .int .i64 p.setup.pause, .slice A3 p.strokes.length Ak3, .slice A4 p.opn.length Ak4, .int .i64 p.time, .slice A5 p.words.length Ak5] 67)).alloc (.cells #[.int .i64 q.setup.band, .slice B0 q.setup.temps.length Bk0, .int .i64 q.setup.points, .int .i64 q.setup.most, .int .i64 q.setup.pen, .slice B1 q.setup.entries.length Bk1, .int .i64 q.setup.dflt, .slice B2 q.setup.bigrams.length Bk2, .int .i64 q.setup.pause, .slice B3 q.strokes.length Bk3, .slice B4 q.opn.length Bk4, .int .i64 q.time, .slice B5 q.words.length Bk5] 67)).alloc (.cells #[.int .i64 q.setup.band, .slice B0 q.setup.temps.length Bk0, .int .i64 q.setup.points, .int .i64 q.setup.most, .int .i64 q.setup.pen, .slice B1 q.setup.entries.length Bk1, .int .i64 q.setup.dflt, .slice B2 q.setup.bigrams.length Bk2, .int .i64 q.setup.pause] 61)).alloc (.cells #[.int .i64 p.setup.band, .slice A0 p.setup.temps.length Ak0, .int .i64 p.setup.points, .int .i64 p.setup.most, .int .i64 p.setup.pen, .slice A1 p.setup.entries.length Ak1, .int .i64 p.setup.dflt, .slice A2 p.setup.bigrams.length Ak2, .int .i64 p.setup.pause] 61)).drew := (((((Below.refl _ _).alloc (Nat.le_refl _) _).alloc (by simp) _).alloc (by simp; omega) _).alloc (by simp; omega) _).drew
   replace h0 := ((((h0.alloc (.cells #[.int .i64 p.setup.band, .slice A0 p.setup.temps.length Ak0, .int .i64 p.setup.points, .int .i64 p.setup.most, .int .i64 p.setup.pen, .slice A1 p.setup.entries.length Ak1, .int .i64 p.setup.dflt, .slice A2 p.setup.bigrams.length Ak2, .int .i64 p.setup.pause, .slice A3 p.strokes.length Ak3, .slice A4 p.opn.length Ak4, .int .i64 p.time, .slice A5 p.words.length Ak5] 67)).alloc (.cells #[.int .i64 q.setup.band, .slice B0 q.setup.temps.length Bk0, .int .i64 q.setup.points, .int .i64 q.setup.most, .int .i64 q.setup.pen, .slice B1 q.setup.entries.length Bk1, .int .i64 q.setup.dflt, .slice B2 q.setup.bigrams.length Bk2, .int .i64 q.setup.pause, .slice B3 q.strokes.length Bk3, .slice B4 q.opn.length Bk4, .int .i64 q.time, .slice B5 q.words.length Bk5] 67)).alloc (.cells #[.int .i64 q.setup.band, .slice B0 q.setup.temps.length Bk0, .int .i64 q.setup.points, .int .i64 q.setup.most, .int .i64 q.setup.pen, .slice B1 q.setup.entries.length Bk1, .int .i64 q.setup.dflt, .slice B2 q.setup.bigrams.length Bk2, .int .i64 q.setup.pause] 61)).alloc (.cells #[.int .i64 p.setup.band, .slice A0 p.setup.temps.length Ak0, .int .i64 p.setup.points, .int .i64 p.setup.most, .int .i64 p.setup.pen, .slice A1 p.setup.entries.length Ak1, .int .i64 p.setup.dflt, .slice A2 p.setup.bigrams.length Ak2, .int .i64 p.setup.pause] 61)).drew
   replace k0 := ((((k0.alloc (.cells #[.int .i64 p.setup.band, .slice A0 p.setup.temps.length Ak0, .int .i64 p.setup.points, .int .i64 p.setup.most, .int .i64 p.setup.pen, .slice A1 p.setup.entries.length Ak1, .int .i64 p.setup.dflt, .slice A2 p.setup.bigrams.length Ak2, .int .i64 p.setup.pause, .slice A3 p.strokes.length Ak3, .slice A4 p.opn.length Ak4, .int .i64 p.time, .slice A5 p.words.length Ak5] 67)).alloc (.cells #[.int .i64 q.setup.band, .slice B0 q.setup.temps.length Bk0, .int .i64 q.setup.points, .int .i64 q.setup.most, .int .i64 q.setup.pen, .slice B1 q.setup.entries.length Bk1, .int .i64 q.setup.dflt, .slice B2 q.setup.bigrams.length Bk2, .int .i64 q.setup.pause, .slice B3 q.strokes.length Bk3, .slice B4 q.opn.length Bk4, .int .i64 q.time, .slice B5 q.words.length Bk5] 67)).alloc (.cells #[.int .i64 q.setup.band, .slice B0 q.setup.temps.length Bk0, .int .i64 q.setup.points, .int .i64 q.setup.most, .int .i64 q.setup.pen, .slice B1 q.setup.entries.length Bk1, .int .i64 q.setup.dflt, .slice B2 q.setup.bigrams.length Bk2, .int .i64 q.setup.pause] 61)).alloc (.cells #[.int .i64 p.setup.band, .slice A0 p.setup.temps.length Ak0, .int .i64 p.setup.points, .int .i64 p.setup.most, .int .i64 p.setup.pen, .slice A1 p.setup.entries.length Ak1, .int .i64 p.setup.dflt, .slice A2 p.setup.bigrams.length Ak2, .int .i64 p.setup.pause] 61)).drew
   replace h1 := ((((h1.alloc (.cells #[.int .i64 p.setup.band, .slice A0 p.setup.temps.length Ak0, .int .i64 p.setup.points, .int .i64 p.setup.most, .int .i64 p.setup.pen, .slice A1 p.setup.entries.length Ak1, .int .i64 p.setup.dflt, .slice A2 p.setup.bigrams.length Ak2, .int .i64 p.setup.pause, .slice A3 p.strokes.length Ak3, .slice A4 p.opn.length Ak4, .int .i64 p.time, .slice A5 p.words.length Ak5] 67)).alloc (.cells #[.int .i64 q.setup.band, .slice B0 q.setup.temps.length Bk0, .int .i64 q.setup.points, .int .i64 q.setup.most, .int .i64 q.setup.pen, .slice B1 q.setup.entries.length Bk1, .int .i64 q.setup.dflt, .slice B2 q.setup.bigrams.length Bk2, .int .i64 q.setup.pause, .slice B3 q.strokes.length Bk3, .slice B4 q.opn.length Bk4, .int .i64 q.time, .slice B5 q.words.length Bk5] 67)).alloc (.cells #[.int .i64 q.setup.band, .slice B0 q.setup.temps.length Bk0, .int .i64 q.setup.points, .int .i64 q.setup.most, .int .i64 q.setup.pen, .slice B1 q.setup.entries.length Bk1, .int .i64 q.setup.dflt, .slice B2 q.setup.bigrams.length Bk2, .int .i64 q.setup.pause] 61)).alloc (.cells #[.int .i64 p.setup.band, .slice A0 p.setup.temps.length Ak0, .int .i64 p.setup.points, .int .i64 p.setup.most, .int .i64 p.setup.pen, .slice A1 p.setup.entries.length Ak1, .int .i64 p.setup.dflt, .slice A2 p.setup.bigrams.length Ak2, .int .i64 p.setup.pause] 61)).drew
   replace k1 := ((((k1.alloc (.cells #[.int .i64 p.setup.band, .slice A0 p.setup.temps.length Ak0, .int .i64 p.setup.points, .int .i64 p.setup.most, .int .i64 p.setup.pen, .slice A1 p.setup.entries.length Ak1, .int .i64 p.setup.dflt, .slice A2 p.setup.bigrams.length Ak2, .int .i64 p.setup.pause, .slice A3 p.strokes.length Ak3, .slice A4 p.opn.length Ak4, .int .i64 p.time, .slice A5 p.words.length Ak5] 67)).alloc (.cells #[.int .i64 q.setup.band, .slice B0 q.setup.temps.length Bk0, .int .i64 q.setup.points, .int .i64 q.setup.most, .int .i64 q.setup.pen, .slice B1 q.setup.entries.length Bk1, .int .i64 q.setup.dflt, .slice B2 q.setup.bigrams.length Bk2, .int .i64 q.setup.pause, .slice B3 q.strokes.length Bk3, .slice B4 q.opn.length Bk4, .int .i64 q.time, .slice B5 q.words.length Bk5] 67)).alloc (.cells #[.int .i64 q.setup.band, .slice B0 q.setup.temps.length Bk0, .int .i64 q.setup.points, .int .i64 q.setup.most, .int .i64 q.setup.pen, .slice B1 q.setup.entries.length Bk1, .int .i64 q.setup.dflt, .slice B2 q.setup.bigrams.length Bk2, .int .i64 q.setup.pause] 61)).alloc (.cells #[.int .i64 p.setup.band, .slice A0 p.setup.temps.length Ak0, .int .i64 p.setup.points, .int .i64 p.setup.most, .int .i64 p.setup.pen, .slice A1 p.setup.entries.length Ak1, .int .i64 p.setup.dflt, .slice A2 p.setup.bigrams.length Ak2, .int .i64 p.setup.pause] 61)).drew
   replace h2 := ((((h2.alloc (.cells #[.int .i64 p.setup.band, .slice A0 p.setup.temps.length Ak0, .int .i64 p.setup.points, .int .i64 p.setup.most, .int .i64 p.setup.pen, .slice A1 p.setup.entries.length Ak1, .int .i64 p.setup.dflt, .slice A2 p.setup.bigrams.length Ak2, .int .i64 p.setup.pause, .slice A3 p.strokes.length Ak3, .slice A4 p.opn.length Ak4, .int .i64 p.time, .slice A5 p.words.length Ak5] 67)).alloc (.cells #[.int .i64 q.setup.band, .slice B0 q.setup.temps.length Bk0, .int .i64 q.setup.points, .int .i64 q.setup.most, .int .i64 q.setup.pen, .slice B1 q.setup.entries.length Bk1, .int .i64 q.setup.dflt, .slice B2 q.setup.bigrams.length Bk2, .int .i64 q.setup.pause, .slice B3 q.strokes.length Bk3, .slice B4 q.opn.length Bk4, .int .i64 q.time, .slice B5 q.words.length Bk5] 67)).alloc (.cells #[.int .i64 q.setup.band, .slice B0 q.setup.temps.length Bk0, .int .i64 q.setup.points, .int .i64 q.setup.most, .int .i64 q.setup.pen, .slice B1 q.setup.entries.length Bk1, .int .i64 q.setup.dflt, .slice B2 q.setup.bigrams.length Bk2, .int .i64 q.setup.pause] 61)).alloc (.cells #[.int .i64 p.setup.band, .slice A0 p.setup.temps.length Ak0, .int .i64 p.setup.points, .int .i64 p.setup.most, .int .i64 p.setup.pen, .slice A1 p.setup.entries.length Ak1, .int .i64 p.setup.dflt, .slice A2 p.setup.bigrams.length Ak2, .int .i64 p.setup.pause] 61)).drew
   replace k2 := ((((k2.alloc (.cells #[.int .i64 p.setup.band, .slice A0 p.setup.temps.length Ak0, .int .i64 p.setup.points, .int .i64 p.setup.most, .int .i64 p.setup.pen, .slice A1 p.setup.entries.length Ak1, .int .i64 p.setup.dflt, .slice A2 p.setup.bigrams.length Ak2, .int .i64 p.setup.pause, .slice A3 p.strokes.length Ak3, .slice A4 p.opn.length Ak4, .int .i64 p.time, .slice A5 p.words.length Ak5] 67)).alloc (.cells #[.int .i64 q.setup.band, .slice B0 q.setup.temps.length Bk0, .int .i64 q.setup.points, .int .i64 q.setup.most, .int .i64 q.setup.pen, .slice B1 q.setup.entries.length Bk1, .int .i64 q.setup.dflt, .slice B2 q.setup.bigrams.length Bk2, .int .i64 q.setup.pause, .slice B3 q.strokes.length Bk3, .slice B4 q.opn.length Bk4, .int .i64 q.time, .slice B5 q.words.length Bk5] 67)).alloc (.cells #[.int .i64 q.setup.band, .slice B0 q.setup.temps.length Bk0, .int .i64 q.setup.points, .int .i64 q.setup.most, .int .i64 q.setup.pen, .slice B1 q.setup.entries.length Bk1, .int .i64 q.setup.dflt, .slice B2 q.setup.bigrams.length Bk2, .int .i64 q.setup.pause] 61)).alloc (.cells #[.int .i64 p.setup.band, .slice A0 p.setup.temps.length Ak0, .int .i64 p.setup.points, .int .i64 p.setup.most, .int .i64 p.setup.pen, .slice A1 p.setup.entries.length Ak1, .int .i64 p.setup.dflt, .slice A2 p.setup.bigrams.length Ak2, .int .i64 p.setup.pause] 61)).drew
   replace h3 := ((((h3.alloc (.cells #[.int .i64 p.setup.band, .slice A0 p.setup.temps.length Ak0, .int .i64 p.setup.points, .int .i64 p.setup.most, .int .i64 p.setup.pen, .slice A1 p.setup.entries.length Ak1, .int .i64 p.setup.dflt, .slice A2 p.setup.bigrams.length Ak2, .int .i64 p.setup.pause, .slice A3 p.strokes.length Ak3, .slice A4 p.opn.length Ak4, .int .i64 p.time, .slice A5 p.words.length Ak5] 67)).alloc (.cells #[.int .i64 q.setup.band, .slice B0 q.setup.temps.length Bk0, .int .i64 q.setup.points, .int .i64 q.setup.most, .int .i64 q.setup.pen, .slice B1 q.setup.entries.length Bk1, .int .i64 q.setup.dflt, .slice B2 q.setup.bigrams.length Bk2, .int .i64 q.setup.pause, .slice B3 q.strokes.length Bk3, .slice B4 q.opn.length Bk4, .int .i64 q.time, .slice B5 q.words.length Bk5] 67)).alloc (.cells #[.int .i64 q.setup.band, .slice B0 q.setup.temps.length Bk0, .int .i64 q.setup.points, .int .i64 q.setup.most, .int .i64 q.setup.pen, .slice B1 q.setup.entries.length Bk1, .int .i64 q.setup.dflt, .slice B2 q.setup.bigrams.length Bk2, .int .i64 q.setup.pause] 61)).alloc (.cells #[.int .i64 p.setup.band, .slice A0 p.setup.temps.length Ak0, .int .i64 p.setup.points, .int .i64 p.setup.most, .int .i64 p.setup.pen, .slice A1 p.setup.entries.length Ak1, .int .i64 p.setup.dflt, .slice A2 p.setup.bigrams.length Ak2, .int .i64 p.setup.pause] 61)).drew
   replace k3 := ((((k3.alloc (.cells #[.int .i64 p.setup.band, .slice A0 p.setup.temps.length Ak0, .int .i64 p.setup.points, .int .i64 p.setup.most, .int .i64 p.setup.pen, .slice A1 p.setup.entries.length Ak1, .int .i64 p.setup.dflt, .slice A2 p.setup.bigrams.length Ak2, .int .i64 p.setup.pause, .slice A3 p.strokes.length Ak3, .slice A4 p.opn.length Ak4, .int .i64 p.time, .slice A5 p.words.length Ak5] 67)).alloc (.cells #[.int .i64 q.setup.band, .slice B0 q.setup.temps.length Bk0, .int .i64 q.setup.points, .int .i64 q.setup.most, .int .i64 q.setup.pen, .slice B1 q.setup.entries.length Bk1, .int .i64 q.setup.dflt, .slice B2 q.setup.bigrams.length Bk2, .int .i64 q.setup.pause, .slice B3 q.strokes.length Bk3, .slice B4 q.opn.length Bk4, .int .i64 q.time, .slice B5 q.words.length Bk5] 67)).alloc (.cells #[.int .i64 q.setup.band, .slice B0 q.setup.temps.length Bk0, .int .i64 q.setup.points, .int .i64 q.setup.most, .int .i64 q.setup.pen, .slice B1 q.setup.entries.length Bk1, .int .i64 q.setup.dflt, .slice B2 q.setup.bigrams.length Bk2, .int .i64 q.setup.pause] 61)).alloc (.cells #[.int .i64 p.setup.band, .slice A0 p.setup.temps.length Ak0, .int .i64 p.setup.points, .int .i64 p.setup.most, .int .i64 p.setup.pen, .slice A1 p.setup.entries.length Ak1, .int .i64 p.setup.dflt, .slice A2 p.setup.bigrams.length Ak2, .int .i64 p.setup.pause] 61)).drew
   replace h4 := ((((h4.alloc (.cells #[.int .i64 p.setup.band, .slice A0 p.setup.temps.length Ak0, .int .i64 p.setup.points, .int .i64 p.setup.most, .int .i64 p.setup.pen, .slice A1 p.setup.entries.length Ak1, .int .i64 p.setup.dflt, .slice A2 p.setup.bigrams.length Ak2, .int .i64 p.setup.pause, .slice A3 p.strokes.length Ak3, .slice A4 p.opn.length Ak4, .int .i64 p.time, .slice A5 p.words.length Ak5] 67)).alloc (.cells #[.int .i64 q.setup.band, .slice B0 q.setup.temps.length Bk0, .int .i64 q.setup.points, .int .i64 q.setup.most, .int .i64 q.setup.pen, .slice B1 q.setup.entries.length Bk1, .int .i64 q.setup.dflt, .slice B2 q.setup.bigrams.length Bk2, .int .i64 q.setup.pause, .slice B3 q.strokes.length Bk3, .slice B4 q.opn.length Bk4, .int .i64 q.time, .slice B5 q.words.length Bk5] 67)).alloc (.cells #[.int .i64 q.setup.band, .slice B0 q.setup.temps.length Bk0, .int .i64 q.setup.points, .int .i64 q.setup.most, .int .i64 q.setup.pen, .slice B1 q.setup.entries.length Bk1, .int .i64 q.setup.dflt, .slice B2 q.setup.bigrams.length Bk2, .int .i64 q.setup.pause] 61)).alloc (.cells #[.int .i64 p.setup.band, .slice A0 p.setup.temps.length Ak0, .int .i64 p.setup.points, .int .i64 p.setup.most, .int .i64 p.setup.pen, .slice A1 p.setup.entries.length Ak1, .int .i64 p.setup.dflt, .slice A2 p.setup.bigrams.length Ak2, .int .i64 p.setup.pause] 61)).drew
   replace k4 := ((((k4.alloc (.cells #[.int .i64 p.setup.band, .slice A0 p.setup.temps.length Ak0, .int .i64 p.setup.points, .int .i64 p.setup.most, .int .i64 p.setup.pen, .slice A1 p.setup.entries.length Ak1, .int .i64 p.setup.dflt, .slice A2 p.setup.bigrams.length Ak2, .int .i64 p.setup.pause, .slice A3 p.strokes.length Ak3, .slice A4 p.opn.length Ak4, .int .i64 p.time, .slice A5 p.words.length Ak5] 67)).alloc (.cells #[.int .i64 q.setup.band, .slice B0 q.setup.temps.length Bk0, .int .i64 q.setup.points, .int .i64 q.setup.most, .int .i64 q.setup.pen, .slice B1 q.setup.entries.length Bk1, .int .i64 q.setup.dflt, .slice B2 q.setup.bigrams.length Bk2, .int .i64 q.setup.pause, .slice B3 q.strokes.length Bk3, .slice B4 q.opn.length Bk4, .int .i64 q.time, .slice B5 q.words.length Bk5] 67)).alloc (.cells #[.int .i64 q.setup.band, .slice B0 q.setup.temps.length Bk0, .int .i64 q.setup.points, .int .i64 q.setup.most, .int .i64 q.setup.pen, .slice B1 q.setup.entries.length Bk1, .int .i64 q.setup.dflt, .slice B2 q.setup.bigrams.length Bk2, .int .i64 q.setup.pause] 61)).alloc (.cells #[.int .i64 p.setup.band, .slice A0 p.setup.temps.length Ak0, .int .i64 p.setup.points, .int .i64 p.setup.most, .int .i64 p.setup.pen, .slice A1 p.setup.entries.length Ak1, .int .i64 p.setup.dflt, .slice A2 p.setup.bigrams.length Ak2, .int .i64 p.setup.pause] 61)).drew
   replace h5 := ((((h5.alloc (.cells #[.int .i64 p.setup.band, .slice A0 p.setup.temps.length Ak0, .int .i64 p.setup.points, .int .i64 p.setup.most, .int .i64 p.setup.pen, .slice A1 p.setup.entries.length Ak1, .int .i64 p.setup.dflt, .slice A2 p.setup.bigrams.length Ak2, .int .i64 p.setup.pause, .slice A3 p.strokes.length Ak3, .slice A4 p.opn.length Ak4, .int .i64 p.time, .slice A5 p.words.length Ak5] 67)).alloc (.cells #[.int .i64 q.setup.band, .slice B0 q.setup.temps.length Bk0, .int .i64 q.setup.points, .int .i64 q.setup.most, .int .i64 q.setup.pen, .slice B1 q.setup.entries.length Bk1, .int .i64 q.setup.dflt, .slice B2 q.setup.bigrams.length Bk2, .int .i64 q.setup.pause, .slice B3 q.strokes.length Bk3, .slice B4 q.opn.length Bk4, .int .i64 q.time, .slice B5 q.words.length Bk5] 67)).alloc (.cells #[.int .i64 q.setup.band, .slice B0 q.setup.temps.length Bk0, .int .i64 q.setup.points, .int .i64 q.setup.most, .int .i64 q.setup.pen, .slice B1 q.setup.entries.length Bk1, .int .i64 q.setup.dflt, .slice B2 q.setup.bigrams.length Bk2, .int .i64 q.setup.pause] 61)).alloc (.cells #[.int .i64 p.setup.band, .slice A0 p.setup.temps.length Ak0, .int .i64 p.setup.points, .int .i64 p.setup.most, .int .i64 p.setup.pen, .slice A1 p.setup.entries.length Ak1, .int .i64 p.setup.dflt, .slice A2 p.setup.bigrams.length Ak2, .int .i64 p.setup.pause] 61)).drew
   replace k5 := ((((k5.alloc (.cells #[.int .i64 p.setup.band, .slice A0 p.setup.temps.length Ak0, .int .i64 p.setup.points, .int .i64 p.setup.most, .int .i64 p.setup.pen, .slice A1 p.setup.entries.length Ak1, .int .i64 p.setup.dflt, .slice A2 p.setup.bigrams.length Ak2, .int .i64 p.setup.pause, .slice A3 p.strokes.length Ak3, .slice A4 p.opn.length Ak4, .int .i64 p.time, .slice A5 p.words.length Ak5] 67)).alloc (.cells #[.int .i64 q.setup.band, .slice B0 q.setup.temps.length Bk0, .int .i64 q.setup.points, .int .i64 q.setup.most, .int .i64 q.setup.pen, .slice B1 q.setup.entries.length Bk1, .int .i64 q.setup.dflt, .slice B2 q.setup.bigrams.length Bk2, .int .i64 q.setup.pause, .slice B3 q.strokes.length Bk3, .slice B4 q.opn.length Bk4, .int .i64 q.time, .slice B5 q.words.length Bk5] 67)).alloc (.cells #[.int .i64 q.setup.band, .slice B0 q.setup.temps.length Bk0, .int .i64 q.setup.points, .int .i64 q.setup.most, .int .i64 q.setup.pen, .slice B1 q.setup.entries.length Bk1, .int .i64 q.setup.dflt, .slice B2 q.setup.bigrams.length Bk2, .int .i64 q.setup.pause] 61)).alloc (.cells #[.int .i64 p.setup.band, .slice A0 p.setup.temps.length Ak0, .int .i64 p.setup.points, .int .i64 p.setup.most, .int .i64 p.setup.pen, .slice A1 p.setup.entries.length Ak1, .int .i64 p.setup.dflt, .slice A2 p.setup.bigrams.length Ak2, .int .i64 p.setup.pause] 61)).drew
   generalize ((((w.alloc (.cells #[.int .i64 p.setup.band, .slice A0 p.setup.temps.length Ak0, .int .i64 p.setup.points, .int .i64 p.setup.most, .int .i64 p.setup.pen, .slice A1 p.setup.entries.length Ak1, .int .i64 p.setup.dflt, .slice A2 p.setup.bigrams.length Ak2, .int .i64 p.setup.pause, .slice A3 p.strokes.length Ak3, .slice A4 p.opn.length Ak4, .int .i64 p.time, .slice A5 p.words.length Ak5] 67)).alloc (.cells #[.int .i64 q.setup.band, .slice B0 q.setup.temps.length Bk0, .int .i64 q.setup.points, .int .i64 q.setup.most, .int .i64 q.setup.pen, .slice B1 q.setup.entries.length Bk1, .int .i64 q.setup.dflt, .slice B2 q.setup.bigrams.length Bk2, .int .i64 q.setup.pause, .slice B3 q.strokes.length Bk3, .slice B4 q.opn.length Bk4, .int .i64 q.time, .slice B5 q.words.length Bk5] 67)).alloc (.cells #[.int .i64 q.setup.band, .slice B0 q.setup.temps.length Bk0, .int .i64 q.setup.points, .int .i64 q.setup.most, .int .i64 q.setup.pen, .slice B1 q.setup.entries.length Bk1, .int .i64 q.setup.dflt, .slice B2 q.setup.bigrams.length Bk2, .int .i64 q.setup.pause] 61)).alloc (.cells #[.int .i64 p.setup.band, .slice A0 p.setup.temps.length Ak0, .int .i64 p.setup.points, .int .i64 p.setup.most, .int .i64 p.setup.pen, .slice A1 p.setup.entries.length Ak1, .int .i64 p.setup.dflt, .slice A2 p.setup.bigrams.length Ak2, .int .i64 p.setup.pause] 61)).drew = W at *
   have qr0 := R.cell' (i := 0) rfl
   have qq0 := Q.cell' (i := 0) rfl
   have qr1 := R.cell' (i := 1) rfl
   have qq1 := Q.cell' (i := 1) rfl
   have qr2 := R.cell' (i := 2) rfl
   have qq2 := Q.cell' (i := 2) rfl
   have qr3 := R.cell' (i := 3) rfl
   have qq3 := Q.cell' (i := 3) rfl
   have qr4 := R.cell' (i := 4) rfl
   have qq4 := Q.cell' (i := 4) rfl
   have qr5 := R.cell' (i := 5) rfl
   have qq5 := Q.cell' (i := 5) rfl
   have qr6 := R.cell' (i := 6) rfl
   have qq6 := Q.cell' (i := 6) rfl
   have qr7 := R.cell' (i := 7) rfl
   have qq7 := Q.cell' (i := 7) rfl
   have qr8 := R.cell' (i := 8) rfl
   have qq8 := Q.cell' (i := 8) rfl
   have qr9 := R.cell' (i := 9) rfl
   have qq9 := Q.cell' (i := 9) rfl
   have qr10 := R.cell' (i := 10) rfl
   have qq10 := Q.cell' (i := 10) rfl
   have qr11 := R.cell' (i := 11) rfl
   have qq11 := Q.cell' (i := 11) rfl
   have qr12 := R.cell' (i := 12) rfl
   have qq12 := Q.cell' (i := 12) rfl
   have qx0 := X.cell' (i := 0) rfl
   have qy0 := Y.cell' (i := 0) rfl
   have qx1 := X.cell' (i := 1) rfl
   have qy1 := Y.cell' (i := 1) rfl
   have qx2 := X.cell' (i := 2) rfl
   have qy2 := Y.cell' (i := 2) rfl
   have qx3 := X.cell' (i := 3) rfl
   have qy3 := Y.cell' (i := 3) rfl
   have qx4 := X.cell' (i := 4) rfl
   have qy4 := Y.cell' (i := 4) rfl
   have qx5 := X.cell' (i := 5) rfl
   have qy5 := Y.cell' (i := 5) rfl
   have qx6 := X.cell' (i := 6) rfl
   have qy6 := Y.cell' (i := 6) rfl
   have qx7 := X.cell' (i := 7) rfl
   have qy7 := Y.cell' (i := 7) rfl
   have qx8 := X.cell' (i := 8) rfl
   have qy8 := Y.cell' (i := 8) rfl
   go_wp2_with fail
   refine (C0.out _ h0 k0).mono ?_
   rintro e w1 ⟨rfl, b1⟩
   clear qr0 qr1 qr2 qr3 qr4 qr5 qr6 qr7 qr8 qr9 qr10 qr11 qr12 qq0 qq1 qq2 qq3 qq4 qq5 qq6 qq7 qq8 qq9 qq10 qq11 qq12 qx0 qx1 qx2 qx3 qx4 qx5 qx6 qx7 qx8 qy0 qy1 qy2 qy3 qy4 qy5 qy6 qy7 qy8
   replace bb := bb.trans (b1.mono bb.size)
   replace R := R.later b1
   replace Q := Q.later b1
   replace X := X.later b1
   replace Y := Y.later b1
   replace h0 := h0.below b1
   replace k0 := k0.below b1
   replace h1 := h1.below b1
   replace k1 := k1.below b1
   replace h2 := h2.below b1
   replace k2 := k2.below b1
   replace h3 := h3.below b1
   replace k3 := k3.below b1
   replace h4 := h4.below b1
   replace k4 := k4.below b1
   replace h5 := h5.below b1
   replace k5 := k5.below b1
   have qr0 := R.cell' (i := 0) rfl
   have qq0 := Q.cell' (i := 0) rfl
   have qr1 := R.cell' (i := 1) rfl
   have qq1 := Q.cell' (i := 1) rfl
   have qr2 := R.cell' (i := 2) rfl
   have qq2 := Q.cell' (i := 2) rfl
   have qr3 := R.cell' (i := 3) rfl
   have qq3 := Q.cell' (i := 3) rfl
   have qr4 := R.cell' (i := 4) rfl
   have qq4 := Q.cell' (i := 4) rfl
   have qr5 := R.cell' (i := 5) rfl
   have qq5 := Q.cell' (i := 5) rfl
   have qr6 := R.cell' (i := 6) rfl
   have qq6 := Q.cell' (i := 6) rfl
   have qr7 := R.cell' (i := 7) rfl
   have qq7 := Q.cell' (i := 7) rfl
   have qr8 := R.cell' (i := 8) rfl
   have qq8 := Q.cell' (i := 8) rfl
   have qr9 := R.cell' (i := 9) rfl
   have qq9 := Q.cell' (i := 9) rfl
   have qr10 := R.cell' (i := 10) rfl
   have qq10 := Q.cell' (i := 10) rfl
   have qr11 := R.cell' (i := 11) rfl
   have qq11 := Q.cell' (i := 11) rfl
   have qr12 := R.cell' (i := 12) rfl
   have qq12 := Q.cell' (i := 12) rfl
   have qx0 := X.cell' (i := 0) rfl
   have qy0 := Y.cell' (i := 0) rfl
   have qx1 := X.cell' (i := 1) rfl
   have qy1 := Y.cell' (i := 1) rfl
   have qx2 := X.cell' (i := 2) rfl
   have qy2 := Y.cell' (i := 2) rfl
   have qx3 := X.cell' (i := 3) rfl
   have qy3 := Y.cell' (i := 3) rfl
   have qx4 := X.cell' (i := 4) rfl
   have qy4 := Y.cell' (i := 4) rfl
   have qx5 := X.cell' (i := 5) rfl
   have qy5 := Y.cell' (i := 5) rfl
   have qx6 := X.cell' (i := 6) rfl
   have qy6 := Y.cell' (i := 6) rfl
   have qx7 := X.cell' (i := 7) rfl
   have qy7 := Y.cell' (i := 7) rfl
   have qx8 := X.cell' (i := 8) rfl
   have qy8 := Y.cell' (i := 8) rfl
   cases d0
   · go_wp2_with fail
     go_ret
     first | exact ⟨rfl, bb⟩ | exact ⟨by simp, bb⟩
   cases d1
   · go_wp2_with fail
     go_ret
     first | exact ⟨rfl, bb⟩ | exact ⟨by simp, bb⟩
   go_wp2_with fail
   refine (C2.out _ h1 k1).mono ?_
   rintro e w2 ⟨rfl, b2⟩
   clear qr0 qr1 qr2 qr3 qr4 qr5 qr6 qr7 qr8 qr9 qr10 qr11 qr12 qq0 qq1 qq2 qq3 qq4 qq5 qq6 qq7 qq8 qq9 qq10 qq11 qq12 qx0 qx1 qx2 qx3 qx4 qx5 qx6 qx7 qx8 qy0 qy1 qy2 qy3 qy4 qy5 qy6 qy7 qy8
   replace bb := bb.trans (b2.mono bb.size)
   replace R := R.later b2
   replace Q := Q.later b2
   replace X := X.later b2
   replace Y := Y.later b2
   replace h0 := h0.below b2
   replace k0 := k0.below b2
   replace h1 := h1.below b2
   replace k1 := k1.below b2
   replace h2 := h2.below b2
   replace k2 := k2.below b2
   replace h3 := h3.below b2
   replace k3 := k3.below b2
   replace h4 := h4.below b2
   replace k4 := k4.below b2
   replace h5 := h5.below b2
   replace k5 := k5.below b2
   have qr0 := R.cell' (i := 0) rfl
   have qq0 := Q.cell' (i := 0) rfl
   have qr1 := R.cell' (i := 1) rfl
   have qq1 := Q.cell' (i := 1) rfl
   have qr2 := R.cell' (i := 2) rfl
   have qq2 := Q.cell' (i := 2) rfl
   have qr3 := R.cell' (i := 3) rfl
   have qq3 := Q.cell' (i := 3) rfl
   have qr4 := R.cell' (i := 4) rfl
   have qq4 := Q.cell' (i := 4) rfl
   have qr5 := R.cell' (i := 5) rfl
   have qq5 := Q.cell' (i := 5) rfl
   have qr6 := R.cell' (i := 6) rfl
   have qq6 := Q.cell' (i := 6) rfl
   have qr7 := R.cell' (i := 7) rfl
   have qq7 := Q.cell' (i := 7) rfl
   have qr8 := R.cell' (i := 8) rfl
   have qq8 := Q.cell' (i := 8) rfl
   have qr9 := R.cell' (i := 9) rfl
   have qq9 := Q.cell' (i := 9) rfl
   have qr10 := R.cell' (i := 10) rfl
   have qq10 := Q.cell' (i := 10) rfl
   have qr11 := R.cell' (i := 11) rfl
   have qq11 := Q.cell' (i := 11) rfl
   have qr12 := R.cell' (i := 12) rfl
   have qq12 := Q.cell' (i := 12) rfl
   have qx0 := X.cell' (i := 0) rfl
   have qy0 := Y.cell' (i := 0) rfl
   have qx1 := X.cell' (i := 1) rfl
   have qy1 := Y.cell' (i := 1) rfl
   have qx2 := X.cell' (i := 2) rfl
   have qy2 := Y.cell' (i := 2) rfl
   have qx3 := X.cell' (i := 3) rfl
   have qy3 := Y.cell' (i := 3) rfl
   have qx4 := X.cell' (i := 4) rfl
   have qy4 := Y.cell' (i := 4) rfl
   have qx5 := X.cell' (i := 5) rfl
   have qy5 := Y.cell' (i := 5) rfl
   have qx6 := X.cell' (i := 6) rfl
   have qy6 := Y.cell' (i := 6) rfl
   have qx7 := X.cell' (i := 7) rfl
   have qy7 := Y.cell' (i := 7) rfl
   have qx8 := X.cell' (i := 8) rfl
   have qy8 := Y.cell' (i := 8) rfl
   cases d2
   · go_wp2_with fail
     go_ret
     first | exact ⟨rfl, bb⟩ | exact ⟨by simp, bb⟩
   go_wp2_with fail
   refine (C3.out _ h2 k2).mono ?_
   rintro e w3 ⟨rfl, b3⟩
   clear qr0 qr1 qr2 qr3 qr4 qr5 qr6 qr7 qr8 qr9 qr10 qr11 qr12 qq0 qq1 qq2 qq3 qq4 qq5 qq6 qq7 qq8 qq9 qq10 qq11 qq12 qx0 qx1 qx2 qx3 qx4 qx5 qx6 qx7 qx8 qy0 qy1 qy2 qy3 qy4 qy5 qy6 qy7 qy8
   replace bb := bb.trans (b3.mono bb.size)
   replace R := R.later b3
   replace Q := Q.later b3
   replace X := X.later b3
   replace Y := Y.later b3
   replace h0 := h0.below b3
   replace k0 := k0.below b3
   replace h1 := h1.below b3
   replace k1 := k1.below b3
   replace h2 := h2.below b3
   replace k2 := k2.below b3
   replace h3 := h3.below b3
   replace k3 := k3.below b3
   replace h4 := h4.below b3
   replace k4 := k4.below b3
   replace h5 := h5.below b3
   replace k5 := k5.below b3
   have qr0 := R.cell' (i := 0) rfl
   have qq0 := Q.cell' (i := 0) rfl
   have qr1 := R.cell' (i := 1) rfl
   have qq1 := Q.cell' (i := 1) rfl
   have qr2 := R.cell' (i := 2) rfl
   have qq2 := Q.cell' (i := 2) rfl
   have qr3 := R.cell' (i := 3) rfl
   have qq3 := Q.cell' (i := 3) rfl
   have qr4 := R.cell' (i := 4) rfl
   have qq4 := Q.cell' (i := 4) rfl
   have qr5 := R.cell' (i := 5) rfl
   have qq5 := Q.cell' (i := 5) rfl
   have qr6 := R.cell' (i := 6) rfl
   have qq6 := Q.cell' (i := 6) rfl
   have qr7 := R.cell' (i := 7) rfl
   have qq7 := Q.cell' (i := 7) rfl
   have qr8 := R.cell' (i := 8) rfl
   have qq8 := Q.cell' (i := 8) rfl
   have qr9 := R.cell' (i := 9) rfl
   have qq9 := Q.cell' (i := 9) rfl
   have qr10 := R.cell' (i := 10) rfl
   have qq10 := Q.cell' (i := 10) rfl
   have qr11 := R.cell' (i := 11) rfl
   have qq11 := Q.cell' (i := 11) rfl
   have qr12 := R.cell' (i := 12) rfl
   have qq12 := Q.cell' (i := 12) rfl
   have qx0 := X.cell' (i := 0) rfl
   have qy0 := Y.cell' (i := 0) rfl
   have qx1 := X.cell' (i := 1) rfl
   have qy1 := Y.cell' (i := 1) rfl
   have qx2 := X.cell' (i := 2) rfl
   have qy2 := Y.cell' (i := 2) rfl
   have qx3 := X.cell' (i := 3) rfl
   have qy3 := Y.cell' (i := 3) rfl
   have qx4 := X.cell' (i := 4) rfl
   have qy4 := Y.cell' (i := 4) rfl
   have qx5 := X.cell' (i := 5) rfl
   have qy5 := Y.cell' (i := 5) rfl
   have qx6 := X.cell' (i := 6) rfl
   have qy6 := Y.cell' (i := 6) rfl
   have qx7 := X.cell' (i := 7) rfl
   have qy7 := Y.cell' (i := 7) rfl
   have qx8 := X.cell' (i := 8) rfl
   have qy8 := Y.cell' (i := 8) rfl
   cases d3
   · go_wp2_with fail
     go_ret
     first | exact ⟨rfl, bb⟩ | exact ⟨by simp, bb⟩
   cases d4
   · go_wp2_with fail
     go_ret
     first | exact ⟨rfl, bb⟩ | exact ⟨by simp, bb⟩
   go_wp2_with fail
   refine (C5.out _ h3 k3).mono ?_
   rintro e w4 ⟨rfl, b4⟩
   clear qr0 qr1 qr2 qr3 qr4 qr5 qr6 qr7 qr8 qr9 qr10 qr11 qr12 qq0 qq1 qq2 qq3 qq4 qq5 qq6 qq7 qq8 qq9 qq10 qq11 qq12 qx0 qx1 qx2 qx3 qx4 qx5 qx6 qx7 qx8 qy0 qy1 qy2 qy3 qy4 qy5 qy6 qy7 qy8
   replace bb := bb.trans (b4.mono bb.size)
   replace R := R.later b4
   replace Q := Q.later b4
   replace X := X.later b4
   replace Y := Y.later b4
   replace h0 := h0.below b4
   replace k0 := k0.below b4
   replace h1 := h1.below b4
   replace k1 := k1.below b4
   replace h2 := h2.below b4
   replace k2 := k2.below b4
   replace h3 := h3.below b4
   replace k3 := k3.below b4
   replace h4 := h4.below b4
   replace k4 := k4.below b4
   replace h5 := h5.below b4
   replace k5 := k5.below b4
   have qr0 := R.cell' (i := 0) rfl
   have qq0 := Q.cell' (i := 0) rfl
   have qr1 := R.cell' (i := 1) rfl
   have qq1 := Q.cell' (i := 1) rfl
   have qr2 := R.cell' (i := 2) rfl
   have qq2 := Q.cell' (i := 2) rfl
   have qr3 := R.cell' (i := 3) rfl
   have qq3 := Q.cell' (i := 3) rfl
   have qr4 := R.cell' (i := 4) rfl
   have qq4 := Q.cell' (i := 4) rfl
   have qr5 := R.cell' (i := 5) rfl
   have qq5 := Q.cell' (i := 5) rfl
   have qr6 := R.cell' (i := 6) rfl
   have qq6 := Q.cell' (i := 6) rfl
   have qr7 := R.cell' (i := 7) rfl
   have qq7 := Q.cell' (i := 7) rfl
   have qr8 := R.cell' (i := 8) rfl
   have qq8 := Q.cell' (i := 8) rfl
   have qr9 := R.cell' (i := 9) rfl
   have qq9 := Q.cell' (i := 9) rfl
   have qr10 := R.cell' (i := 10) rfl
   have qq10 := Q.cell' (i := 10) rfl
   have qr11 := R.cell' (i := 11) rfl
   have qq11 := Q.cell' (i := 11) rfl
   have qr12 := R.cell' (i := 12) rfl
   have qq12 := Q.cell' (i := 12) rfl
   have qx0 := X.cell' (i := 0) rfl
   have qy0 := Y.cell' (i := 0) rfl
   have qx1 := X.cell' (i := 1) rfl
   have qy1 := Y.cell' (i := 1) rfl
   have qx2 := X.cell' (i := 2) rfl
   have qy2 := Y.cell' (i := 2) rfl
   have qx3 := X.cell' (i := 3) rfl
   have qy3 := Y.cell' (i := 3) rfl
   have qx4 := X.cell' (i := 4) rfl
   have qy4 := Y.cell' (i := 4) rfl
   have qx5 := X.cell' (i := 5) rfl
   have qy5 := Y.cell' (i := 5) rfl
   have qx6 := X.cell' (i := 6) rfl
   have qy6 := Y.cell' (i := 6) rfl
   have qx7 := X.cell' (i := 7) rfl
   have qy7 := Y.cell' (i := 7) rfl
   have qx8 := X.cell' (i := 8) rfl
   have qy8 := Y.cell' (i := 8) rfl
   cases d5
   · go_wp2_with fail
     go_ret
     first | exact ⟨rfl, bb⟩ | exact ⟨by simp, bb⟩
   go_wp2_with fail
   refine (C6.out _ h4 k4).mono ?_
   rintro e w5 ⟨rfl, b5⟩
   clear qr0 qr1 qr2 qr3 qr4 qr5 qr6 qr7 qr8 qr9 qr10 qr11 qr12 qq0 qq1 qq2 qq3 qq4 qq5 qq6 qq7 qq8 qq9 qq10 qq11 qq12 qx0 qx1 qx2 qx3 qx4 qx5 qx6 qx7 qx8 qy0 qy1 qy2 qy3 qy4 qy5 qy6 qy7 qy8
   replace bb := bb.trans (b5.mono bb.size)
   replace R := R.later b5
   replace Q := Q.later b5
   replace X := X.later b5
   replace Y := Y.later b5
   replace h0 := h0.below b5
   replace k0 := k0.below b5
   replace h1 := h1.below b5
   replace k1 := k1.below b5
   replace h2 := h2.below b5
   replace k2 := k2.below b5
   replace h3 := h3.below b5
   replace k3 := k3.below b5
   replace h4 := h4.below b5
   replace k4 := k4.below b5
   replace h5 := h5.below b5
   replace k5 := k5.below b5
   have qr0 := R.cell' (i := 0) rfl
   have qq0 := Q.cell' (i := 0) rfl
   have qr1 := R.cell' (i := 1) rfl
   have qq1 := Q.cell' (i := 1) rfl
   have qr2 := R.cell' (i := 2) rfl
   have qq2 := Q.cell' (i := 2) rfl
   have qr3 := R.cell' (i := 3) rfl
   have qq3 := Q.cell' (i := 3) rfl
   have qr4 := R.cell' (i := 4) rfl
   have qq4 := Q.cell' (i := 4) rfl
   have qr5 := R.cell' (i := 5) rfl
   have qq5 := Q.cell' (i := 5) rfl
   have qr6 := R.cell' (i := 6) rfl
   have qq6 := Q.cell' (i := 6) rfl
   have qr7 := R.cell' (i := 7) rfl
   have qq7 := Q.cell' (i := 7) rfl
   have qr8 := R.cell' (i := 8) rfl
   have qq8 := Q.cell' (i := 8) rfl
   have qr9 := R.cell' (i := 9) rfl
   have qq9 := Q.cell' (i := 9) rfl
   have qr10 := R.cell' (i := 10) rfl
   have qq10 := Q.cell' (i := 10) rfl
   have qr11 := R.cell' (i := 11) rfl
   have qq11 := Q.cell' (i := 11) rfl
   have qr12 := R.cell' (i := 12) rfl
   have qq12 := Q.cell' (i := 12) rfl
   have qx0 := X.cell' (i := 0) rfl
   have qy0 := Y.cell' (i := 0) rfl
   have qx1 := X.cell' (i := 1) rfl
   have qy1 := Y.cell' (i := 1) rfl
   have qx2 := X.cell' (i := 2) rfl
   have qy2 := Y.cell' (i := 2) rfl
   have qx3 := X.cell' (i := 3) rfl
   have qy3 := Y.cell' (i := 3) rfl
   have qx4 := X.cell' (i := 4) rfl
   have qy4 := Y.cell' (i := 4) rfl
   have qx5 := X.cell' (i := 5) rfl
   have qy5 := Y.cell' (i := 5) rfl
   have qx6 := X.cell' (i := 6) rfl
   have qy6 := Y.cell' (i := 6) rfl
   have qx7 := X.cell' (i := 7) rfl
   have qy7 := Y.cell' (i := 7) rfl
   have qx8 := X.cell' (i := 8) rfl
   have qy8 := Y.cell' (i := 8) rfl
   cases d6
   · go_wp2_with fail
     go_ret
     first | exact ⟨rfl, bb⟩ | exact ⟨by simp, bb⟩
   cases d7
   · go_wp2_with fail
     go_ret
     first | exact ⟨rfl, bb⟩ | exact ⟨by simp, bb⟩
   go_wp2_with fail
   refine (C8.out _ h5 k5).mono ?_
   rintro e w6 ⟨rfl, b6⟩
   clear qr0 qr1 qr2 qr3 qr4 qr5 qr6 qr7 qr8 qr9 qr10 qr11 qr12 qq0 qq1 qq2 qq3 qq4 qq5 qq6 qq7 qq8 qq9 qq10 qq11 qq12 qx0 qx1 qx2 qx3 qx4 qx5 qx6 qx7 qx8 qy0 qy1 qy2 qy3 qy4 qy5 qy6 qy7 qy8
   replace bb := bb.trans (b6.mono bb.size)
   replace R := R.later b6
   replace Q := Q.later b6
   replace X := X.later b6
   replace Y := Y.later b6
   replace h0 := h0.below b6
   replace k0 := k0.below b6
   replace h1 := h1.below b6
   replace k1 := k1.below b6
   replace h2 := h2.below b6
   replace k2 := k2.below b6
   replace h3 := h3.below b6
   replace k3 := k3.below b6
   replace h4 := h4.below b6
   replace k4 := k4.below b6
   replace h5 := h5.below b6
   replace k5 := k5.below b6
   have qr0 := R.cell' (i := 0) rfl
   have qq0 := Q.cell' (i := 0) rfl
   have qr1 := R.cell' (i := 1) rfl
   have qq1 := Q.cell' (i := 1) rfl
   have qr2 := R.cell' (i := 2) rfl
   have qq2 := Q.cell' (i := 2) rfl
   have qr3 := R.cell' (i := 3) rfl
   have qq3 := Q.cell' (i := 3) rfl
   have qr4 := R.cell' (i := 4) rfl
   have qq4 := Q.cell' (i := 4) rfl
   have qr5 := R.cell' (i := 5) rfl
   have qq5 := Q.cell' (i := 5) rfl
   have qr6 := R.cell' (i := 6) rfl
   have qq6 := Q.cell' (i := 6) rfl
   have qr7 := R.cell' (i := 7) rfl
   have qq7 := Q.cell' (i := 7) rfl
   have qr8 := R.cell' (i := 8) rfl
   have qq8 := Q.cell' (i := 8) rfl
   have qr9 := R.cell' (i := 9) rfl
   have qq9 := Q.cell' (i := 9) rfl
   have qr10 := R.cell' (i := 10) rfl
   have qq10 := Q.cell' (i := 10) rfl
   have qr11 := R.cell' (i := 11) rfl
   have qq11 := Q.cell' (i := 11) rfl
   have qr12 := R.cell' (i := 12) rfl
   have qq12 := Q.cell' (i := 12) rfl
   have qx0 := X.cell' (i := 0) rfl
   have qy0 := Y.cell' (i := 0) rfl
   have qx1 := X.cell' (i := 1) rfl
   have qy1 := Y.cell' (i := 1) rfl
   have qx2 := X.cell' (i := 2) rfl
   have qy2 := Y.cell' (i := 2) rfl
   have qx3 := X.cell' (i := 3) rfl
   have qy3 := Y.cell' (i := 3) rfl
   have qx4 := X.cell' (i := 4) rfl
   have qy4 := Y.cell' (i := 4) rfl
   have qx5 := X.cell' (i := 5) rfl
   have qy5 := Y.cell' (i := 5) rfl
   have qx6 := X.cell' (i := 6) rfl
   have qy6 := Y.cell' (i := 6) rfl
   have qx7 := X.cell' (i := 7) rfl
   have qy7 := Y.cell' (i := 7) rfl
   have qx8 := X.cell' (i := 8) rfl
   have qy8 := Y.cell' (i := 8) rfl
   cases d8
   · go_wp2_with fail
     go_ret
     first | exact ⟨rfl, bb⟩ | exact ⟨by simp, bb⟩
   go_wp2_with fail
   go_ret
   first | exact ⟨rfl, bb⟩ | exact ⟨by simp, bb⟩
end Go.Proofs.YtkfadfddhbpngaaGreat

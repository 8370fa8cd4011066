/- The walk of the law FnExactStartSession. Conditions: none. -/
import Derived.Test.YtkfadfddhbpngaaGreatSeStartz
import Derived.Test.YtkfadfddhbpngaaGreatSeMkPz
namespace Go.Proofs.YtkfadfddhbpngaaGreat
open Go Go.RowKit

theorem keepSt {B : Nat} {w w' : World} {p : Addr} {u : Value} (h : Below B w w') (hp : p.block < B) (hu : w.cell? p = some u) : w'.cell? p = some u := (h.cell hp).trans hu
set_option maxRecDepth 100000 in
set_option maxHeartbeats 8000000 in
theorem law_StartSession {I : Ids} {p : PSetup} {v : Value} {F : List Nat} (w : World) (h : SetupIs I false w p v F) :
    Calls Tryz.prog 5 #[v] w fun e w' => e = .returned (.bool true) ∧ Below w.heap.size w w' := by
  obtain ⟨A0, Ak0, A1, Ak1, A2, Ak2, rfl⟩ := h.shape
  have hF := h.blocks
  go_enter Tryz.func5, Tryz.ntmps5
  go_wp2_with fail
  refine (szSetup_p _ (h.alloc _) 1048576 (by omega)).mono ?_
  rintro e w1 ⟨⟨r, rfl, hr1, hr⟩, b1⟩
  have c : Below w.heap.size w w1 := ((Below.refl _ _).alloc (Nat.le_refl _) _).trans (b1.mono (by simp))
  by_cases h0 : r < 0
  · go_wp2_with fail
    go_ret
    exact ⟨rfl, c⟩
  · have hszp : szSe p ≤ 1048576 := by have := hr (by omega); omega
    have hp := SeSmall.of hszp
    have HS := Lib.hid (fun (w : World) (v : Value) (F : List Nat) (h : SetupIs idsI true w p v F) => spec_StartSession_p w h hp.1 hp.2)
    have HI := Lib.hid (fun (w : World) (v : Value) (F : List Nat) (h : SetupIs idsI true w p v F) => impl_StartSession_p w h hp.1 hp.2)
    have hq : SsSmall (startR p).1 ∧ marksSession (startR p).1 ≤ 5000000 := by
      unfold startR
      split
      · exact ⟨⟨hp.1, by simp, by simp, by simp, by simp⟩, by have := marksSetup_sz hszp; simp only [marksSession, pointsIn, List.map_nil, List.sum_nil, List.length_nil]; omega⟩
      · exact ⟨⟨⟨by simp [nilSess, nilSetup], by simp [nilSess, nilSetup], by simp [nilSess, nilSetup], by simp [nilSess, nilSetup]⟩, by simp [nilSess], by simp [nilSess], by simp [nilSess], by simp [nilSess]⟩, by simp [marksSession, marksSetup, tempsIn, pointsIn, nilSess, nilSetup]⟩
    have hpm : marksSetup p ≤ 5000000 := marksSetup_sz hszp
    generalize startR p = r' at HS HI hq
    obtain ⟨q, n'⟩ := r'
    obtain ⟨hqs, hqm⟩ := hq
    dsimp only at hqs hqm
    have HQM := Lib.hid hqm
    have HPM := Lib.hid hpm
    have HPS := Lib.hid hp.1
    have HQS := Lib.hid hqs
    have sp := sameSetupB_refl p
    have sq := sameSessB_refl q
    have z1 : (n' != n') = false := by simp
    have z2 : (((1 + marksSetup p : Nat) : Int) < 0) = False := by simp only [eq_iff_iff, iff_false]; omega
    have z3 : (((1 + marksSession q : Nat) : Int) < 0) = False := by simp only [eq_iff_iff, iff_false]; omega
    have z4 : ((((1 + marksSession q : Nat) : Int)) != ((1 + marksSession q : Nat) : Int)) = false := by simp
    clear hr hp hqs hqm hpm hszp
    have RP := (Row.new w 34 #[.int .i64 p.band, .slice A0 p.temps.length Ak0, .int .i64 p.points, .int .i64 p.most, .int .i64 p.pen, .slice A1 p.entries.length Ak1, .int .i64 p.dflt, .slice A2 p.bigrams.length Ak2, .int .i64 p.pause]).later b1
    replace h := (h.alloc _).below b1
    have lP : w.heap.size < w1.heap.size := RP.lt
    have qP0 := RP.cell' (i := 0) rfl
    have qP1 := RP.cell' (i := 1) rfl
    have qP2 := RP.cell' (i := 2) rfl
    have qP3 := RP.cell' (i := 3) rfl
    have qP4 := RP.cell' (i := 4) rfl
    have qP5 := RP.cell' (i := 5) rfl
    have qP6 := RP.cell' (i := 6) rfl
    have qP7 := RP.cell' (i := 7) rfl
    have qP8 := RP.cell' (i := 8) rfl
    go_wp2_with fail
    refine (toSetup_p _ h HPS.out).mono ?_
    rintro e w2 ⟨u2, G2, rfl, r2, f2, b2⟩
    clear qP0 qP1 qP2 qP3 qP4 qP5 qP6 qP7 qP8
    replace RP := RP.later b2
    replace h := h.below b2
    replace c := bt c b2
    obtain ⟨B0, Bk0, B1, Bk1, B2, Bk2, rfl⟩ := r2.shape
    go_wp2_with fail
    refine (HS.out _ _ _ r2).mono ?_
    rintro e w3 ⟨u3, G3, rfl, s, fs, b3⟩
    dsimp only at s
    replace RP := RP.later b3
    replace h := h.below b3
    replace c := bt c b3
    obtain ⟨S0, Sk0, S1, Sk1, S2, Sk2, S3, Sk3, S4, Sk4, S5, Sk5, rfl⟩ := s.shape
    have RPa := RP.alloc (.cells #[.int .i64 q.setup.band, .slice S0 q.setup.temps.length Sk0, .int .i64 q.setup.points, .int .i64 q.setup.most, .int .i64 q.setup.pen, .slice S1 q.setup.entries.length Sk1, .int .i64 q.setup.dflt, .slice S2 q.setup.bigrams.length Sk2, .int .i64 q.setup.pause, .slice S3 q.strokes.length Sk3, .slice S4 q.opn.length Sk4, .int .i64 q.time, .slice S5 q.words.length Sk5] 67)
    have qP0a := RPa.cell' (i := 0) rfl
    have qP1a := RPa.cell' (i := 1) rfl
    have qP2a := RPa.cell' (i := 2) rfl
    have qP3a := RPa.cell' (i := 3) rfl
    have qP4a := RPa.cell' (i := 4) rfl
    have qP5a := RPa.cell' (i := 5) rfl
    have qP6a := RPa.cell' (i := 6) rfl
    have qP7a := RPa.cell' (i := 7) rfl
    have qP8a := RPa.cell' (i := 8) rfl
    have RS := Row.new w3 67 #[.int .i64 q.setup.band, .slice S0 q.setup.temps.length Sk0, .int .i64 q.setup.points, .int .i64 q.setup.most, .int .i64 q.setup.pen, .slice S1 q.setup.entries.length Sk1, .int .i64 q.setup.dflt, .slice S2 q.setup.bigrams.length Sk2, .int .i64 q.setup.pause, .slice S3 q.strokes.length Sk3, .slice S4 q.opn.length Sk4, .int .i64 q.time, .slice S5 q.words.length Sk5]
    go_wp2_with fail
    refine (toSetup_p _ (h.alloc _) HPS.out).mono ?_
    rintro e w4 ⟨u4, GX, rfl, x, fx, b4⟩
    clear qP0a qP1a qP2a qP3a qP4a qP5a qP6a qP7a qP8a
    clear RPa
    replace RP := (RP.alloc _).later b4
    replace h := (h.alloc _).below b4
    have bx := s.blocks
    replace s := (s.alloc _).below b4
    replace RS := RS.later b4
    replace c := (c.alloc c.size _).trans (b4.mono (by have := c.size; simp; omega))
    obtain ⟨X0, Xk0, X1, Xk1, X2, Xk2, rfl⟩ := x.shape
    have hsz4 : w3.heap.size + 1 ≤ w4.heap.size := by simpa using b4.size
    have RX := Row.new w4 61 #[.int .i64 p.band, .slice X0 p.temps.length Xk0, .int .i64 p.points, .int .i64 p.most, .int .i64 p.pen, .slice X1 p.entries.length Xk1, .int .i64 p.dflt, .slice X2 p.bigrams.length Xk2, .int .i64 p.pause]
    go_wp2_with fail
    refine (HI.out _ _ _ (x.alloc _)).mono ?_
    rintro e w5 ⟨u5, GG, rfl, g, fg, b5⟩
    dsimp only at g
    have hxb := x.blocks
    replace RP := (RP.alloc _).later b5
    replace RS := (RS.alloc _).later b5
    replace h := (h.alloc _).below b5
    replace s := (s.alloc _).below b5
    replace x := (x.alloc _).below b5
    replace RX := RX.later b5
    replace c := (c.alloc c.size _).trans (b5.mono (by have := c.size; simp; omega))
    obtain ⟨G0, Gk0, G1, Gk1, G2, Gk2, G3, Gk3, G4, Gk4, G5, Gk5, rfl⟩ := g.shape
    have hsz5 : w4.heap.size + 1 ≤ w5.heap.size := by simpa using b5.size
    have hgb := g.blocks
    have RSa := RS.alloc (.cells #[.int .i64 q.setup.band, .slice G0 q.setup.temps.length Gk0, .int .i64 q.setup.points, .int .i64 q.setup.most, .int .i64 q.setup.pen, .slice G1 q.setup.entries.length Gk1, .int .i64 q.setup.dflt, .slice G2 q.setup.bigrams.length Gk2, .int .i64 q.setup.pause, .slice G3 q.strokes.length Gk3, .slice G4 q.opn.length Gk4, .int .i64 q.time, .slice G5 q.words.length Gk5] 67)
    have qS0a := RSa.cell' (i := 0) rfl
    have qS1a := RSa.cell' (i := 1) rfl
    have qS2a := RSa.cell' (i := 2) rfl
    have qS3a := RSa.cell' (i := 3) rfl
    have qS4a := RSa.cell' (i := 4) rfl
    have qS5a := RSa.cell' (i := 5) rfl
    have qS6a := RSa.cell' (i := 6) rfl
    have qS7a := RSa.cell' (i := 7) rfl
    have qS8a := RSa.cell' (i := 8) rfl
    have qS9a := RSa.cell' (i := 9) rfl
    have qS10a := RSa.cell' (i := 10) rfl
    have qS11a := RSa.cell' (i := 11) rfl
    have qS12a := RSa.cell' (i := 12) rfl
    have RG := Row.new w5 67 #[.int .i64 q.setup.band, .slice G0 q.setup.temps.length Gk0, .int .i64 q.setup.points, .int .i64 q.setup.most, .int .i64 q.setup.pen, .slice G1 q.setup.entries.length Gk1, .int .i64 q.setup.dflt, .slice G2 q.setup.bigrams.length Gk2, .int .i64 q.setup.pause, .slice G3 q.strokes.length Gk3, .slice G4 q.opn.length Gk4, .int .i64 q.time, .slice G5 q.words.length Gk5]
    go_wp2_with fail
    refine (eqSession_p _ (g.alloc _) (s.alloc _) HQS.out HQS.out).mono ?_
    rintro e w6 ⟨rfl, b6⟩
    clear qS0a qS1a qS2a qS3a qS4a qS5a qS6a qS7a qS8a qS9a qS10a qS11a qS12a
    clear RSa
    replace RP := (RP.alloc _).later b6
    replace RS := (RS.alloc _).later b6
    replace RX := (RX.alloc _).later b6
    replace h := (h.alloc _).below b6
    replace s := (s.alloc _).below b6
    replace x := (x.alloc _).below b6
    replace g := (g.alloc _).below b6
    replace RG := RG.later b6
    replace c := (c.alloc c.size _).trans (b6.mono (by have := c.size; simp; omega))
    have hsz6 : w5.heap.size + 1 ≤ w6.heap.size := by simpa using b6.size
    have qP0 := RP.cell' (i := 0) rfl
    have qP1 := RP.cell' (i := 1) rfl
    have qP2 := RP.cell' (i := 2) rfl
    have qP3 := RP.cell' (i := 3) rfl
    have qP4 := RP.cell' (i := 4) rfl
    have qP5 := RP.cell' (i := 5) rfl
    have qP6 := RP.cell' (i := 6) rfl
    have qP7 := RP.cell' (i := 7) rfl
    have qP8 := RP.cell' (i := 8) rfl
    have qX0 := RX.cell' (i := 0) rfl
    have qX1 := RX.cell' (i := 1) rfl
    have qX2 := RX.cell' (i := 2) rfl
    have qX3 := RX.cell' (i := 3) rfl
    have qX4 := RX.cell' (i := 4) rfl
    have qX5 := RX.cell' (i := 5) rfl
    have qX6 := RX.cell' (i := 6) rfl
    have qX7 := RX.cell' (i := 7) rfl
    have qX8 := RX.cell' (i := 8) rfl
    have lX := RX.lt
    have lP6 := RP.lt
    go_wp2_with fail
    go_region_held3 (fun w' => w'.cell? ⟨w.heap.size, 0, none⟩ = some (.int .i64 p.band) ∧ w'.cell? ⟨w.heap.size, 1, none⟩ = some (.slice A0 p.temps.length Ak0) ∧ w'.cell? ⟨w.heap.size, 2, none⟩ = some (.int .i64 p.points) ∧ w'.cell? ⟨w.heap.size, 3, none⟩ = some (.int .i64 p.most) ∧ w'.cell? ⟨w.heap.size, 4, none⟩ = some (.int .i64 p.pen) ∧ w'.cell? ⟨w.heap.size, 5, none⟩ = some (.slice A1 p.entries.length Ak1) ∧ w'.cell? ⟨w.heap.size, 6, none⟩ = some (.int .i64 p.dflt) ∧ w'.cell? ⟨w.heap.size, 7, none⟩ = some (.slice A2 p.bigrams.length Ak2) ∧ w'.cell? ⟨w.heap.size, 8, none⟩ = some (.int .i64 p.pause) ∧ w'.cell? ⟨w4.heap.size, 0, none⟩ = some (.int .i64 p.band) ∧ w'.cell? ⟨w4.heap.size, 1, none⟩ = some (.slice X0 p.temps.length Xk0) ∧ w'.cell? ⟨w4.heap.size, 2, none⟩ = some (.int .i64 p.points) ∧ w'.cell? ⟨w4.heap.size, 3, none⟩ = some (.int .i64 p.most) ∧ w'.cell? ⟨w4.heap.size, 4, none⟩ = some (.int .i64 p.pen) ∧ w'.cell? ⟨w4.heap.size, 5, none⟩ = some (.slice X1 p.entries.length Xk1) ∧ w'.cell? ⟨w4.heap.size, 6, none⟩ = some (.int .i64 p.dflt) ∧ w'.cell? ⟨w4.heap.size, 7, none⟩ = some (.slice X2 p.bigrams.length Xk2) ∧ w'.cell? ⟨w4.heap.size, 8, none⟩ = some (.int .i64 p.pause)) (first | exact ⟨qP0, qP1, qP2, qP3, qP4, qP5, qP6, qP7, qP8, qX0, qX1, qX2, qX3, qX4, qX5, qX6, qX7, qX8⟩ | exact ⟨keepSt b7 lP6 qP0, keepSt b7 lP6 qP1, keepSt b7 lP6 qP2, keepSt b7 lP6 qP3, keepSt b7 lP6 qP4, keepSt b7 lP6 qP5, keepSt b7 lP6 qP6, keepSt b7 lP6 qP7, keepSt b7 lP6 qP8, keepSt b7 lX qX0, keepSt b7 lX qX1, keepSt b7 lX qX2, keepSt b7 lX qX3, keepSt b7 lX qX4, keepSt b7 lX qX5, keepSt b7 lX qX6, keepSt b7 lX qX7, keepSt b7 lX qX8⟩ | exact ⟨keepSt b8 (Nat.lt_of_lt_of_le lP6 b7.size) (keepSt b7 lP6 qP0), keepSt b8 (Nat.lt_of_lt_of_le lP6 b7.size) (keepSt b7 lP6 qP1), keepSt b8 (Nat.lt_of_lt_of_le lP6 b7.size) (keepSt b7 lP6 qP2), keepSt b8 (Nat.lt_of_lt_of_le lP6 b7.size) (keepSt b7 lP6 qP3), keepSt b8 (Nat.lt_of_lt_of_le lP6 b7.size) (keepSt b7 lP6 qP4), keepSt b8 (Nat.lt_of_lt_of_le lP6 b7.size) (keepSt b7 lP6 qP5), keepSt b8 (Nat.lt_of_lt_of_le lP6 b7.size) (keepSt b7 lP6 qP6), keepSt b8 (Nat.lt_of_lt_of_le lP6 b7.size) (keepSt b7 lP6 qP7), keepSt b8 (Nat.lt_of_lt_of_le lP6 b7.size) (keepSt b7 lP6 qP8), keepSt b8 (Nat.lt_of_lt_of_le lX b7.size) (keepSt b7 lX qX0), keepSt b8 (Nat.lt_of_lt_of_le lX b7.size) (keepSt b7 lX qX1), keepSt b8 (Nat.lt_of_lt_of_le lX b7.size) (keepSt b7 lX qX2), keepSt b8 (Nat.lt_of_lt_of_le lX b7.size) (keepSt b7 lX qX3), keepSt b8 (Nat.lt_of_lt_of_le lX b7.size) (keepSt b7 lX qX4), keepSt b8 (Nat.lt_of_lt_of_le lX b7.size) (keepSt b7 lX qX5), keepSt b8 (Nat.lt_of_lt_of_le lX b7.size) (keepSt b7 lX qX6), keepSt b8 (Nat.lt_of_lt_of_le lX b7.size) (keepSt b7 lX qX7), keepSt b8 (Nat.lt_of_lt_of_le lX b7.size) (keepSt b7 lX qX8)⟩) (first | (go_at_call 18; refine (toSetup_p _ h.drew HPS.out).mono ?_; rintro e w7 ⟨u7, G7, rfl, r7, f7, b7⟩) | (go_at_call 21; refine (eqSetup_p _ (x.drew.below b7) r7 HPS.out HPS.out).mono ?_; rintro e w8 ⟨rfl, b8⟩))
    clear qP0 qP1 qP2 qP3 qP4 qP5 qP6 qP7 qP8 qX0 qX1 qX2 qX3 qX4 qX5 qX6 qX7 qX8
    replace RP := RP.drew.later b7
    replace RS := RS.drew.later b7
    replace RX := RX.drew.later b7
    replace RG := RG.drew.later b7
    replace h := h.drew.below b7
    replace s := s.drew.below b7
    replace x := x.drew.below b7
    replace g := g.drew.below b7
    replace c := c.drew.trans (b7.mono c.size)
    replace RP := RP.later b8
    replace RS := RS.later b8
    replace RX := RX.later b8
    replace RG := RG.later b8
    replace h := h.below b8
    replace s := s.below b8
    replace x := x.below b8
    replace g := g.below b8
    replace c := bt c b8
    clear r7
    have hsz8 : w6.heap.size ≤ w8.heap.size := Nat.le_trans b7.size b8.size
    have qX0 := RX.cell' (i := 0) rfl
    have qX1 := RX.cell' (i := 1) rfl
    have qX2 := RX.cell' (i := 2) rfl
    have qX3 := RX.cell' (i := 3) rfl
    have qX4 := RX.cell' (i := 4) rfl
    have qX5 := RX.cell' (i := 5) rfl
    have qX6 := RX.cell' (i := 6) rfl
    have qX7 := RX.cell' (i := 7) rfl
    have qX8 := RX.cell' (i := 8) rfl
    go_wp2_with fail
    refine (markSetup_p _ x fx.1 HPS.out (by have := HPM.out; omega)).mono ?_
    rintro e w9 ⟨rfl, x9, o9⟩
    have fx2 := fx.2
    simp only [World.size_alloc] at fx2
    clear qX0 qX1 qX2 qX3 qX4 qX5 qX6 qX7 qX8
    have hw13 : w.heap.size < w3.heap.size + 1 := by have := b2.size; have := b3.size; omega
    replace RP := RP.onl o9 (fun hin => by have := fx2 _ hin; omega)
    replace RS := RS.onl o9 (fun hin => by have := fx2 _ hin; omega)
    replace RX := RX.onl o9 (fun hin => by have := hxb _ hin; omega)
    replace RG := RG.onl o9 (fun hin => by have := hxb _ hin; omega)
    replace h := h.only o9 (fun b hb hin => by have := hF _ hb; have := fx2 _ hin; omega)
    replace s := s.only o9 (fun b hb hin => by have := bx _ hb; have := fx2 _ hin; omega)
    replace g := g.only o9 (fun b hb hin => by have hq1 := fg.2 _ hb; have hq2 := hxb _ hin; simp at hq1; omega)
    replace c := c.trans (o9.below c.size (fun b hin => by have := fx2 _ hin; omega))
    clear x
    have qG0 := RG.cell' (i := 0) rfl
    have qG1 := RG.cell' (i := 1) rfl
    have qG2 := RG.cell' (i := 2) rfl
    have qG3 := RG.cell' (i := 3) rfl
    have qG4 := RG.cell' (i := 4) rfl
    have qG5 := RG.cell' (i := 5) rfl
    have qG6 := RG.cell' (i := 6) rfl
    have qG7 := RG.cell' (i := 7) rfl
    have qG8 := RG.cell' (i := 8) rfl
    have qG9 := RG.cell' (i := 9) rfl
    have qG10 := RG.cell' (i := 10) rfl
    have qG11 := RG.cell' (i := 11) rfl
    have qG12 := RG.cell' (i := 12) rfl
    have qS0 := RS.cell' (i := 0) rfl
    have qS1 := RS.cell' (i := 1) rfl
    have qS2 := RS.cell' (i := 2) rfl
    have qS3 := RS.cell' (i := 3) rfl
    have qS4 := RS.cell' (i := 4) rfl
    have qS5 := RS.cell' (i := 5) rfl
    have qS6 := RS.cell' (i := 6) rfl
    have qS7 := RS.cell' (i := 7) rfl
    have qS8 := RS.cell' (i := 8) rfl
    have qS9 := RS.cell' (i := 9) rfl
    have qS10 := RS.cell' (i := 10) rfl
    have qS11 := RS.cell' (i := 11) rfl
    have qS12 := RS.cell' (i := 12) rfl
    go_wp2_with fail
    refine (eqSession_p _ g s HQS.out HQS.out).mono ?_
    rintro e w10 ⟨rfl, b10⟩
    clear qG0 qG1 qG2 qG3 qG4 qG5 qG6 qG7 qG8 qG9 qG10 qG11 qG12 qS0 qS1 qS2 qS3 qS4 qS5 qS6 qS7 qS8 qS9 qS10 qS11 qS12
    replace RP := RP.later b10
    replace RS := RS.later b10
    replace RX := RX.later b10
    replace RG := RG.later b10
    replace h := h.below b10
    replace s := s.below b10
    replace g := g.below b10
    replace c := bt c b10
    have qG0 := RG.cell' (i := 0) rfl
    have qG1 := RG.cell' (i := 1) rfl
    have qG2 := RG.cell' (i := 2) rfl
    have qG3 := RG.cell' (i := 3) rfl
    have qG4 := RG.cell' (i := 4) rfl
    have qG5 := RG.cell' (i := 5) rfl
    have qG6 := RG.cell' (i := 6) rfl
    have qG7 := RG.cell' (i := 7) rfl
    have qG8 := RG.cell' (i := 8) rfl
    have qG9 := RG.cell' (i := 9) rfl
    have qG10 := RG.cell' (i := 10) rfl
    have qG11 := RG.cell' (i := 11) rfl
    have qG12 := RG.cell' (i := 12) rfl
    go_wp2_with fail
    refine (markSession_p _ g fg.1 HQS.out (by have := HQM.out; omega)).mono ?_
    rintro e w11 ⟨rfl, g11, o11⟩
    have fg2 := fg.2
    simp only [World.size_alloc] at fg2
    clear qG0 qG1 qG2 qG3 qG4 qG5 qG6 qG7 qG8 qG9 qG10 qG11 qG12
    replace RP := RP.onl o11 (fun hin => by have := fg2 _ hin; omega)
    replace RS := RS.onl o11 (fun hin => by have := fg2 _ hin; omega)
    replace RX := RX.onl o11 (fun hin => by have := fg2 _ hin; omega)
    replace RG := RG.onl o11 (fun hin => by have := hgb _ hin; omega)
    replace h := h.only o11 (fun b hb hin => by have := hF _ hb; have := fg2 _ hin; omega)
    replace s := s.only o11 (fun b hb hin => by have := bx _ hb; have := fg2 _ hin; omega)
    replace c := c.trans (o11.below c.size (fun b hin => by have := fg2 _ hin; omega))
    clear g
    have qG0 := RG.cell' (i := 0) rfl
    have qG1 := RG.cell' (i := 1) rfl
    have qG2 := RG.cell' (i := 2) rfl
    have qG3 := RG.cell' (i := 3) rfl
    have qG4 := RG.cell' (i := 4) rfl
    have qG5 := RG.cell' (i := 5) rfl
    have qG6 := RG.cell' (i := 6) rfl
    have qG7 := RG.cell' (i := 7) rfl
    have qG8 := RG.cell' (i := 8) rfl
    have qG9 := RG.cell' (i := 9) rfl
    have qG10 := RG.cell' (i := 10) rfl
    have qG11 := RG.cell' (i := 11) rfl
    have qG12 := RG.cell' (i := 12) rfl
    go_wp2_with fail
    refine (heldSession_p _ g11 HQS.out (by have := HQM.out; omega)).mono ?_
    rintro e w12 ⟨rfl, b12⟩
    clear qG0 qG1 qG2 qG3 qG4 qG5 qG6 qG7 qG8 qG9 qG10 qG11 qG12
    replace RP := RP.later b12
    replace RS := RS.later b12
    replace RX := RX.later b12
    replace RG := RG.later b12
    replace h := h.below b12
    replace s := s.below b12
    replace g11 := g11.below b12
    replace c := bt c b12
    have qP0 := RP.cell' (i := 0) rfl
    have qP1 := RP.cell' (i := 1) rfl
    have qP2 := RP.cell' (i := 2) rfl
    have qP3 := RP.cell' (i := 3) rfl
    have qP4 := RP.cell' (i := 4) rfl
    have qP5 := RP.cell' (i := 5) rfl
    have qP6 := RP.cell' (i := 6) rfl
    have qP7 := RP.cell' (i := 7) rfl
    have qP8 := RP.cell' (i := 8) rfl
    go_wp2_with fail
    refine (toSetup_p _ h HPS.out).mono ?_
    rintro e w13 ⟨u13, G13, rfl, r13, f13, b13⟩
    clear qP0 qP1 qP2 qP3 qP4 qP5 qP6 qP7 qP8
    replace RP := RP.later b13
    replace RS := RS.later b13
    replace RX := RX.later b13
    replace RG := RG.later b13
    replace h := h.below b13
    replace s := s.below b13
    replace g11 := g11.below b13
    replace c := bt c b13
    obtain ⟨D0, Dk0, D1, Dk1, D2, Dk2, rfl⟩ := r13.shape
    go_wp2_with fail
    refine (HI.out _ _ _ r13).mono ?_
    rintro e w14 ⟨u14, GT, rfl, t, ft, b14⟩
    dsimp only at t
    replace RP := RP.later b14
    replace RS := RS.later b14
    replace RX := RX.later b14
    replace RG := RG.later b14
    replace h := h.below b14
    replace s := s.below b14
    replace g11 := g11.below b14
    replace c := bt c b14
    obtain ⟨T0, Tk0, T1, Tk1, T2, Tk2, T3, Tk3, T4, Tk4, T5, Tk5, rfl⟩ := t.shape
    have RSa := RS.alloc (.cells #[.int .i64 q.setup.band, .slice T0 q.setup.temps.length Tk0, .int .i64 q.setup.points, .int .i64 q.setup.most, .int .i64 q.setup.pen, .slice T1 q.setup.entries.length Tk1, .int .i64 q.setup.dflt, .slice T2 q.setup.bigrams.length Tk2, .int .i64 q.setup.pause, .slice T3 q.strokes.length Tk3, .slice T4 q.opn.length Tk4, .int .i64 q.time, .slice T5 q.words.length Tk5] 67)
    have qS0a := RSa.cell' (i := 0) rfl
    have qS1a := RSa.cell' (i := 1) rfl
    have qS2a := RSa.cell' (i := 2) rfl
    have qS3a := RSa.cell' (i := 3) rfl
    have qS4a := RSa.cell' (i := 4) rfl
    have qS5a := RSa.cell' (i := 5) rfl
    have qS6a := RSa.cell' (i := 6) rfl
    have qS7a := RSa.cell' (i := 7) rfl
    have qS8a := RSa.cell' (i := 8) rfl
    have qS9a := RSa.cell' (i := 9) rfl
    have qS10a := RSa.cell' (i := 10) rfl
    have qS11a := RSa.cell' (i := 11) rfl
    have qS12a := RSa.cell' (i := 12) rfl
    go_wp2_with fail
    refine (eqSession_p _ (t.alloc _) (s.alloc _) HQS.out HQS.out).mono ?_
    rintro e w15 ⟨rfl, b15⟩
    clear qS0a qS1a qS2a qS3a qS4a qS5a qS6a qS7a qS8a qS9a qS10a qS11a qS12a
    clear RSa
    replace RP := (RP.alloc _).later b15
    replace RS := (RS.alloc _).later b15
    replace RX := (RX.alloc _).later b15
    replace RG := (RG.alloc _).later b15
    replace h := (h.alloc _).below b15
    replace s := (s.alloc _).below b15
    replace g11 := (g11.alloc _).below b15
    replace c := (c.alloc c.size _).trans (b15.mono (by have := c.size; simp; omega))
    have qG0 := RG.cell' (i := 0) rfl
    have qG1 := RG.cell' (i := 1) rfl
    have qG2 := RG.cell' (i := 2) rfl
    have qG3 := RG.cell' (i := 3) rfl
    have qG4 := RG.cell' (i := 4) rfl
    have qG5 := RG.cell' (i := 5) rfl
    have qG6 := RG.cell' (i := 6) rfl
    have qG7 := RG.cell' (i := 7) rfl
    have qG8 := RG.cell' (i := 8) rfl
    have qG9 := RG.cell' (i := 9) rfl
    have qG10 := RG.cell' (i := 10) rfl
    have qG11 := RG.cell' (i := 11) rfl
    have qG12 := RG.cell' (i := 12) rfl
    go_wp2_with fail
    refine (heldSession_p _ g11 HQS.out (by have := HQM.out; omega)).mono ?_
    rintro e w16 ⟨rfl, b16⟩
    go_wp2_with fail
    go_ret
    exact ⟨rfl, bt c b16⟩
end Go.Proofs.YtkfadfddhbpngaaGreat

/- Store, Lexicon, Model, Setup, Session: the law's own sz over them. Conditions: none. -/
import Derived.Test.YtkfadfddhbpngaaGreatSeTyx
namespace Go.Proofs.YtkfadfddhbpngaaGreat
open Go Go.RowKit


set_option maxRecDepth 100000 in
set_option maxHeartbeats 1000000 in
theorem szStore_c {o : Bool} {pe e : TypeId} {n : Int} {xs : List PTemp} {v : Value} {F : List Nat} (w : World) (h : (pTemps pe e).rep o w xs [v] F) (left : Int) (hl : 0 ≤ left ∧ left ≤ 1048576) :
 Calls Tryz.prog 40 #[.agg #[.int .i64 n, v], .int .i64 left] w fun e w' => (∃ r : Int, e = .returned (.int .i64 r) ∧ r ≤ left ∧ (0 ≤ r → r + (szTemps xs : Nat) ≤ left)) ∧ Below w.heap.size w w' := by
 obtain ⟨Aa, ka, rfl⟩ := slice_len h
 go_enter Tryz.func40, Tryz.ntmps40
 have R := Row.new w 24 #[.int .i64 n, .slice Aa xs.length ka]
 have bb : Below w.heap.size w (w.alloc (.cells #[.int .i64 n, .slice Aa xs.length ka] 24)) := (Below.refl _ _).alloc (Nat.le_refl _) _
 replace h := h.alloc (.cells #[.int .i64 n, .slice Aa xs.length ka] 24)
 go_wp2_with fail
 refine (szTemplateS_c _ h left (by omega)).mono ?_
 rintro e w0 ⟨⟨l0, rfl, a0, c0⟩, b0⟩
 replace bb := bb.trans (b0.mono bb.size)
 replace R := R.later b0
 replace h := h.below b0
 by_cases n0 : l0 < 0
 · go_wp2_with fail
   go_ret
   exact ⟨⟨-1, rfl, by omega, by omega⟩, bb⟩
 go_wp2_with fail
 go_ret
 exact ⟨⟨l0, rfl, by omega, by omega⟩, bb⟩
set_option maxRecDepth 100000 in
set_option maxHeartbeats 1000000 in
theorem szLexicon_c {o : Bool} {e : TypeId} {xs : List PEntry} {v : Value} {F : List Nat} (w : World) (h : (pEntrys e).rep o w xs [v] F) (left : Int) (hl : 0 ≤ left ∧ left ≤ 1048576) :
 Calls Tryz.prog 41 #[.agg #[v], .int .i64 left] w fun e w' => (∃ r : Int, e = .returned (.int .i64 r) ∧ r ≤ left ∧ (0 ≤ r → r + (szpEntry xs : Nat) ≤ left)) ∧ Below w.heap.size w w' := by
 obtain ⟨Aa, ka, rfl⟩ := slice_len h
 go_enter Tryz.func41, Tryz.ntmps41
 have R := Row.new w 29 #[.slice Aa xs.length ka]
 have bb : Below w.heap.size w (w.alloc (.cells #[.slice Aa xs.length ka] 29)) := (Below.refl _ _).alloc (Nat.le_refl _) _
 replace h := h.alloc (.cells #[.slice Aa xs.length ka] 29)
 go_wp2_with fail
 refine (szEntryS_c _ h left (by omega)).mono ?_
 rintro e w0 ⟨⟨l0, rfl, a0, c0⟩, b0⟩
 replace bb := bb.trans (b0.mono bb.size)
 replace R := R.later b0
 replace h := h.below b0
 by_cases n0 : l0 < 0
 · go_wp2_with fail
   go_ret
   exact ⟨⟨-1, rfl, by omega, by omega⟩, bb⟩
 go_wp2_with fail
 go_ret
 exact ⟨⟨l0, rfl, by omega, by omega⟩, bb⟩
set_option maxRecDepth 100000 in
set_option maxHeartbeats 1000000 in
theorem szModel_c {o : Bool} {e : TypeId} {n : Int} {xs : List PBigram} {v : Value} {F : List Nat} (w : World) (h : (pBigrams e).rep o w xs [v] F) (left : Int) (hl : 0 ≤ left ∧ left ≤ 1048576) :
 Calls Tryz.prog 42 #[.agg #[.int .i64 n, v], .int .i64 left] w fun e w' => (∃ r : Int, e = .returned (.int .i64 r) ∧ r ≤ left ∧ (0 ≤ r → r + (szpBigram xs : Nat) ≤ left)) ∧ Below w.heap.size w w' := by
 obtain ⟨Aa, ka, rfl⟩ := slice_len h
 go_enter Tryz.func42, Tryz.ntmps42
 have R := Row.new w 32 #[.int .i64 n, .slice Aa xs.length ka]
 have bb : Below w.heap.size w (w.alloc (.cells #[.int .i64 n, .slice Aa xs.length ka] 32)) := (Below.refl _ _).alloc (Nat.le_refl _) _
 replace h := h.alloc (.cells #[.int .i64 n, .slice Aa xs.length ka] 32)
 go_wp2_with fail
 refine (szBigramS_c _ h left (by omega)).mono ?_
 rintro e w0 ⟨⟨l0, rfl, a0, c0⟩, b0⟩
 replace bb := bb.trans (b0.mono bb.size)
 replace R := R.later b0
 replace h := h.below b0
 by_cases n0 : l0 < 0
 · go_wp2_with fail
   go_ret
   exact ⟨⟨-1, rfl, by omega, by omega⟩, bb⟩
 go_wp2_with fail
 go_ret
 exact ⟨⟨l0, rfl, by omega, by omega⟩, bb⟩
set_option maxRecDepth 100000 in
set_option maxHeartbeats 1000000 in
theorem szSetup_c {o : Bool} {ef et ee eb : TypeId} {p : PSetup} {a b c : Value} {F1 F2 F3 : List Nat} (w : World) (h1 : (pTemps ef et).rep o w p.temps [a] F1) (h2 : (pEntrys ee).rep o w p.entries [b] F2) (h3 : (pBigrams eb).rep o w p.bigrams [c] F3) (left : Int) (hl : 0 ≤ left ∧ left ≤ 1048576) :
 Calls Tryz.prog 16 #[.agg #[.int .i64 p.band, a, .int .i64 p.points, .int .i64 p.most, .int .i64 p.pen, b, .int .i64 p.dflt, c, .int .i64 p.pause], .int .i64 left] w fun e w' => (∃ r : Int, e = .returned (.int .i64 r) ∧ r ≤ left ∧ (0 ≤ r → r + (szSe p : Nat) ≤ left)) ∧ Below w.heap.size w w' := by
 obtain ⟨Aa, ka, rfl⟩ := slice_len h1
 obtain ⟨Ab, kb, rfl⟩ := slice_len h2
 obtain ⟨Ac, kc, rfl⟩ := slice_len h3
 unfold szSe
 go_enter Tryz.func16, Tryz.ntmps16
 have R := Row.new w 34 #[.int .i64 p.band, .slice Aa p.temps.length ka, .int .i64 p.points, .int .i64 p.most, .int .i64 p.pen, .slice Ab p.entries.length kb, .int .i64 p.dflt, .slice Ac p.bigrams.length kc, .int .i64 p.pause]
 have bb : Below w.heap.size w (w.alloc (.cells #[.int .i64 p.band, .slice Aa p.temps.length ka, .int .i64 p.points, .int .i64 p.most, .int .i64 p.pen, .slice Ab p.entries.length kb, .int .i64 p.dflt, .slice Ac p.bigrams.length kc, .int .i64 p.pause] 34)) := (Below.refl _ _).alloc (Nat.le_refl _) _
 replace h1 := h1.alloc (.cells #[.int .i64 p.band, .slice Aa p.temps.length ka, .int .i64 p.points, .int .i64 p.most, .int .i64 p.pen, .slice Ab p.entries.length kb, .int .i64 p.dflt, .slice Ac p.bigrams.length kc, .int .i64 p.pause] 34)
 replace h2 := h2.alloc (.cells #[.int .i64 p.band, .slice Aa p.temps.length ka, .int .i64 p.points, .int .i64 p.most, .int .i64 p.pen, .slice Ab p.entries.length kb, .int .i64 p.dflt, .slice Ac p.bigrams.length kc, .int .i64 p.pause] 34)
 replace h3 := h3.alloc (.cells #[.int .i64 p.band, .slice Aa p.temps.length ka, .int .i64 p.points, .int .i64 p.most, .int .i64 p.pen, .slice Ab p.entries.length kb, .int .i64 p.dflt, .slice Ac p.bigrams.length kc, .int .i64 p.pause] 34)
 go_wp2_with fail
 refine (szStore_c (n := p.band) _ h1 left (by omega)).mono ?_
 rintro e w0 ⟨⟨l0, rfl, a0, c0⟩, b0⟩
 replace bb := bb.trans (b0.mono bb.size)
 replace R := R.later b0
 replace h1 := h1.below b0
 replace h2 := h2.below b0
 replace h3 := h3.below b0
 by_cases n0 : l0 < 0
 · go_wp2_with fail
   go_ret
   exact ⟨⟨-1, rfl, by omega, by omega⟩, bb⟩
 have q0 := R.cell' (i := 0) rfl
 have q1 := R.cell' (i := 1) rfl
 have q2 := R.cell' (i := 2) rfl
 have q3 := R.cell' (i := 3) rfl
 have q4 := R.cell' (i := 4) rfl
 have q5 := R.cell' (i := 5) rfl
 have q6 := R.cell' (i := 6) rfl
 have q7 := R.cell' (i := 7) rfl
 have q8 := R.cell' (i := 8) rfl
 go_wp2_with fail
 refine (szLexicon_c _ h2 l0 (by omega)).mono ?_
 rintro e w1 ⟨⟨l1, rfl, a1, c1⟩, b1⟩
 clear q0 q1 q2 q3 q4 q5 q6 q7 q8
 replace bb := bb.trans (b1.mono bb.size)
 replace R := R.later b1
 replace h1 := h1.below b1
 replace h2 := h2.below b1
 replace h3 := h3.below b1
 by_cases n1 : l1 < 0
 · go_wp2_with fail
   go_ret
   exact ⟨⟨-1, rfl, by omega, by omega⟩, bb⟩
 have q0 := R.cell' (i := 0) rfl
 have q1 := R.cell' (i := 1) rfl
 have q2 := R.cell' (i := 2) rfl
 have q3 := R.cell' (i := 3) rfl
 have q4 := R.cell' (i := 4) rfl
 have q5 := R.cell' (i := 5) rfl
 have q6 := R.cell' (i := 6) rfl
 have q7 := R.cell' (i := 7) rfl
 have q8 := R.cell' (i := 8) rfl
 go_wp2_with fail
 refine (szModel_c (n := p.dflt) _ h3 l1 (by omega)).mono ?_
 rintro e w2 ⟨⟨l2, rfl, a2, c2⟩, b2⟩
 clear q0 q1 q2 q3 q4 q5 q6 q7 q8
 replace bb := bb.trans (b2.mono bb.size)
 replace R := R.later b2
 replace h1 := h1.below b2
 replace h2 := h2.below b2
 replace h3 := h3.below b2
 by_cases n2 : l2 < 0
 · go_wp2_with fail
   go_ret
   exact ⟨⟨-1, rfl, by omega, by omega⟩, bb⟩
 go_wp2_with fail
 go_ret
 exact ⟨⟨l2, rfl, by omega, by omega⟩, bb⟩
set_option maxRecDepth 100000 in
set_option maxHeartbeats 1000000 in
theorem szSession_c {o : Bool} {ef et ee eb pe es ep : TypeId} {q : PSess} {a b c d g x : Value} {F1 F2 F3 F4 F5 F6 : List Nat} (w : World) (h1 : (pTemps ef et).rep o w q.setup.temps [a] F1) (h2 : (pEntrys ee).rep o w q.setup.entries [b] F2) (h3 : (pBigrams eb).rep o w q.setup.bigrams [c] F3) (h4 : (pStrokes pe es).rep o w q.strokes [d] F4) (h5 : (pPoints ep).rep o w q.opn [g] F5) (h6 : (strs 9).rep o w q.words [x] F6) (left : Int) (hl : 0 ≤ left ∧ left ≤ 1048576) :
 Calls Tryz.prog 27 #[.agg #[.int .i64 q.setup.band, a, .int .i64 q.setup.points, .int .i64 q.setup.most, .int .i64 q.setup.pen, b, .int .i64 q.setup.dflt, c, .int .i64 q.setup.pause, d, g, .int .i64 q.time, x], .int .i64 left] w fun e w' => (∃ r : Int, e = .returned (.int .i64 r) ∧ r ≤ left ∧ (0 ≤ r → r + (szSs q : Nat) ≤ left)) ∧ Below w.heap.size w w' := by
 obtain ⟨Aa, ka, rfl⟩ := slice_len h1
 obtain ⟨Ab, kb, rfl⟩ := slice_len h2
 obtain ⟨Ac, kc, rfl⟩ := slice_len h3
 obtain ⟨Ad, kd, rfl⟩ := slice_len h4
 obtain ⟨Ag, kg, rfl⟩ := slice_len h5
 obtain ⟨Ax, kx, rfl⟩ := slice_len h6
 unfold szSs
 go_enter Tryz.func27, Tryz.ntmps27
 have R := Row.new w 41 #[.int .i64 q.setup.band, .slice Aa q.setup.temps.length ka, .int .i64 q.setup.points, .int .i64 q.setup.most, .int .i64 q.setup.pen, .slice Ab q.setup.entries.length kb, .int .i64 q.setup.dflt, .slice Ac q.setup.bigrams.length kc, .int .i64 q.setup.pause, .slice Ad q.strokes.length kd, .slice Ag q.opn.length kg, .int .i64 q.time, .slice Ax q.words.length kx]
 have bb : Below w.heap.size w (w.alloc (.cells #[.int .i64 q.setup.band, .slice Aa q.setup.temps.length ka, .int .i64 q.setup.points, .int .i64 q.setup.most, .int .i64 q.setup.pen, .slice Ab q.setup.entries.length kb, .int .i64 q.setup.dflt, .slice Ac q.setup.bigrams.length kc, .int .i64 q.setup.pause, .slice Ad q.strokes.length kd, .slice Ag q.opn.length kg, .int .i64 q.time, .slice Ax q.words.length kx] 41)) := (Below.refl _ _).alloc (Nat.le_refl _) _
 replace h1 := h1.alloc (.cells #[.int .i64 q.setup.band, .slice Aa q.setup.temps.length ka, .int .i64 q.setup.points, .int .i64 q.setup.most, .int .i64 q.setup.pen, .slice Ab q.setup.entries.length kb, .int .i64 q.setup.dflt, .slice Ac q.setup.bigrams.length kc, .int .i64 q.setup.pause, .slice Ad q.strokes.length kd, .slice Ag q.opn.length kg, .int .i64 q.time, .slice Ax q.words.length kx] 41)
 replace h2 := h2.alloc (.cells #[.int .i64 q.setup.band, .slice Aa q.setup.temps.length ka, .int .i64 q.setup.points, .int .i64 q.setup.most, .int .i64 q.setup.pen, .slice Ab q.setup.entries.length kb, .int .i64 q.setup.dflt, .slice Ac q.setup.bigrams.length kc, .int .i64 q.setup.pause, .slice Ad q.strokes.length kd, .slice Ag q.opn.length kg, .int .i64 q.time, .slice Ax q.words.length kx] 41)
 replace h3 := h3.alloc (.cells #[.int .i64 q.setup.band, .slice Aa q.setup.temps.length ka, .int .i64 q.setup.points, .int .i64 q.setup.most, .int .i64 q.setup.pen, .slice Ab q.setup.entries.length kb, .int .i64 q.setup.dflt, .slice Ac q.setup.bigrams.length kc, .int .i64 q.setup.pause, .slice Ad q.strokes.length kd, .slice Ag q.opn.length kg, .int .i64 q.time, .slice Ax q.words.length kx] 41)
 replace h4 := h4.alloc (.cells #[.int .i64 q.setup.band, .slice Aa q.setup.temps.length ka, .int .i64 q.setup.points, .int .i64 q.setup.most, .int .i64 q.setup.pen, .slice Ab q.setup.entries.length kb, .int .i64 q.setup.dflt, .slice Ac q.setup.bigrams.length kc, .int .i64 q.setup.pause, .slice Ad q.strokes.length kd, .slice Ag q.opn.length kg, .int .i64 q.time, .slice Ax q.words.length kx] 41)
 replace h5 := h5.alloc (.cells #[.int .i64 q.setup.band, .slice Aa q.setup.temps.length ka, .int .i64 q.setup.points, .int .i64 q.setup.most, .int .i64 q.setup.pen, .slice Ab q.setup.entries.length kb, .int .i64 q.setup.dflt, .slice Ac q.setup.bigrams.length kc, .int .i64 q.setup.pause, .slice Ad q.strokes.length kd, .slice Ag q.opn.length kg, .int .i64 q.time, .slice Ax q.words.length kx] 41)
 replace h6 := h6.alloc (.cells #[.int .i64 q.setup.band, .slice Aa q.setup.temps.length ka, .int .i64 q.setup.points, .int .i64 q.setup.most, .int .i64 q.setup.pen, .slice Ab q.setup.entries.length kb, .int .i64 q.setup.dflt, .slice Ac q.setup.bigrams.length kc, .int .i64 q.setup.pause, .slice Ad q.strokes.length kd, .slice Ag q.opn.length kg, .int .i64 q.time, .slice Ax q.words.length kx] 41)
 go_wp2_with fail
 refine (szSetup_c (p := q.setup) _ h1 h2 h3 left (by omega)).mono ?_
 rintro e w0 ⟨⟨l0, rfl, a0, c0⟩, b0⟩
 replace bb := bb.trans (b0.mono bb.size)
 replace R := R.later b0
 replace h1 := h1.below b0
 replace h2 := h2.below b0
 replace h3 := h3.below b0
 replace h4 := h4.below b0
 replace h5 := h5.below b0
 replace h6 := h6.below b0
 by_cases n0 : l0 < 0
 · go_wp2_with fail
   go_ret
   exact ⟨⟨-1, rfl, by omega, by omega⟩, bb⟩
 have q0 := R.cell' (i := 0) rfl
 have q1 := R.cell' (i := 1) rfl
 have q2 := R.cell' (i := 2) rfl
 have q3 := R.cell' (i := 3) rfl
 have q4 := R.cell' (i := 4) rfl
 have q5 := R.cell' (i := 5) rfl
 have q6 := R.cell' (i := 6) rfl
 have q7 := R.cell' (i := 7) rfl
 have q8 := R.cell' (i := 8) rfl
 have q9 := R.cell' (i := 9) rfl
 have q10 := R.cell' (i := 10) rfl
 have q11 := R.cell' (i := 11) rfl
 have q12 := R.cell' (i := 12) rfl
 go_wp2_with fail
 refine (szInk_c _ h4 l0 (by omega)).mono ?_
 rintro e w1 ⟨⟨l1, rfl, a1, c1⟩, b1⟩
 clear q0 q1 q2 q3 q4 q5 q6 q7 q8 q9 q10 q11 q12
 replace bb := bb.trans (b1.mono bb.size)
 replace R := R.later b1
 replace h1 := h1.below b1
 replace h2 := h2.below b1
 replace h3 := h3.below b1
 replace h4 := h4.below b1
 replace h5 := h5.below b1
 replace h6 := h6.below b1
 by_cases n1 : l1 < 0
 · go_wp2_with fail
   go_ret
   exact ⟨⟨-1, rfl, by omega, by omega⟩, bb⟩
 have q0 := R.cell' (i := 0) rfl
 have q1 := R.cell' (i := 1) rfl
 have q2 := R.cell' (i := 2) rfl
 have q3 := R.cell' (i := 3) rfl
 have q4 := R.cell' (i := 4) rfl
 have q5 := R.cell' (i := 5) rfl
 have q6 := R.cell' (i := 6) rfl
 have q7 := R.cell' (i := 7) rfl
 have q8 := R.cell' (i := 8) rfl
 have q9 := R.cell' (i := 9) rfl
 have q10 := R.cell' (i := 10) rfl
 have q11 := R.cell' (i := 11) rfl
 have q12 := R.cell' (i := 12) rfl
 go_wp2_with fail
 refine (szPointS_c _ h5 l1 (by omega)).mono ?_
 rintro e w2 ⟨⟨l2, rfl, _, a2, c2⟩, b2⟩
 clear q0 q1 q2 q3 q4 q5 q6 q7 q8 q9 q10 q11 q12
 replace bb := bb.trans (b2.mono bb.size)
 replace R := R.later b2
 replace h1 := h1.below b2
 replace h2 := h2.below b2
 replace h3 := h3.below b2
 replace h4 := h4.below b2
 replace h5 := h5.below b2
 replace h6 := h6.below b2
 by_cases n2 : l2 < 0
 · go_wp2_with fail
   go_ret
   exact ⟨⟨-1, rfl, by omega, by omega⟩, bb⟩
 have q0 := R.cell' (i := 0) rfl
 have q1 := R.cell' (i := 1) rfl
 have q2 := R.cell' (i := 2) rfl
 have q3 := R.cell' (i := 3) rfl
 have q4 := R.cell' (i := 4) rfl
 have q5 := R.cell' (i := 5) rfl
 have q6 := R.cell' (i := 6) rfl
 have q7 := R.cell' (i := 7) rfl
 have q8 := R.cell' (i := 8) rfl
 have q9 := R.cell' (i := 9) rfl
 have q10 := R.cell' (i := 10) rfl
 have q11 := R.cell' (i := 11) rfl
 have q12 := R.cell' (i := 12) rfl
 go_wp2_with fail
 refine (szStringS_b _ h6 l2 (by omega)).mono ?_
 rintro e w3 ⟨⟨l3, rfl, a3, c3⟩, b3⟩
 clear q0 q1 q2 q3 q4 q5 q6 q7 q8 q9 q10 q11 q12
 replace bb := bb.trans (b3.mono bb.size)
 replace R := R.later b3
 replace h1 := h1.below b3
 replace h2 := h2.below b3
 replace h3 := h3.below b3
 replace h4 := h4.below b3
 replace h5 := h5.below b3
 replace h6 := h6.below b3
 by_cases n3 : l3 < 0
 · go_wp2_with fail
   go_ret
   exact ⟨⟨-1, rfl, by omega, by omega⟩, bb⟩
 go_wp2_with fail
 go_ret
 exact ⟨⟨l3, rfl, by omega, by omega⟩, bb⟩
end Go.Proofs.YtkfadfddhbpngaaGreat

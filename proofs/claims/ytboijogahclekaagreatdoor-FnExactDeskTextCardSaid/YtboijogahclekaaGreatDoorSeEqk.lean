/- Store, Lexicon, Model, Setup, Session: the law's own eq over them. Conditions: none. -/
import Derived.Test.YtboijogahclekaaGreatDoorTyStrokek
namespace Go.Proofs.YtboijogahclekaaGreatDoor
open Go Go.RowKit
set_option maxRecDepth 100000 in
set_option maxHeartbeats 4000000 in
theorem eqStore_c {oa ob : Bool} {ea eb pa pb : TypeId} {v u : Value} {F G : List Nat} {n m : Int} {xs ys : List PTemp} (w : World) (h : (pTemps pa ea).rep oa w xs [v] F) (h' : (pTemps pb eb).rep ob w ys [u] G) (hx : xs.length ≤ 1048576) (hy : ys.length ≤ 1048576) (hxe : ∀ l ∈ xs, l.feats.length ≤ 1048576) (hye : ∀ l ∈ ys, l.feats.length ≤ 1048576) :
 Calls Tryz.prog 87 #[.agg #[.int .i64 n, v], .agg #[.int .i64 m, u]] w fun e w' => e = .returned (.bool (decide (n = m) && decide (xs = ys))) ∧ Below w.heap.size w w' := by
 obtain ⟨Aa, ka, rfl⟩ := slice_len h
 obtain ⟨Ab, kb, rfl⟩ := slice_len h'
 have C1 := Lib.hid (fun w' (q0 : (pTemps pa ea).rep oa w' xs [.slice Aa xs.length ka] F) (q1 : (pTemps pb eb).rep ob w' ys [.slice Ab ys.length kb] G) => eqTemplateS_c w' q0 q1 hx hy hxe hye)
 have g0 : (n != m) = !(decide (n = m)) := by by_cases hh : n = m <;> simp [hh]
 generalize decide (n = m) = d0 at *
 generalize decide (xs = ys) = d1 at *
 have R0 := (Row.new w 52 #[.int .i64 n, .slice Aa xs.length ka]).alloc (.cells #[.int .i64 m, .slice Ab ys.length kb] 52)
 have Q0 := Row.new (w.alloc (.cells #[.int .i64 n, .slice Aa xs.length ka] 52)) 52 #[.int .i64 m, .slice Ab ys.length kb]
 simp only [World.size_alloc] at Q0
 have bb0 : Below w.heap.size w ((w.alloc (.cells #[.int .i64 n, .slice Aa xs.length ka] 52)).alloc (.cells #[.int .i64 m, .slice Ab ys.length kb] 52)) := ((Below.refl _ _).alloc (Nat.le_refl _) _).alloc (by simp) _
 replace h := (h.alloc (.cells #[.int .i64 n, .slice Aa xs.length ka] 52)).alloc (.cells #[.int .i64 m, .slice Ab ys.length kb] 52)
 replace h' := (h'.alloc (.cells #[.int .i64 n, .slice Aa xs.length ka] 52)).alloc (.cells #[.int .i64 m, .slice Ab ys.length kb] 52)
 cases d0
 · go_enter Tryz.func87, Tryz.ntmps87
   go_wp2_with fail
   go_ret
   exact ⟨rfl, bb0⟩
 · cases d1
   · go_enter Tryz.func87, Tryz.ntmps87
     go_wp2_with fail
     refine (C1.out _ h h').mono ?_
     rintro e w1 ⟨rfl, b1⟩
     replace bb0 := bb0.trans (b1.mono bb0.size)
     go_wp2_with fail
     go_ret
     exact ⟨rfl, bb0⟩
   · go_enter Tryz.func87, Tryz.ntmps87
     go_wp2_with fail
     refine (C1.out _ h h').mono ?_
     rintro e w1 ⟨rfl, b1⟩
     replace bb0 := bb0.trans (b1.mono bb0.size)
     replace R0 := R0.later b1
     replace Q0 := Q0.later b1
     replace h := h.below b1
     replace h' := h'.below b1
     have qr0 := R0.c0
     have qq0 := Q0.c0
     have qr1 := R0.c1
     have qq1 := Q0.c1
     go_wp2_with fail
     go_ret
     exact ⟨rfl, bb0⟩
set_option maxRecDepth 100000 in
set_option maxHeartbeats 4000000 in
theorem eqLexicon_c {oa ob : Bool} {ea eb : TypeId} {v u : Value} {F G : List Nat} {xs ys : List PEntry} (w : World) (h : (pEntrys ea).rep oa w xs [v] F) (h' : (pEntrys eb).rep ob w ys [u] G) (hx : xs.length ≤ 1048576) (hy : ys.length ≤ 1048576) :
 Calls Tryz.prog 89 #[.agg #[v], .agg #[u]] w fun e w' => e = .returned (.bool (decide (xs = ys))) ∧ Below w.heap.size w w' := by
 obtain ⟨Aa, ka, rfl⟩ := slice_len h
 obtain ⟨Ab, kb, rfl⟩ := slice_len h'
 have C0 := Lib.hid (fun w' (q0 : (pEntrys ea).rep oa w' xs [.slice Aa xs.length ka] F) (q1 : (pEntrys eb).rep ob w' ys [.slice Ab ys.length kb] G) => eqEntryS_c w' q0 q1 hx hy)
 generalize decide (xs = ys) = d0 at *
 have R0 := (Row.new w 56 #[.slice Aa xs.length ka]).alloc (.cells #[.slice Ab ys.length kb] 56)
 have Q0 := Row.new (w.alloc (.cells #[.slice Aa xs.length ka] 56)) 56 #[.slice Ab ys.length kb]
 simp only [World.size_alloc] at Q0
 have bb0 : Below w.heap.size w ((w.alloc (.cells #[.slice Aa xs.length ka] 56)).alloc (.cells #[.slice Ab ys.length kb] 56)) := ((Below.refl _ _).alloc (Nat.le_refl _) _).alloc (by simp) _
 replace h := (h.alloc (.cells #[.slice Aa xs.length ka] 56)).alloc (.cells #[.slice Ab ys.length kb] 56)
 replace h' := (h'.alloc (.cells #[.slice Aa xs.length ka] 56)).alloc (.cells #[.slice Ab ys.length kb] 56)
 cases d0
 · go_enter Tryz.func89, Tryz.ntmps89
   go_wp2_with fail
   refine (C0.out _ h h').mono ?_
   rintro e w1 ⟨rfl, b1⟩
   replace bb0 := bb0.trans (b1.mono bb0.size)
   go_wp2_with fail
   go_ret
   exact ⟨rfl, bb0⟩
 · go_enter Tryz.func89, Tryz.ntmps89
   go_wp2_with fail
   refine (C0.out _ h h').mono ?_
   rintro e w1 ⟨rfl, b1⟩
   replace bb0 := bb0.trans (b1.mono bb0.size)
   replace R0 := R0.later b1
   replace Q0 := Q0.later b1
   replace h := h.below b1
   replace h' := h'.below b1
   have qr0 := R0.c0
   have qq0 := Q0.c0
   go_wp2_with fail
   go_ret
   exact ⟨rfl, bb0⟩
set_option maxRecDepth 100000 in
set_option maxHeartbeats 4000000 in
theorem eqModel_c {oa ob : Bool} {ea eb : TypeId} {v u : Value} {F G : List Nat} {n m : Int} {xs ys : List PBigram} (w : World) (h : (pBigrams ea).rep oa w xs [v] F) (h' : (pBigrams eb).rep ob w ys [u] G) (hx : xs.length ≤ 1048576) (hy : ys.length ≤ 1048576) :
 Calls Tryz.prog 90 #[.agg #[.int .i64 n, v], .agg #[.int .i64 m, u]] w fun e w' => e = .returned (.bool (decide (n = m) && decide (xs = ys))) ∧ Below w.heap.size w w' := by
 obtain ⟨Aa, ka, rfl⟩ := slice_len h
 obtain ⟨Ab, kb, rfl⟩ := slice_len h'
 have C1 := Lib.hid (fun w' (q0 : (pBigrams ea).rep oa w' xs [.slice Aa xs.length ka] F) (q1 : (pBigrams eb).rep ob w' ys [.slice Ab ys.length kb] G) => eqBigramS_c w' q0 q1 hx hy)
 have g0 : (n != m) = !(decide (n = m)) := by by_cases hh : n = m <;> simp [hh]
 generalize decide (n = m) = d0 at *
 generalize decide (xs = ys) = d1 at *
 have R0 := (Row.new w 59 #[.int .i64 n, .slice Aa xs.length ka]).alloc (.cells #[.int .i64 m, .slice Ab ys.length kb] 59)
 have Q0 := Row.new (w.alloc (.cells #[.int .i64 n, .slice Aa xs.length ka] 59)) 59 #[.int .i64 m, .slice Ab ys.length kb]
 simp only [World.size_alloc] at Q0
 have bb0 : Below w.heap.size w ((w.alloc (.cells #[.int .i64 n, .slice Aa xs.length ka] 59)).alloc (.cells #[.int .i64 m, .slice Ab ys.length kb] 59)) := ((Below.refl _ _).alloc (Nat.le_refl _) _).alloc (by simp) _
 replace h := (h.alloc (.cells #[.int .i64 n, .slice Aa xs.length ka] 59)).alloc (.cells #[.int .i64 m, .slice Ab ys.length kb] 59)
 replace h' := (h'.alloc (.cells #[.int .i64 n, .slice Aa xs.length ka] 59)).alloc (.cells #[.int .i64 m, .slice Ab ys.length kb] 59)
 cases d0
 · go_enter Tryz.func90, Tryz.ntmps90
   go_wp2_with fail
   go_ret
   exact ⟨rfl, bb0⟩
 · cases d1
   · go_enter Tryz.func90, Tryz.ntmps90
     go_wp2_with fail
     refine (C1.out _ h h').mono ?_
     rintro e w1 ⟨rfl, b1⟩
     replace bb0 := bb0.trans (b1.mono bb0.size)
     go_wp2_with fail
     go_ret
     exact ⟨rfl, bb0⟩
   · go_enter Tryz.func90, Tryz.ntmps90
     go_wp2_with fail
     refine (C1.out _ h h').mono ?_
     rintro e w1 ⟨rfl, b1⟩
     replace bb0 := bb0.trans (b1.mono bb0.size)
     replace R0 := R0.later b1
     replace Q0 := Q0.later b1
     replace h := h.below b1
     replace h' := h'.below b1
     have qr0 := R0.c0
     have qq0 := Q0.c0
     have qr1 := R0.c1
     have qq1 := Q0.c1
     go_wp2_with fail
     go_ret
     exact ⟨rfl, bb0⟩
set_option maxRecDepth 100000 in
set_option maxHeartbeats 4000000 in
theorem eqSetup_c {oa ob : Bool} {ef et ee eb ef' et' ee' eb' : TypeId} {p q : PSetup} {a1 b1 c1 a2 b2 c2 : Value} {F1 F2 F3 G1 G2 G3 : List Nat} (w : World) (h1 : (pTemps ef et).rep oa w p.temps [a1] F1) (h2 : (pEntrys ee).rep oa w p.entries [b1] F2) (h3 : (pBigrams eb).rep oa w p.bigrams [c1] F3) (k1 : (pTemps ef' et').rep ob w q.temps [a2] G1) (k2 : (pEntrys ee').rep ob w q.entries [b2] G2) (k3 : (pBigrams eb').rep ob w q.bigrams [c2] G3) (hp : SeSmall p) (hq : SeSmall q) :
 Calls Tryz.prog 41 #[.agg #[.int .i64 p.band, a1, .int .i64 p.points, .int .i64 p.most, .int .i64 p.pen, b1, .int .i64 p.dflt, c1, .int .i64 p.pause], .agg #[.int .i64 q.band, a2, .int .i64 q.points, .int .i64 q.most, .int .i64 q.pen, b2, .int .i64 q.dflt, c2, .int .i64 q.pause]] w fun e w' => e = .returned (.bool (sameSetupB p q)) ∧ Below w.heap.size w w' := by
 obtain ⟨Aa1, ka1, rfl⟩ := slice_len h1
 obtain ⟨Ab1, kb1, rfl⟩ := slice_len h2
 obtain ⟨Ac1, kc1, rfl⟩ := slice_len h3
 obtain ⟨Aa2, ka2, rfl⟩ := slice_len k1
 obtain ⟨Ab2, kb2, rfl⟩ := slice_len k2
 obtain ⟨Ac2, kc2, rfl⟩ := slice_len k3
 unfold sameSetupB
 have C0 := Lib.hid (fun w' (q0 : (pTemps ef et).rep oa w' p.temps [.slice Aa1 p.temps.length ka1] F1) (q1 : (pTemps ef' et').rep ob w' q.temps [.slice Aa2 q.temps.length ka2] G1) => eqStore_c (n := p.band) (m := q.band) w' q0 q1 hp.t hq.t hp.f hq.f)
 have C1 := Lib.hid (fun w'  => eqSetting_c ⟨p.points, p.most, p.pen⟩ ⟨q.points, q.most, q.pen⟩ w')
 have C2 := Lib.hid (fun w' (q0 : (pEntrys ee).rep oa w' p.entries [.slice Ab1 p.entries.length kb1] F2) (q1 : (pEntrys ee').rep ob w' q.entries [.slice Ab2 q.entries.length kb2] G2) => eqLexicon_c w' q0 q1 hp.e hq.e)
 have C3 := Lib.hid (fun w' (q0 : (pBigrams eb).rep oa w' p.bigrams [.slice Ac1 p.bigrams.length kc1] F3) (q1 : (pBigrams eb').rep ob w' q.bigrams [.slice Ac2 q.bigrams.length kc2] G3) => eqModel_c (n := p.dflt) (m := q.dflt) w' q0 q1 hp.b hq.b)
 have g4 : (p.pause != q.pause) = !(decide (p.pause = q.pause)) := by by_cases hh : p.pause = q.pause <;> simp [hh]
 generalize (decide (p.band = q.band) && decide (p.temps = q.temps)) = d0 at *
 generalize decide ((⟨p.points, p.most, p.pen⟩ : PSetting) = ⟨q.points, q.most, q.pen⟩) = d1 at *
 generalize decide (p.entries = q.entries) = d2 at *
 generalize (decide (p.dflt = q.dflt) && decide (p.bigrams = q.bigrams)) = d3 at *
 generalize decide (p.pause = q.pause) = d4 at *
 have R0 := (Row.new w 61 #[.int .i64 p.band, .slice Aa1 p.temps.length ka1, .int .i64 p.points, .int .i64 p.most, .int .i64 p.pen, .slice Ab1 p.entries.length kb1, .int .i64 p.dflt, .slice Ac1 p.bigrams.length kc1, .int .i64 p.pause]).alloc (.cells #[.int .i64 q.band, .slice Aa2 q.temps.length ka2, .int .i64 q.points, .int .i64 q.most, .int .i64 q.pen, .slice Ab2 q.entries.length kb2, .int .i64 q.dflt, .slice Ac2 q.bigrams.length kc2, .int .i64 q.pause] 61)
 have Q0 := Row.new (w.alloc (.cells #[.int .i64 p.band, .slice Aa1 p.temps.length ka1, .int .i64 p.points, .int .i64 p.most, .int .i64 p.pen, .slice Ab1 p.entries.length kb1, .int .i64 p.dflt, .slice Ac1 p.bigrams.length kc1, .int .i64 p.pause] 61)) 61 #[.int .i64 q.band, .slice Aa2 q.temps.length ka2, .int .i64 q.points, .int .i64 q.most, .int .i64 q.pen, .slice Ab2 q.entries.length kb2, .int .i64 q.dflt, .slice Ac2 q.bigrams.length kc2, .int .i64 q.pause]
 simp only [World.size_alloc] at Q0
 have bb0 : Below w.heap.size w ((w.alloc (.cells #[.int .i64 p.band, .slice Aa1 p.temps.length ka1, .int .i64 p.points, .int .i64 p.most, .int .i64 p.pen, .slice Ab1 p.entries.length kb1, .int .i64 p.dflt, .slice Ac1 p.bigrams.length kc1, .int .i64 p.pause] 61)).alloc (.cells #[.int .i64 q.band, .slice Aa2 q.temps.length ka2, .int .i64 q.points, .int .i64 q.most, .int .i64 q.pen, .slice Ab2 q.entries.length kb2, .int .i64 q.dflt, .slice Ac2 q.bigrams.length kc2, .int .i64 q.pause] 61)) := ((Below.refl _ _).alloc (Nat.le_refl _) _).alloc (by simp) _
 replace h1 := (h1.alloc (.cells #[.int .i64 p.band, .slice Aa1 p.temps.length ka1, .int .i64 p.points, .int .i64 p.most, .int .i64 p.pen, .slice Ab1 p.entries.length kb1, .int .i64 p.dflt, .slice Ac1 p.bigrams.length kc1, .int .i64 p.pause] 61)).alloc (.cells #[.int .i64 q.band, .slice Aa2 q.temps.length ka2, .int .i64 q.points, .int .i64 q.most, .int .i64 q.pen, .slice Ab2 q.entries.length kb2, .int .i64 q.dflt, .slice Ac2 q.bigrams.length kc2, .int .i64 q.pause] 61)
 replace k1 := (k1.alloc (.cells #[.int .i64 p.band, .slice Aa1 p.temps.length ka1, .int .i64 p.points, .int .i64 p.most, .int .i64 p.pen, .slice Ab1 p.entries.length kb1, .int .i64 p.dflt, .slice Ac1 p.bigrams.length kc1, .int .i64 p.pause] 61)).alloc (.cells #[.int .i64 q.band, .slice Aa2 q.temps.length ka2, .int .i64 q.points, .int .i64 q.most, .int .i64 q.pen, .slice Ab2 q.entries.length kb2, .int .i64 q.dflt, .slice Ac2 q.bigrams.length kc2, .int .i64 q.pause] 61)
 replace h2 := (h2.alloc (.cells #[.int .i64 p.band, .slice Aa1 p.temps.length ka1, .int .i64 p.points, .int .i64 p.most, .int .i64 p.pen, .slice Ab1 p.entries.length kb1, .int .i64 p.dflt, .slice Ac1 p.bigrams.length kc1, .int .i64 p.pause] 61)).alloc (.cells #[.int .i64 q.band, .slice Aa2 q.temps.length ka2, .int .i64 q.points, .int .i64 q.most, .int .i64 q.pen, .slice Ab2 q.entries.length kb2, .int .i64 q.dflt, .slice Ac2 q.bigrams.length kc2, .int .i64 q.pause] 61)
 replace k2 := (k2.alloc (.cells #[.int .i64 p.band, .slice Aa1 p.temps.length ka1, .int .i64 p.points, .int .i64 p.most, .int .i64 p.pen, .slice Ab1 p.entries.length kb1, .int .i64 p.dflt, .slice Ac1 p.bigrams.length kc1, .int .i64 p.pause] 61)).alloc (.cells #[.int .i64 q.band, .slice Aa2 q.temps.length ka2, .int .i64 q.points, .int .i64 q.most, .int .i64 q.pen, .slice Ab2 q.entries.length kb2, .int .i64 q.dflt, .slice Ac2 q.bigrams.length kc2, .int .i64 q.pause] 61)
 replace h3 := (h3.alloc (.cells #[.int .i64 p.band, .slice Aa1 p.temps.length ka1, .int .i64 p.points, .int .i64 p.most, .int .i64 p.pen, .slice Ab1 p.entries.length kb1, .int .i64 p.dflt, .slice Ac1 p.bigrams.length kc1, .int .i64 p.pause] 61)).alloc (.cells #[.int .i64 q.band, .slice Aa2 q.temps.length ka2, .int .i64 q.points, .int .i64 q.most, .int .i64 q.pen, .slice Ab2 q.entries.length kb2, .int .i64 q.dflt, .slice Ac2 q.bigrams.length kc2, .int .i64 q.pause] 61)
 replace k3 := (k3.alloc (.cells #[.int .i64 p.band, .slice Aa1 p.temps.length ka1, .int .i64 p.points, .int .i64 p.most, .int .i64 p.pen, .slice Ab1 p.entries.length kb1, .int .i64 p.dflt, .slice Ac1 p.bigrams.length kc1, .int .i64 p.pause] 61)).alloc (.cells #[.int .i64 q.band, .slice Aa2 q.temps.length ka2, .int .i64 q.points, .int .i64 q.most, .int .i64 q.pen, .slice Ab2 q.entries.length kb2, .int .i64 q.dflt, .slice Ac2 q.bigrams.length kc2, .int .i64 q.pause] 61)
 cases d0
 · go_enter Tryz.func41, Tryz.ntmps41
   go_wp2_with fail
   refine (C0.out _ h1 k1).mono ?_
   rintro e w1 ⟨rfl, b1⟩
   replace bb0 := bb0.trans (b1.mono bb0.size)
   go_wp2_with fail
   go_ret
   exact ⟨rfl, bb0⟩
 · cases d1
   · go_enter Tryz.func41, Tryz.ntmps41
     go_wp2_with fail
     refine (C0.out _ h1 k1).mono ?_
     rintro e w1 ⟨rfl, b1⟩
     replace bb0 := bb0.trans (b1.mono bb0.size)
     replace R0 := R0.later b1
     replace Q0 := Q0.later b1
     replace h1 := h1.below b1
     replace k1 := k1.below b1
     replace h2 := h2.below b1
     replace k2 := k2.below b1
     replace h3 := h3.below b1
     replace k3 := k3.below b1
     have qr0 := R0.c0
     have qq0 := Q0.c0
     have qr1 := R0.c1
     have qq1 := Q0.c1
     have qr2 := R0.c2
     have qq2 := Q0.c2
     have qr3 := R0.c3
     have qq3 := Q0.c3
     have qr4 := R0.c4
     have qq4 := Q0.c4
     have qr5 := R0.c5
     have qq5 := Q0.c5
     have qr6 := R0.cell' (i := 6) rfl
     have qq6 := Q0.cell' (i := 6) rfl
     have qr7 := R0.cell' (i := 7) rfl
     have qq7 := Q0.cell' (i := 7) rfl
     have qr8 := R0.cell' (i := 8) rfl
     have qq8 := Q0.cell' (i := 8) rfl
     go_wp2_with fail
     refine (C1.out _ ).mono ?_
     rintro e w2 ⟨rfl, b2⟩
     clear qr0 qr1 qr2 qr3 qr4 qr5 qr6 qr7 qr8 qq0 qq1 qq2 qq3 qq4 qq5 qq6 qq7 qq8
     replace bb0 := bb0.trans (b2.mono bb0.size)
     go_wp2_with fail
     go_ret
     exact ⟨rfl, bb0⟩
   · cases d2
     · go_enter Tryz.func41, Tryz.ntmps41
       go_wp2_with fail
       refine (C0.out _ h1 k1).mono ?_
       rintro e w1 ⟨rfl, b1⟩
       replace bb0 := bb0.trans (b1.mono bb0.size)
       replace R0 := R0.later b1
       replace Q0 := Q0.later b1
       replace h1 := h1.below b1
       replace k1 := k1.below b1
       replace h2 := h2.below b1
       replace k2 := k2.below b1
       replace h3 := h3.below b1
       replace k3 := k3.below b1
       have qr0 := R0.c0
       have qq0 := Q0.c0
       have qr1 := R0.c1
       have qq1 := Q0.c1
       have qr2 := R0.c2
       have qq2 := Q0.c2
       have qr3 := R0.c3
       have qq3 := Q0.c3
       have qr4 := R0.c4
       have qq4 := Q0.c4
       have qr5 := R0.c5
       have qq5 := Q0.c5
       have qr6 := R0.cell' (i := 6) rfl
       have qq6 := Q0.cell' (i := 6) rfl
       have qr7 := R0.cell' (i := 7) rfl
       have qq7 := Q0.cell' (i := 7) rfl
       have qr8 := R0.cell' (i := 8) rfl
       have qq8 := Q0.cell' (i := 8) rfl
       go_wp2_with fail
       refine (C1.out _ ).mono ?_
       rintro e w2 ⟨rfl, b2⟩
       clear qr0 qr1 qr2 qr3 qr4 qr5 qr6 qr7 qr8 qq0 qq1 qq2 qq3 qq4 qq5 qq6 qq7 qq8
       replace bb0 := bb0.trans (b2.mono bb0.size)
       replace R0 := R0.later b2
       replace Q0 := Q0.later b2
       replace h1 := h1.below b2
       replace k1 := k1.below b2
       replace h2 := h2.below b2
       replace k2 := k2.below b2
       replace h3 := h3.below b2
       replace k3 := k3.below b2
       have qr0 := R0.c0
       have qq0 := Q0.c0
       have qr1 := R0.c1
       have qq1 := Q0.c1
       have qr2 := R0.c2
       have qq2 := Q0.c2
       have qr3 := R0.c3
       have qq3 := Q0.c3
       have qr4 := R0.c4
       have qq4 := Q0.c4
       have qr5 := R0.c5
       have qq5 := Q0.c5
       have qr6 := R0.cell' (i := 6) rfl
       have qq6 := Q0.cell' (i := 6) rfl
       have qr7 := R0.cell' (i := 7) rfl
       have qq7 := Q0.cell' (i := 7) rfl
       have qr8 := R0.cell' (i := 8) rfl
       have qq8 := Q0.cell' (i := 8) rfl
       go_wp2_with fail
       refine (C2.out _ h2 k2).mono ?_
       rintro e w3 ⟨rfl, b3⟩
       clear qr0 qr1 qr2 qr3 qr4 qr5 qr6 qr7 qr8 qq0 qq1 qq2 qq3 qq4 qq5 qq6 qq7 qq8
       replace bb0 := bb0.trans (b3.mono bb0.size)
       go_wp2_with fail
       go_ret
       exact ⟨rfl, bb0⟩
     · cases d3
       · go_enter Tryz.func41, Tryz.ntmps41
         go_wp2_with fail
         refine (C0.out _ h1 k1).mono ?_
         rintro e w1 ⟨rfl, b1⟩
         replace bb0 := bb0.trans (b1.mono bb0.size)
         replace R0 := R0.later b1
         replace Q0 := Q0.later b1
         replace h1 := h1.below b1
         replace k1 := k1.below b1
         replace h2 := h2.below b1
         replace k2 := k2.below b1
         replace h3 := h3.below b1
         replace k3 := k3.below b1
         have qr0 := R0.c0
         have qq0 := Q0.c0
         have qr1 := R0.c1
         have qq1 := Q0.c1
         have qr2 := R0.c2
         have qq2 := Q0.c2
         have qr3 := R0.c3
         have qq3 := Q0.c3
         have qr4 := R0.c4
         have qq4 := Q0.c4
         have qr5 := R0.c5
         have qq5 := Q0.c5
         have qr6 := R0.cell' (i := 6) rfl
         have qq6 := Q0.cell' (i := 6) rfl
         have qr7 := R0.cell' (i := 7) rfl
         have qq7 := Q0.cell' (i := 7) rfl
         have qr8 := R0.cell' (i := 8) rfl
         have qq8 := Q0.cell' (i := 8) rfl
         go_wp2_with fail
         refine (C1.out _ ).mono ?_
         rintro e w2 ⟨rfl, b2⟩
         clear qr0 qr1 qr2 qr3 qr4 qr5 qr6 qr7 qr8 qq0 qq1 qq2 qq3 qq4 qq5 qq6 qq7 qq8
         replace bb0 := bb0.trans (b2.mono bb0.size)
         replace R0 := R0.later b2
         replace Q0 := Q0.later b2
         replace h1 := h1.below b2
         replace k1 := k1.below b2
         replace h2 := h2.below b2
         replace k2 := k2.below b2
         replace h3 := h3.below b2
         replace k3 := k3.below b2
         have qr0 := R0.c0
         have qq0 := Q0.c0
         have qr1 := R0.c1
         have qq1 := Q0.c1
         have qr2 := R0.c2
         have qq2 := Q0.c2
         have qr3 := R0.c3
         have qq3 := Q0.c3
         have qr4 := R0.c4
         have qq4 := Q0.c4
         have qr5 := R0.c5
         have qq5 := Q0.c5
         have qr6 := R0.cell' (i := 6) rfl
         have qq6 := Q0.cell' (i := 6) rfl
         have qr7 := R0.cell' (i := 7) rfl
         have qq7 := Q0.cell' (i := 7) rfl
         have qr8 := R0.cell' (i := 8) rfl
         have qq8 := Q0.cell' (i := 8) rfl
         go_wp2_with fail
         refine (C2.out _ h2 k2).mono ?_
         rintro e w3 ⟨rfl, b3⟩
         clear qr0 qr1 qr2 qr3 qr4 qr5 qr6 qr7 qr8 qq0 qq1 qq2 qq3 qq4 qq5 qq6 qq7 qq8
         replace bb0 := bb0.trans (b3.mono bb0.size)
         replace R0 := R0.later b3
         replace Q0 := Q0.later b3
         replace h1 := h1.below b3
         replace k1 := k1.below b3
         replace h2 := h2.below b3
         replace k2 := k2.below b3
         replace h3 := h3.below b3
         replace k3 := k3.below b3
         have qr0 := R0.c0
         have qq0 := Q0.c0
         have qr1 := R0.c1
         have qq1 := Q0.c1
         have qr2 := R0.c2
         have qq2 := Q0.c2
         have qr3 := R0.c3
         have qq3 := Q0.c3
         have qr4 := R0.c4
         have qq4 := Q0.c4
         have qr5 := R0.c5
         have qq5 := Q0.c5
         have qr6 := R0.cell' (i := 6) rfl
         have qq6 := Q0.cell' (i := 6) rfl
         have qr7 := R0.cell' (i := 7) rfl
         have qq7 := Q0.cell' (i := 7) rfl
         have qr8 := R0.cell' (i := 8) rfl
         have qq8 := Q0.cell' (i := 8) rfl
         go_wp2_with fail
         refine (C3.out _ h3 k3).mono ?_
         rintro e w4 ⟨rfl, b4⟩
         clear qr0 qr1 qr2 qr3 qr4 qr5 qr6 qr7 qr8 qq0 qq1 qq2 qq3 qq4 qq5 qq6 qq7 qq8
         replace bb0 := bb0.trans (b4.mono bb0.size)
         go_wp2_with fail
         go_ret
         exact ⟨rfl, bb0⟩
       · cases d4
         · go_enter Tryz.func41, Tryz.ntmps41
           go_wp2_with fail
           refine (C0.out _ h1 k1).mono ?_
           rintro e w1 ⟨rfl, b1⟩
           replace bb0 := bb0.trans (b1.mono bb0.size)
           replace R0 := R0.later b1
           replace Q0 := Q0.later b1
           replace h1 := h1.below b1
           replace k1 := k1.below b1
           replace h2 := h2.below b1
           replace k2 := k2.below b1
           replace h3 := h3.below b1
           replace k3 := k3.below b1
           have qr0 := R0.c0
           have qq0 := Q0.c0
           have qr1 := R0.c1
           have qq1 := Q0.c1
           have qr2 := R0.c2
           have qq2 := Q0.c2
           have qr3 := R0.c3
           have qq3 := Q0.c3
           have qr4 := R0.c4
           have qq4 := Q0.c4
           have qr5 := R0.c5
           have qq5 := Q0.c5
           have qr6 := R0.cell' (i := 6) rfl
           have qq6 := Q0.cell' (i := 6) rfl
           have qr7 := R0.cell' (i := 7) rfl
           have qq7 := Q0.cell' (i := 7) rfl
           have qr8 := R0.cell' (i := 8) rfl
           have qq8 := Q0.cell' (i := 8) rfl
           go_wp2_with fail
           refine (C1.out _ ).mono ?_
           rintro e w2 ⟨rfl, b2⟩
           clear qr0 qr1 qr2 qr3 qr4 qr5 qr6 qr7 qr8 qq0 qq1 qq2 qq3 qq4 qq5 qq6 qq7 qq8
           replace bb0 := bb0.trans (b2.mono bb0.size)
           replace R0 := R0.later b2
           replace Q0 := Q0.later b2
           replace h1 := h1.below b2
           replace k1 := k1.below b2
           replace h2 := h2.below b2
           replace k2 := k2.below b2
           replace h3 := h3.below b2
           replace k3 := k3.below b2
           have qr0 := R0.c0
           have qq0 := Q0.c0
           have qr1 := R0.c1
           have qq1 := Q0.c1
           have qr2 := R0.c2
           have qq2 := Q0.c2
           have qr3 := R0.c3
           have qq3 := Q0.c3
           have qr4 := R0.c4
           have qq4 := Q0.c4
           have qr5 := R0.c5
           have qq5 := Q0.c5
           have qr6 := R0.cell' (i := 6) rfl
           have qq6 := Q0.cell' (i := 6) rfl
           have qr7 := R0.cell' (i := 7) rfl
           have qq7 := Q0.cell' (i := 7) rfl
           have qr8 := R0.cell' (i := 8) rfl
           have qq8 := Q0.cell' (i := 8) rfl
           go_wp2_with fail
           refine (C2.out _ h2 k2).mono ?_
           rintro e w3 ⟨rfl, b3⟩
           clear qr0 qr1 qr2 qr3 qr4 qr5 qr6 qr7 qr8 qq0 qq1 qq2 qq3 qq4 qq5 qq6 qq7 qq8
           replace bb0 := bb0.trans (b3.mono bb0.size)
           replace R0 := R0.later b3
           replace Q0 := Q0.later b3
           replace h1 := h1.below b3
           replace k1 := k1.below b3
           replace h2 := h2.below b3
           replace k2 := k2.below b3
           replace h3 := h3.below b3
           replace k3 := k3.below b3
           have qr0 := R0.c0
           have qq0 := Q0.c0
           have qr1 := R0.c1
           have qq1 := Q0.c1
           have qr2 := R0.c2
           have qq2 := Q0.c2
           have qr3 := R0.c3
           have qq3 := Q0.c3
           have qr4 := R0.c4
           have qq4 := Q0.c4
           have qr5 := R0.c5
           have qq5 := Q0.c5
           have qr6 := R0.cell' (i := 6) rfl
           have qq6 := Q0.cell' (i := 6) rfl
           have qr7 := R0.cell' (i := 7) rfl
           have qq7 := Q0.cell' (i := 7) rfl
           have qr8 := R0.cell' (i := 8) rfl
           have qq8 := Q0.cell' (i := 8) rfl
           go_wp2_with fail
           refine (C3.out _ h3 k3).mono ?_
           rintro e w4 ⟨rfl, b4⟩
           clear qr0 qr1 qr2 qr3 qr4 qr5 qr6 qr7 qr8 qq0 qq1 qq2 qq3 qq4 qq5 qq6 qq7 qq8
           replace bb0 := bb0.trans (b4.mono bb0.size)
           replace R0 := R0.later b4
           replace Q0 := Q0.later b4
           replace h1 := h1.below b4
           replace k1 := k1.below b4
           replace h2 := h2.below b4
           replace k2 := k2.below b4
           replace h3 := h3.below b4
           replace k3 := k3.below b4
           have qr0 := R0.c0
           have qq0 := Q0.c0
           have qr1 := R0.c1
           have qq1 := Q0.c1
           have qr2 := R0.c2
           have qq2 := Q0.c2
           have qr3 := R0.c3
           have qq3 := Q0.c3
           have qr4 := R0.c4
           have qq4 := Q0.c4
           have qr5 := R0.c5
           have qq5 := Q0.c5
           have qr6 := R0.cell' (i := 6) rfl
           have qq6 := Q0.cell' (i := 6) rfl
           have qr7 := R0.cell' (i := 7) rfl
           have qq7 := Q0.cell' (i := 7) rfl
           have qr8 := R0.cell' (i := 8) rfl
           have qq8 := Q0.cell' (i := 8) rfl
           go_wp2_with fail
           go_ret
           exact ⟨rfl, bb0⟩
         · go_enter Tryz.func41, Tryz.ntmps41
           go_wp2_with fail
           refine (C0.out _ h1 k1).mono ?_
           rintro e w1 ⟨rfl, b1⟩
           replace bb0 := bb0.trans (b1.mono bb0.size)
           replace R0 := R0.later b1
           replace Q0 := Q0.later b1
           replace h1 := h1.below b1
           replace k1 := k1.below b1
           replace h2 := h2.below b1
           replace k2 := k2.below b1
           replace h3 := h3.below b1
           replace k3 := k3.below b1
           have qr0 := R0.c0
           have qq0 := Q0.c0
           have qr1 := R0.c1
           have qq1 := Q0.c1
           have qr2 := R0.c2
           have qq2 := Q0.c2
           have qr3 := R0.c3
           have qq3 := Q0.c3
           have qr4 := R0.c4
           have qq4 := Q0.c4
           have qr5 := R0.c5
           have qq5 := Q0.c5
           have qr6 := R0.cell' (i := 6) rfl
           have qq6 := Q0.cell' (i := 6) rfl
           have qr7 := R0.cell' (i := 7) rfl
           have qq7 := Q0.cell' (i := 7) rfl
           have qr8 := R0.cell' (i := 8) rfl
           have qq8 := Q0.cell' (i := 8) rfl
           go_wp2_with fail
           refine (C1.out _ ).mono ?_
           rintro e w2 ⟨rfl, b2⟩
           clear qr0 qr1 qr2 qr3 qr4 qr5 qr6 qr7 qr8 qq0 qq1 qq2 qq3 qq4 qq5 qq6 qq7 qq8
           replace bb0 := bb0.trans (b2.mono bb0.size)
           replace R0 := R0.later b2
           replace Q0 := Q0.later b2
           replace h1 := h1.below b2
           replace k1 := k1.below b2
           replace h2 := h2.below b2
           replace k2 := k2.below b2
           replace h3 := h3.below b2
           replace k3 := k3.below b2
           have qr0 := R0.c0
           have qq0 := Q0.c0
           have qr1 := R0.c1
           have qq1 := Q0.c1
           have qr2 := R0.c2
           have qq2 := Q0.c2
           have qr3 := R0.c3
           have qq3 := Q0.c3
           have qr4 := R0.c4
           have qq4 := Q0.c4
           have qr5 := R0.c5
           have qq5 := Q0.c5
           have qr6 := R0.cell' (i := 6) rfl
           have qq6 := Q0.cell' (i := 6) rfl
           have qr7 := R0.cell' (i := 7) rfl
           have qq7 := Q0.cell' (i := 7) rfl
           have qr8 := R0.cell' (i := 8) rfl
           have qq8 := Q0.cell' (i := 8) rfl
           go_wp2_with fail
           refine (C2.out _ h2 k2).mono ?_
           rintro e w3 ⟨rfl, b3⟩
           clear qr0 qr1 qr2 qr3 qr4 qr5 qr6 qr7 qr8 qq0 qq1 qq2 qq3 qq4 qq5 qq6 qq7 qq8
           replace bb0 := bb0.trans (b3.mono bb0.size)
           replace R0 := R0.later b3
           replace Q0 := Q0.later b3
           replace h1 := h1.below b3
           replace k1 := k1.below b3
           replace h2 := h2.below b3
           replace k2 := k2.below b3
           replace h3 := h3.below b3
           replace k3 := k3.below b3
           have qr0 := R0.c0
           have qq0 := Q0.c0
           have qr1 := R0.c1
           have qq1 := Q0.c1
           have qr2 := R0.c2
           have qq2 := Q0.c2
           have qr3 := R0.c3
           have qq3 := Q0.c3
           have qr4 := R0.c4
           have qq4 := Q0.c4
           have qr5 := R0.c5
           have qq5 := Q0.c5
           have qr6 := R0.cell' (i := 6) rfl
           have qq6 := Q0.cell' (i := 6) rfl
           have qr7 := R0.cell' (i := 7) rfl
           have qq7 := Q0.cell' (i := 7) rfl
           have qr8 := R0.cell' (i := 8) rfl
           have qq8 := Q0.cell' (i := 8) rfl
           go_wp2_with fail
           refine (C3.out _ h3 k3).mono ?_
           rintro e w4 ⟨rfl, b4⟩
           clear qr0 qr1 qr2 qr3 qr4 qr5 qr6 qr7 qr8 qq0 qq1 qq2 qq3 qq4 qq5 qq6 qq7 qq8
           replace bb0 := bb0.trans (b4.mono bb0.size)
           replace R0 := R0.later b4
           replace Q0 := Q0.later b4
           replace h1 := h1.below b4
           replace k1 := k1.below b4
           replace h2 := h2.below b4
           replace k2 := k2.below b4
           replace h3 := h3.below b4
           replace k3 := k3.below b4
           have qr0 := R0.c0
           have qq0 := Q0.c0
           have qr1 := R0.c1
           have qq1 := Q0.c1
           have qr2 := R0.c2
           have qq2 := Q0.c2
           have qr3 := R0.c3
           have qq3 := Q0.c3
           have qr4 := R0.c4
           have qq4 := Q0.c4
           have qr5 := R0.c5
           have qq5 := Q0.c5
           have qr6 := R0.cell' (i := 6) rfl
           have qq6 := Q0.cell' (i := 6) rfl
           have qr7 := R0.cell' (i := 7) rfl
           have qq7 := Q0.cell' (i := 7) rfl
           have qr8 := R0.cell' (i := 8) rfl
           have qq8 := Q0.cell' (i := 8) rfl
           go_wp2_with fail
           go_ret
           exact ⟨rfl, bb0⟩
set_option maxRecDepth 100000 in
set_option maxHeartbeats 4000000 in
theorem eqSession_c {oa ob : Bool} {ef et ee eb pe es ep ef' et' ee' eb' pe' es' ep' : TypeId} {p q : PSess} {a1 b1 c1 d1 g1 x1 a2 b2 c2 d2 g2 x2 : Value} {F1 F2 F3 F4 F5 F6 G1 G2 G3 G4 G5 G6 : List Nat} (w : World) (h1 : (pTemps ef et).rep oa w p.setup.temps [a1] F1) (h2 : (pEntrys ee).rep oa w p.setup.entries [b1] F2) (h3 : (pBigrams eb).rep oa w p.setup.bigrams [c1] F3) (h4 : (pStrokes pe es).rep oa w p.strokes [d1] F4) (h5 : (pPoints ep).rep oa w p.opn [g1] F5) (h6 : (strs 9).rep oa w p.words [x1] F6) (k1 : (pTemps ef' et').rep ob w q.setup.temps [a2] G1) (k2 : (pEntrys ee').rep ob w q.setup.entries [b2] G2) (k3 : (pBigrams eb').rep ob w q.setup.bigrams [c2] G3) (k4 : (pStrokes pe' es').rep ob w q.strokes [d2] G4) (k5 : (pPoints ep').rep ob w q.opn [g2] G5) (k6 : (strs 9).rep ob w q.words [x2] G6) (hp : SsSmall p) (hq : SsSmall q) :
 Calls Tryz.prog 18 #[.agg #[.int .i64 p.setup.band, a1, .int .i64 p.setup.points, .int .i64 p.setup.most, .int .i64 p.setup.pen, b1, .int .i64 p.setup.dflt, c1, .int .i64 p.setup.pause, d1, g1, .int .i64 p.time, x1], .agg #[.int .i64 q.setup.band, a2, .int .i64 q.setup.points, .int .i64 q.setup.most, .int .i64 q.setup.pen, b2, .int .i64 q.setup.dflt, c2, .int .i64 q.setup.pause, d2, g2, .int .i64 q.time, x2]] w fun e w' => e = .returned (.bool (sameSessB p q)) ∧ Below w.heap.size w w' := by
 obtain ⟨Aa1, ka1, rfl⟩ := slice_len h1
 obtain ⟨Ab1, kb1, rfl⟩ := slice_len h2
 obtain ⟨Ac1, kc1, rfl⟩ := slice_len h3
 obtain ⟨Ad1, kd1, rfl⟩ := slice_len h4
 obtain ⟨Ag1, kg1, rfl⟩ := slice_len h5
 obtain ⟨Ax1, kx1, rfl⟩ := slice_len h6
 obtain ⟨Aa2, ka2, rfl⟩ := slice_len k1
 obtain ⟨Ab2, kb2, rfl⟩ := slice_len k2
 obtain ⟨Ac2, kc2, rfl⟩ := slice_len k3
 obtain ⟨Ad2, kd2, rfl⟩ := slice_len k4
 obtain ⟨Ag2, kg2, rfl⟩ := slice_len k5
 obtain ⟨Ax2, kx2, rfl⟩ := slice_len k6
 unfold sameSessB
 have C0 := Lib.hid (fun w' (q0 : (pTemps ef et).rep oa w' p.setup.temps [.slice Aa1 p.setup.temps.length ka1] F1) (q1 : (pEntrys ee).rep oa w' p.setup.entries [.slice Ab1 p.setup.entries.length kb1] F2) (q2 : (pBigrams eb).rep oa w' p.setup.bigrams [.slice Ac1 p.setup.bigrams.length kc1] F3) (q3 : (pTemps ef' et').rep ob w' q.setup.temps [.slice Aa2 q.setup.temps.length ka2] G1) (q4 : (pEntrys ee').rep ob w' q.setup.entries [.slice Ab2 q.setup.entries.length kb2] G2) (q5 : (pBigrams eb').rep ob w' q.setup.bigrams [.slice Ac2 q.setup.bigrams.length kc2] G3) => eqSetup_c (p := p.setup) (q := q.setup) w' q0 q1 q2 q3 q4 q5 hp.s hq.s)
 have C1 := Lib.hid (fun w' (q0 : (pStrokes pe es).rep oa w' p.strokes [.slice Ad1 p.strokes.length kd1] F4) (q1 : (pStrokes pe' es').rep ob w' q.strokes [.slice Ad2 q.strokes.length kd2] G4) => eqInk_c w' q0 q1 hp.i hq.i hp.j hq.j)
 have C2 := Lib.hid (fun w' (q0 : (pPoints ep).rep oa w' p.opn [.slice Ag1 p.opn.length kg1] F5) (q1 : (pPoints ep').rep ob w' q.opn [.slice Ag2 q.opn.length kg2] G5) => eqPointS_c w' q0 q1 hp.o hq.o)
 have C4 := Lib.hid (fun w' (q0 : (strs 9).rep oa w' p.words [.slice Ax1 p.words.length kx1] F6) (q1 : (strs 9).rep ob w' q.words [.slice Ax2 q.words.length kx2] G6) => eqStringS_c w' q0 q1 hp.w hq.w)
 have g3 : (p.time != q.time) = !(decide (p.time = q.time)) := by by_cases hh : p.time = q.time <;> simp [hh]
 generalize sameSetupB p.setup q.setup = d0 at *
 generalize decide (p.strokes = q.strokes) = d1 at *
 generalize decide (p.opn = q.opn) = d2 at *
 generalize decide (p.time = q.time) = d3 at *
 generalize decide (p.words = q.words) = d4 at *
 have R0 := (Row.new w 67 #[.int .i64 p.setup.band, .slice Aa1 p.setup.temps.length ka1, .int .i64 p.setup.points, .int .i64 p.setup.most, .int .i64 p.setup.pen, .slice Ab1 p.setup.entries.length kb1, .int .i64 p.setup.dflt, .slice Ac1 p.setup.bigrams.length kc1, .int .i64 p.setup.pause, .slice Ad1 p.strokes.length kd1, .slice Ag1 p.opn.length kg1, .int .i64 p.time, .slice Ax1 p.words.length kx1]).alloc (.cells #[.int .i64 q.setup.band, .slice Aa2 q.setup.temps.length ka2, .int .i64 q.setup.points, .int .i64 q.setup.most, .int .i64 q.setup.pen, .slice Ab2 q.setup.entries.length kb2, .int .i64 q.setup.dflt, .slice Ac2 q.setup.bigrams.length kc2, .int .i64 q.setup.pause, .slice Ad2 q.strokes.length kd2, .slice Ag2 q.opn.length kg2, .int .i64 q.time, .slice Ax2 q.words.length kx2] 67)
 have Q0 := Row.new (w.alloc (.cells #[.int .i64 p.setup.band, .slice Aa1 p.setup.temps.length ka1, .int .i64 p.setup.points, .int .i64 p.setup.most, .int .i64 p.setup.pen, .slice Ab1 p.setup.entries.length kb1, .int .i64 p.setup.dflt, .slice Ac1 p.setup.bigrams.length kc1, .int .i64 p.setup.pause, .slice Ad1 p.strokes.length kd1, .slice Ag1 p.opn.length kg1, .int .i64 p.time, .slice Ax1 p.words.length kx1] 67)) 67 #[.int .i64 q.setup.band, .slice Aa2 q.setup.temps.length ka2, .int .i64 q.setup.points, .int .i64 q.setup.most, .int .i64 q.setup.pen, .slice Ab2 q.setup.entries.length kb2, .int .i64 q.setup.dflt, .slice Ac2 q.setup.bigrams.length kc2, .int .i64 q.setup.pause, .slice Ad2 q.strokes.length kd2, .slice Ag2 q.opn.length kg2, .int .i64 q.time, .slice Ax2 q.words.length kx2]
 simp only [World.size_alloc] at Q0
 have bb0 : Below w.heap.size w ((w.alloc (.cells #[.int .i64 p.setup.band, .slice Aa1 p.setup.temps.length ka1, .int .i64 p.setup.points, .int .i64 p.setup.most, .int .i64 p.setup.pen, .slice Ab1 p.setup.entries.length kb1, .int .i64 p.setup.dflt, .slice Ac1 p.setup.bigrams.length kc1, .int .i64 p.setup.pause, .slice Ad1 p.strokes.length kd1, .slice Ag1 p.opn.length kg1, .int .i64 p.time, .slice Ax1 p.words.length kx1] 67)).alloc (.cells #[.int .i64 q.setup.band, .slice Aa2 q.setup.temps.length ka2, .int .i64 q.setup.points, .int .i64 q.setup.most, .int .i64 q.setup.pen, .slice Ab2 q.setup.entries.length kb2, .int .i64 q.setup.dflt, .slice Ac2 q.setup.bigrams.length kc2, .int .i64 q.setup.pause, .slice Ad2 q.strokes.length kd2, .slice Ag2 q.opn.length kg2, .int .i64 q.time, .slice Ax2 q.words.length kx2] 67)) := ((Below.refl _ _).alloc (Nat.le_refl _) _).alloc (by simp) _
 replace h1 := (h1.alloc (.cells #[.int .i64 p.setup.band, .slice Aa1 p.setup.temps.length ka1, .int .i64 p.setup.points, .int .i64 p.setup.most, .int .i64 p.setup.pen, .slice Ab1 p.setup.entries.length kb1, .int .i64 p.setup.dflt, .slice Ac1 p.setup.bigrams.length kc1, .int .i64 p.setup.pause, .slice Ad1 p.strokes.length kd1, .slice Ag1 p.opn.length kg1, .int .i64 p.time, .slice Ax1 p.words.length kx1] 67)).alloc (.cells #[.int .i64 q.setup.band, .slice Aa2 q.setup.temps.length ka2, .int .i64 q.setup.points, .int .i64 q.setup.most, .int .i64 q.setup.pen, .slice Ab2 q.setup.entries.length kb2, .int .i64 q.setup.dflt, .slice Ac2 q.setup.bigrams.length kc2, .int .i64 q.setup.pause, .slice Ad2 q.strokes.length kd2, .slice Ag2 q.opn.length kg2, .int .i64 q.time, .slice Ax2 q.words.length kx2] 67)
 replace h2 := (h2.alloc (.cells #[.int .i64 p.setup.band, .slice Aa1 p.setup.temps.length ka1, .int .i64 p.setup.points, .int .i64 p.setup.most, .int .i64 p.setup.pen, .slice Ab1 p.setup.entries.length kb1, .int .i64 p.setup.dflt, .slice Ac1 p.setup.bigrams.length kc1, .int .i64 p.setup.pause, .slice Ad1 p.strokes.length kd1, .slice Ag1 p.opn.length kg1, .int .i64 p.time, .slice Ax1 p.words.length kx1] 67)).alloc (.cells #[.int .i64 q.setup.band, .slice Aa2 q.setup.temps.length ka2, .int .i64 q.setup.points, .int .i64 q.setup.most, .int .i64 q.setup.pen, .slice Ab2 q.setup.entries.length kb2, .int .i64 q.setup.dflt, .slice Ac2 q.setup.bigrams.length kc2, .int .i64 q.setup.pause, .slice Ad2 q.strokes.length kd2, .slice Ag2 q.opn.length kg2, .int .i64 q.time, .slice Ax2 q.words.length kx2] 67)
 replace h3 := (h3.alloc (.cells #[.int .i64 p.setup.band, .slice Aa1 p.setup.temps.length ka1, .int .i64 p.setup.points, .int .i64 p.setup.most, .int .i64 p.setup.pen, .slice Ab1 p.setup.entries.length kb1, .int .i64 p.setup.dflt, .slice Ac1 p.setup.bigrams.length kc1, .int .i64 p.setup.pause, .slice Ad1 p.strokes.length kd1, .slice Ag1 p.opn.length kg1, .int .i64 p.time, .slice Ax1 p.words.length kx1] 67)).alloc (.cells #[.int .i64 q.setup.band, .slice Aa2 q.setup.temps.length ka2, .int .i64 q.setup.points, .int .i64 q.setup.most, .int .i64 q.setup.pen, .slice Ab2 q.setup.entries.length kb2, .int .i64 q.setup.dflt, .slice Ac2 q.setup.bigrams.length kc2, .int .i64 q.setup.pause, .slice Ad2 q.strokes.length kd2, .slice Ag2 q.opn.length kg2, .int .i64 q.time, .slice Ax2 q.words.length kx2] 67)
 replace k1 := (k1.alloc (.cells #[.int .i64 p.setup.band, .slice Aa1 p.setup.temps.length ka1, .int .i64 p.setup.points, .int .i64 p.setup.most, .int .i64 p.setup.pen, .slice Ab1 p.setup.entries.length kb1, .int .i64 p.setup.dflt, .slice Ac1 p.setup.bigrams.length kc1, .int .i64 p.setup.pause, .slice Ad1 p.strokes.length kd1, .slice Ag1 p.opn.length kg1, .int .i64 p.time, .slice Ax1 p.words.length kx1] 67)).alloc (.cells #[.int .i64 q.setup.band, .slice Aa2 q.setup.temps.length ka2, .int .i64 q.setup.points, .int .i64 q.setup.most, .int .i64 q.setup.pen, .slice Ab2 q.setup.entries.length kb2, .int .i64 q.setup.dflt, .slice Ac2 q.setup.bigrams.length kc2, .int .i64 q.setup.pause, .slice Ad2 q.strokes.length kd2, .slice Ag2 q.opn.length kg2, .int .i64 q.time, .slice Ax2 q.words.length kx2] 67)
 replace k2 := (k2.alloc (.cells #[.int .i64 p.setup.band, .slice Aa1 p.setup.temps.length ka1, .int .i64 p.setup.points, .int .i64 p.setup.most, .int .i64 p.setup.pen, .slice Ab1 p.setup.entries.length kb1, .int .i64 p.setup.dflt, .slice Ac1 p.setup.bigrams.length kc1, .int .i64 p.setup.pause, .slice Ad1 p.strokes.length kd1, .slice Ag1 p.opn.length kg1, .int .i64 p.time, .slice Ax1 p.words.length kx1] 67)).alloc (.cells #[.int .i64 q.setup.band, .slice Aa2 q.setup.temps.length ka2, .int .i64 q.setup.points, .int .i64 q.setup.most, .int .i64 q.setup.pen, .slice Ab2 q.setup.entries.length kb2, .int .i64 q.setup.dflt, .slice Ac2 q.setup.bigrams.length kc2, .int .i64 q.setup.pause, .slice Ad2 q.strokes.length kd2, .slice Ag2 q.opn.length kg2, .int .i64 q.time, .slice Ax2 q.words.length kx2] 67)
 replace k3 := (k3.alloc (.cells #[.int .i64 p.setup.band, .slice Aa1 p.setup.temps.length ka1, .int .i64 p.setup.points, .int .i64 p.setup.most, .int .i64 p.setup.pen, .slice Ab1 p.setup.entries.length kb1, .int .i64 p.setup.dflt, .slice Ac1 p.setup.bigrams.length kc1, .int .i64 p.setup.pause, .slice Ad1 p.strokes.length kd1, .slice Ag1 p.opn.length kg1, .int .i64 p.time, .slice Ax1 p.words.length kx1] 67)).alloc (.cells #[.int .i64 q.setup.band, .slice Aa2 q.setup.temps.length ka2, .int .i64 q.setup.points, .int .i64 q.setup.most, .int .i64 q.setup.pen, .slice Ab2 q.setup.entries.length kb2, .int .i64 q.setup.dflt, .slice Ac2 q.setup.bigrams.length kc2, .int .i64 q.setup.pause, .slice Ad2 q.strokes.length kd2, .slice Ag2 q.opn.length kg2, .int .i64 q.time, .slice Ax2 q.words.length kx2] 67)
 replace h4 := (h4.alloc (.cells #[.int .i64 p.setup.band, .slice Aa1 p.setup.temps.length ka1, .int .i64 p.setup.points, .int .i64 p.setup.most, .int .i64 p.setup.pen, .slice Ab1 p.setup.entries.length kb1, .int .i64 p.setup.dflt, .slice Ac1 p.setup.bigrams.length kc1, .int .i64 p.setup.pause, .slice Ad1 p.strokes.length kd1, .slice Ag1 p.opn.length kg1, .int .i64 p.time, .slice Ax1 p.words.length kx1] 67)).alloc (.cells #[.int .i64 q.setup.band, .slice Aa2 q.setup.temps.length ka2, .int .i64 q.setup.points, .int .i64 q.setup.most, .int .i64 q.setup.pen, .slice Ab2 q.setup.entries.length kb2, .int .i64 q.setup.dflt, .slice Ac2 q.setup.bigrams.length kc2, .int .i64 q.setup.pause, .slice Ad2 q.strokes.length kd2, .slice Ag2 q.opn.length kg2, .int .i64 q.time, .slice Ax2 q.words.length kx2] 67)
 replace k4 := (k4.alloc (.cells #[.int .i64 p.setup.band, .slice Aa1 p.setup.temps.length ka1, .int .i64 p.setup.points, .int .i64 p.setup.most, .int .i64 p.setup.pen, .slice Ab1 p.setup.entries.length kb1, .int .i64 p.setup.dflt, .slice Ac1 p.setup.bigrams.length kc1, .int .i64 p.setup.pause, .slice Ad1 p.strokes.length kd1, .slice Ag1 p.opn.length kg1, .int .i64 p.time, .slice Ax1 p.words.length kx1] 67)).alloc (.cells #[.int .i64 q.setup.band, .slice Aa2 q.setup.temps.length ka2, .int .i64 q.setup.points, .int .i64 q.setup.most, .int .i64 q.setup.pen, .slice Ab2 q.setup.entries.length kb2, .int .i64 q.setup.dflt, .slice Ac2 q.setup.bigrams.length kc2, .int .i64 q.setup.pause, .slice Ad2 q.strokes.length kd2, .slice Ag2 q.opn.length kg2, .int .i64 q.time, .slice Ax2 q.words.length kx2] 67)
 replace h5 := (h5.alloc (.cells #[.int .i64 p.setup.band, .slice Aa1 p.setup.temps.length ka1, .int .i64 p.setup.points, .int .i64 p.setup.most, .int .i64 p.setup.pen, .slice Ab1 p.setup.entries.length kb1, .int .i64 p.setup.dflt, .slice Ac1 p.setup.bigrams.length kc1, .int .i64 p.setup.pause, .slice Ad1 p.strokes.length kd1, .slice Ag1 p.opn.length kg1, .int .i64 p.time, .slice Ax1 p.words.length kx1] 67)).alloc (.cells #[.int .i64 q.setup.band, .slice Aa2 q.setup.temps.length ka2, .int .i64 q.setup.points, .int .i64 q.setup.most, .int .i64 q.setup.pen, .slice Ab2 q.setup.entries.length kb2, .int .i64 q.setup.dflt, .slice Ac2 q.setup.bigrams.length kc2, .int .i64 q.setup.pause, .slice Ad2 q.strokes.length kd2, .slice Ag2 q.opn.length kg2, .int .i64 q.time, .slice Ax2 q.words.length kx2] 67)
 replace k5 := (k5.alloc (.cells #[.int .i64 p.setup.band, .slice Aa1 p.setup.temps.length ka1, .int .i64 p.setup.points, .int .i64 p.setup.most, .int .i64 p.setup.pen, .slice Ab1 p.setup.entries.length kb1, .int .i64 p.setup.dflt, .slice Ac1 p.setup.bigrams.length kc1, .int .i64 p.setup.pause, .slice Ad1 p.strokes.length kd1, .slice Ag1 p.opn.length kg1, .int .i64 p.time, .slice Ax1 p.words.length kx1] 67)).alloc (.cells #[.int .i64 q.setup.band, .slice Aa2 q.setup.temps.length ka2, .int .i64 q.setup.points, .int .i64 q.setup.most, .int .i64 q.setup.pen, .slice Ab2 q.setup.entries.length kb2, .int .i64 q.setup.dflt, .slice Ac2 q.setup.bigrams.length kc2, .int .i64 q.setup.pause, .slice Ad2 q.strokes.length kd2, .slice Ag2 q.opn.length kg2, .int .i64 q.time, .slice Ax2 q.words.length kx2] 67)
 replace h6 := (h6.alloc (.cells #[.int .i64 p.setup.band, .slice Aa1 p.setup.temps.length ka1, .int .i64 p.setup.points, .int .i64 p.setup.most, .int .i64 p.setup.pen, .slice Ab1 p.setup.entries.length kb1, .int .i64 p.setup.dflt, .slice Ac1 p.setup.bigrams.length kc1, .int .i64 p.setup.pause, .slice Ad1 p.strokes.length kd1, .slice Ag1 p.opn.length kg1, .int .i64 p.time, .slice Ax1 p.words.length kx1] 67)).alloc (.cells #[.int .i64 q.setup.band, .slice Aa2 q.setup.temps.length ka2, .int .i64 q.setup.points, .int .i64 q.setup.most, .int .i64 q.setup.pen, .slice Ab2 q.setup.entries.length kb2, .int .i64 q.setup.dflt, .slice Ac2 q.setup.bigrams.length kc2, .int .i64 q.setup.pause, .slice Ad2 q.strokes.length kd2, .slice Ag2 q.opn.length kg2, .int .i64 q.time, .slice Ax2 q.words.length kx2] 67)
 replace k6 := (k6.alloc (.cells #[.int .i64 p.setup.band, .slice Aa1 p.setup.temps.length ka1, .int .i64 p.setup.points, .int .i64 p.setup.most, .int .i64 p.setup.pen, .slice Ab1 p.setup.entries.length kb1, .int .i64 p.setup.dflt, .slice Ac1 p.setup.bigrams.length kc1, .int .i64 p.setup.pause, .slice Ad1 p.strokes.length kd1, .slice Ag1 p.opn.length kg1, .int .i64 p.time, .slice Ax1 p.words.length kx1] 67)).alloc (.cells #[.int .i64 q.setup.band, .slice Aa2 q.setup.temps.length ka2, .int .i64 q.setup.points, .int .i64 q.setup.most, .int .i64 q.setup.pen, .slice Ab2 q.setup.entries.length kb2, .int .i64 q.setup.dflt, .slice Ac2 q.setup.bigrams.length kc2, .int .i64 q.setup.pause, .slice Ad2 q.strokes.length kd2, .slice Ag2 q.opn.length kg2, .int .i64 q.time, .slice Ax2 q.words.length kx2] 67)
 cases d0
 · go_enter Tryz.func18, Tryz.ntmps18
   go_wp2_with fail
   refine (C0.out _ h1 h2 h3 k1 k2 k3).mono ?_
   rintro e w1 ⟨rfl, b1⟩
   replace bb0 := bb0.trans (b1.mono bb0.size)
   go_wp2_with fail
   go_ret
   exact ⟨rfl, bb0⟩
 · cases d1
   · go_enter Tryz.func18, Tryz.ntmps18
     go_wp2_with fail
     refine (C0.out _ h1 h2 h3 k1 k2 k3).mono ?_
     rintro e w1 ⟨rfl, b1⟩
     replace bb0 := bb0.trans (b1.mono bb0.size)
     replace R0 := R0.later b1
     replace Q0 := Q0.later b1
     replace h1 := h1.below b1
     replace h2 := h2.below b1
     replace h3 := h3.below b1
     replace k1 := k1.below b1
     replace k2 := k2.below b1
     replace k3 := k3.below b1
     replace h4 := h4.below b1
     replace k4 := k4.below b1
     replace h5 := h5.below b1
     replace k5 := k5.below b1
     replace h6 := h6.below b1
     replace k6 := k6.below b1
     have qr0 := R0.c0
     have qq0 := Q0.c0
     have qr1 := R0.c1
     have qq1 := Q0.c1
     have qr2 := R0.c2
     have qq2 := Q0.c2
     have qr3 := R0.c3
     have qq3 := Q0.c3
     have qr4 := R0.c4
     have qq4 := Q0.c4
     have qr5 := R0.c5
     have qq5 := Q0.c5
     have qr6 := R0.cell' (i := 6) rfl
     have qq6 := Q0.cell' (i := 6) rfl
     have qr7 := R0.cell' (i := 7) rfl
     have qq7 := Q0.cell' (i := 7) rfl
     have qr8 := R0.cell' (i := 8) rfl
     have qq8 := Q0.cell' (i := 8) rfl
     have qr9 := R0.cell' (i := 9) rfl
     have qq9 := Q0.cell' (i := 9) rfl
     have qr10 := R0.cell' (i := 10) rfl
     have qq10 := Q0.cell' (i := 10) rfl
     have qr11 := R0.cell' (i := 11) rfl
     have qq11 := Q0.cell' (i := 11) rfl
     have qr12 := R0.cell' (i := 12) rfl
     have qq12 := Q0.cell' (i := 12) rfl
     go_wp2_with fail
     refine (C1.out _ h4 k4).mono ?_
     rintro e w2 ⟨rfl, b2⟩
     clear qr0 qr1 qr2 qr3 qr4 qr5 qr6 qr7 qr8 qr9 qr10 qr11 qr12 qq0 qq1 qq2 qq3 qq4 qq5 qq6 qq7 qq8 qq9 qq10 qq11 qq12
     replace bb0 := bb0.trans (b2.mono bb0.size)
     go_wp2_with fail
     go_ret
     exact ⟨rfl, bb0⟩
   · cases d2
     · go_enter Tryz.func18, Tryz.ntmps18
       go_wp2_with fail
       refine (C0.out _ h1 h2 h3 k1 k2 k3).mono ?_
       rintro e w1 ⟨rfl, b1⟩
       replace bb0 := bb0.trans (b1.mono bb0.size)
       replace R0 := R0.later b1
       replace Q0 := Q0.later b1
       replace h1 := h1.below b1
       replace h2 := h2.below b1
       replace h3 := h3.below b1
       replace k1 := k1.below b1
       replace k2 := k2.below b1
       replace k3 := k3.below b1
       replace h4 := h4.below b1
       replace k4 := k4.below b1
       replace h5 := h5.below b1
       replace k5 := k5.below b1
       replace h6 := h6.below b1
       replace k6 := k6.below b1
       have qr0 := R0.c0
       have qq0 := Q0.c0
       have qr1 := R0.c1
       have qq1 := Q0.c1
       have qr2 := R0.c2
       have qq2 := Q0.c2
       have qr3 := R0.c3
       have qq3 := Q0.c3
       have qr4 := R0.c4
       have qq4 := Q0.c4
       have qr5 := R0.c5
       have qq5 := Q0.c5
       have qr6 := R0.cell' (i := 6) rfl
       have qq6 := Q0.cell' (i := 6) rfl
       have qr7 := R0.cell' (i := 7) rfl
       have qq7 := Q0.cell' (i := 7) rfl
       have qr8 := R0.cell' (i := 8) rfl
       have qq8 := Q0.cell' (i := 8) rfl
       have qr9 := R0.cell' (i := 9) rfl
       have qq9 := Q0.cell' (i := 9) rfl
       have qr10 := R0.cell' (i := 10) rfl
       have qq10 := Q0.cell' (i := 10) rfl
       have qr11 := R0.cell' (i := 11) rfl
       have qq11 := Q0.cell' (i := 11) rfl
       have qr12 := R0.cell' (i := 12) rfl
       have qq12 := Q0.cell' (i := 12) rfl
       go_wp2_with fail
       refine (C1.out _ h4 k4).mono ?_
       rintro e w2 ⟨rfl, b2⟩
       clear qr0 qr1 qr2 qr3 qr4 qr5 qr6 qr7 qr8 qr9 qr10 qr11 qr12 qq0 qq1 qq2 qq3 qq4 qq5 qq6 qq7 qq8 qq9 qq10 qq11 qq12
       replace bb0 := bb0.trans (b2.mono bb0.size)
       replace R0 := R0.later b2
       replace Q0 := Q0.later b2
       replace h1 := h1.below b2
       replace h2 := h2.below b2
       replace h3 := h3.below b2
       replace k1 := k1.below b2
       replace k2 := k2.below b2
       replace k3 := k3.below b2
       replace h4 := h4.below b2
       replace k4 := k4.below b2
       replace h5 := h5.below b2
       replace k5 := k5.below b2
       replace h6 := h6.below b2
       replace k6 := k6.below b2
       have qr0 := R0.c0
       have qq0 := Q0.c0
       have qr1 := R0.c1
       have qq1 := Q0.c1
       have qr2 := R0.c2
       have qq2 := Q0.c2
       have qr3 := R0.c3
       have qq3 := Q0.c3
       have qr4 := R0.c4
       have qq4 := Q0.c4
       have qr5 := R0.c5
       have qq5 := Q0.c5
       have qr6 := R0.cell' (i := 6) rfl
       have qq6 := Q0.cell' (i := 6) rfl
       have qr7 := R0.cell' (i := 7) rfl
       have qq7 := Q0.cell' (i := 7) rfl
       have qr8 := R0.cell' (i := 8) rfl
       have qq8 := Q0.cell' (i := 8) rfl
       have qr9 := R0.cell' (i := 9) rfl
       have qq9 := Q0.cell' (i := 9) rfl
       have qr10 := R0.cell' (i := 10) rfl
       have qq10 := Q0.cell' (i := 10) rfl
       have qr11 := R0.cell' (i := 11) rfl
       have qq11 := Q0.cell' (i := 11) rfl
       have qr12 := R0.cell' (i := 12) rfl
       have qq12 := Q0.cell' (i := 12) rfl
       go_wp2_with fail
       refine (C2.out _ h5 k5).mono ?_
       rintro e w3 ⟨rfl, b3⟩
       clear qr0 qr1 qr2 qr3 qr4 qr5 qr6 qr7 qr8 qr9 qr10 qr11 qr12 qq0 qq1 qq2 qq3 qq4 qq5 qq6 qq7 qq8 qq9 qq10 qq11 qq12
       replace bb0 := bb0.trans (b3.mono bb0.size)
       go_wp2_with fail
       go_ret
       exact ⟨rfl, bb0⟩
     · cases d3
       · go_enter Tryz.func18, Tryz.ntmps18
         go_wp2_with fail
         refine (C0.out _ h1 h2 h3 k1 k2 k3).mono ?_
         rintro e w1 ⟨rfl, b1⟩
         replace bb0 := bb0.trans (b1.mono bb0.size)
         replace R0 := R0.later b1
         replace Q0 := Q0.later b1
         replace h1 := h1.below b1
         replace h2 := h2.below b1
         replace h3 := h3.below b1
         replace k1 := k1.below b1
         replace k2 := k2.below b1
         replace k3 := k3.below b1
         replace h4 := h4.below b1
         replace k4 := k4.below b1
         replace h5 := h5.below b1
         replace k5 := k5.below b1
         replace h6 := h6.below b1
         replace k6 := k6.below b1
         have qr0 := R0.c0
         have qq0 := Q0.c0
         have qr1 := R0.c1
         have qq1 := Q0.c1
         have qr2 := R0.c2
         have qq2 := Q0.c2
         have qr3 := R0.c3
         have qq3 := Q0.c3
         have qr4 := R0.c4
         have qq4 := Q0.c4
         have qr5 := R0.c5
         have qq5 := Q0.c5
         have qr6 := R0.cell' (i := 6) rfl
         have qq6 := Q0.cell' (i := 6) rfl
         have qr7 := R0.cell' (i := 7) rfl
         have qq7 := Q0.cell' (i := 7) rfl
         have qr8 := R0.cell' (i := 8) rfl
         have qq8 := Q0.cell' (i := 8) rfl
         have qr9 := R0.cell' (i := 9) rfl
         have qq9 := Q0.cell' (i := 9) rfl
         have qr10 := R0.cell' (i := 10) rfl
         have qq10 := Q0.cell' (i := 10) rfl
         have qr11 := R0.cell' (i := 11) rfl
         have qq11 := Q0.cell' (i := 11) rfl
         have qr12 := R0.cell' (i := 12) rfl
         have qq12 := Q0.cell' (i := 12) rfl
         go_wp2_with fail
         refine (C1.out _ h4 k4).mono ?_
         rintro e w2 ⟨rfl, b2⟩
         clear qr0 qr1 qr2 qr3 qr4 qr5 qr6 qr7 qr8 qr9 qr10 qr11 qr12 qq0 qq1 qq2 qq3 qq4 qq5 qq6 qq7 qq8 qq9 qq10 qq11 qq12
         replace bb0 := bb0.trans (b2.mono bb0.size)
         replace R0 := R0.later b2
         replace Q0 := Q0.later b2
         replace h1 := h1.below b2
         replace h2 := h2.below b2
         replace h3 := h3.below b2
         replace k1 := k1.below b2
         replace k2 := k2.below b2
         replace k3 := k3.below b2
         replace h4 := h4.below b2
         replace k4 := k4.below b2
         replace h5 := h5.below b2
         replace k5 := k5.below b2
         replace h6 := h6.below b2
         replace k6 := k6.below b2
         have qr0 := R0.c0
         have qq0 := Q0.c0
         have qr1 := R0.c1
         have qq1 := Q0.c1
         have qr2 := R0.c2
         have qq2 := Q0.c2
         have qr3 := R0.c3
         have qq3 := Q0.c3
         have qr4 := R0.c4
         have qq4 := Q0.c4
         have qr5 := R0.c5
         have qq5 := Q0.c5
         have qr6 := R0.cell' (i := 6) rfl
         have qq6 := Q0.cell' (i := 6) rfl
         have qr7 := R0.cell' (i := 7) rfl
         have qq7 := Q0.cell' (i := 7) rfl
         have qr8 := R0.cell' (i := 8) rfl
         have qq8 := Q0.cell' (i := 8) rfl
         have qr9 := R0.cell' (i := 9) rfl
         have qq9 := Q0.cell' (i := 9) rfl
         have qr10 := R0.cell' (i := 10) rfl
         have qq10 := Q0.cell' (i := 10) rfl
         have qr11 := R0.cell' (i := 11) rfl
         have qq11 := Q0.cell' (i := 11) rfl
         have qr12 := R0.cell' (i := 12) rfl
         have qq12 := Q0.cell' (i := 12) rfl
         go_wp2_with fail
         refine (C2.out _ h5 k5).mono ?_
         rintro e w3 ⟨rfl, b3⟩
         clear qr0 qr1 qr2 qr3 qr4 qr5 qr6 qr7 qr8 qr9 qr10 qr11 qr12 qq0 qq1 qq2 qq3 qq4 qq5 qq6 qq7 qq8 qq9 qq10 qq11 qq12
         replace bb0 := bb0.trans (b3.mono bb0.size)
         replace R0 := R0.later b3
         replace Q0 := Q0.later b3
         replace h1 := h1.below b3
         replace h2 := h2.below b3
         replace h3 := h3.below b3
         replace k1 := k1.below b3
         replace k2 := k2.below b3
         replace k3 := k3.below b3
         replace h4 := h4.below b3
         replace k4 := k4.below b3
         replace h5 := h5.below b3
         replace k5 := k5.below b3
         replace h6 := h6.below b3
         replace k6 := k6.below b3
         have qr0 := R0.c0
         have qq0 := Q0.c0
         have qr1 := R0.c1
         have qq1 := Q0.c1
         have qr2 := R0.c2
         have qq2 := Q0.c2
         have qr3 := R0.c3
         have qq3 := Q0.c3
         have qr4 := R0.c4
         have qq4 := Q0.c4
         have qr5 := R0.c5
         have qq5 := Q0.c5
         have qr6 := R0.cell' (i := 6) rfl
         have qq6 := Q0.cell' (i := 6) rfl
         have qr7 := R0.cell' (i := 7) rfl
         have qq7 := Q0.cell' (i := 7) rfl
         have qr8 := R0.cell' (i := 8) rfl
         have qq8 := Q0.cell' (i := 8) rfl
         have qr9 := R0.cell' (i := 9) rfl
         have qq9 := Q0.cell' (i := 9) rfl
         have qr10 := R0.cell' (i := 10) rfl
         have qq10 := Q0.cell' (i := 10) rfl
         have qr11 := R0.cell' (i := 11) rfl
         have qq11 := Q0.cell' (i := 11) rfl
         have qr12 := R0.cell' (i := 12) rfl
         have qq12 := Q0.cell' (i := 12) rfl
         go_wp2_with fail
         go_ret
         exact ⟨rfl, bb0⟩
       · cases d4
         · go_enter Tryz.func18, Tryz.ntmps18
           go_wp2_with fail
           refine (C0.out _ h1 h2 h3 k1 k2 k3).mono ?_
           rintro e w1 ⟨rfl, b1⟩
           replace bb0 := bb0.trans (b1.mono bb0.size)
           replace R0 := R0.later b1
           replace Q0 := Q0.later b1
           replace h1 := h1.below b1
           replace h2 := h2.below b1
           replace h3 := h3.below b1
           replace k1 := k1.below b1
           replace k2 := k2.below b1
           replace k3 := k3.below b1
           replace h4 := h4.below b1
           replace k4 := k4.below b1
           replace h5 := h5.below b1
           replace k5 := k5.below b1
           replace h6 := h6.below b1
           replace k6 := k6.below b1
           have qr0 := R0.c0
           have qq0 := Q0.c0
           have qr1 := R0.c1
           have qq1 := Q0.c1
           have qr2 := R0.c2
           have qq2 := Q0.c2
           have qr3 := R0.c3
           have qq3 := Q0.c3
           have qr4 := R0.c4
           have qq4 := Q0.c4
           have qr5 := R0.c5
           have qq5 := Q0.c5
           have qr6 := R0.cell' (i := 6) rfl
           have qq6 := Q0.cell' (i := 6) rfl
           have qr7 := R0.cell' (i := 7) rfl
           have qq7 := Q0.cell' (i := 7) rfl
           have qr8 := R0.cell' (i := 8) rfl
           have qq8 := Q0.cell' (i := 8) rfl
           have qr9 := R0.cell' (i := 9) rfl
           have qq9 := Q0.cell' (i := 9) rfl
           have qr10 := R0.cell' (i := 10) rfl
           have qq10 := Q0.cell' (i := 10) rfl
           have qr11 := R0.cell' (i := 11) rfl
           have qq11 := Q0.cell' (i := 11) rfl
           have qr12 := R0.cell' (i := 12) rfl
           have qq12 := Q0.cell' (i := 12) rfl
           go_wp2_with fail
           refine (C1.out _ h4 k4).mono ?_
           rintro e w2 ⟨rfl, b2⟩
           clear qr0 qr1 qr2 qr3 qr4 qr5 qr6 qr7 qr8 qr9 qr10 qr11 qr12 qq0 qq1 qq2 qq3 qq4 qq5 qq6 qq7 qq8 qq9 qq10 qq11 qq12
           replace bb0 := bb0.trans (b2.mono bb0.size)
           replace R0 := R0.later b2
           replace Q0 := Q0.later b2
           replace h1 := h1.below b2
           replace h2 := h2.below b2
           replace h3 := h3.below b2
           replace k1 := k1.below b2
           replace k2 := k2.below b2
           replace k3 := k3.below b2
           replace h4 := h4.below b2
           replace k4 := k4.below b2
           replace h5 := h5.below b2
           replace k5 := k5.below b2
           replace h6 := h6.below b2
           replace k6 := k6.below b2
           have qr0 := R0.c0
           have qq0 := Q0.c0
           have qr1 := R0.c1
           have qq1 := Q0.c1
           have qr2 := R0.c2
           have qq2 := Q0.c2
           have qr3 := R0.c3
           have qq3 := Q0.c3
           have qr4 := R0.c4
           have qq4 := Q0.c4
           have qr5 := R0.c5
           have qq5 := Q0.c5
           have qr6 := R0.cell' (i := 6) rfl
           have qq6 := Q0.cell' (i := 6) rfl
           have qr7 := R0.cell' (i := 7) rfl
           have qq7 := Q0.cell' (i := 7) rfl
           have qr8 := R0.cell' (i := 8) rfl
           have qq8 := Q0.cell' (i := 8) rfl
           have qr9 := R0.cell' (i := 9) rfl
           have qq9 := Q0.cell' (i := 9) rfl
           have qr10 := R0.cell' (i := 10) rfl
           have qq10 := Q0.cell' (i := 10) rfl
           have qr11 := R0.cell' (i := 11) rfl
           have qq11 := Q0.cell' (i := 11) rfl
           have qr12 := R0.cell' (i := 12) rfl
           have qq12 := Q0.cell' (i := 12) rfl
           go_wp2_with fail
           refine (C2.out _ h5 k5).mono ?_
           rintro e w3 ⟨rfl, b3⟩
           clear qr0 qr1 qr2 qr3 qr4 qr5 qr6 qr7 qr8 qr9 qr10 qr11 qr12 qq0 qq1 qq2 qq3 qq4 qq5 qq6 qq7 qq8 qq9 qq10 qq11 qq12
           replace bb0 := bb0.trans (b3.mono bb0.size)
           replace R0 := R0.later b3
           replace Q0 := Q0.later b3
           replace h1 := h1.below b3
           replace h2 := h2.below b3
           replace h3 := h3.below b3
           replace k1 := k1.below b3
           replace k2 := k2.below b3
           replace k3 := k3.below b3
           replace h4 := h4.below b3
           replace k4 := k4.below b3
           replace h5 := h5.below b3
           replace k5 := k5.below b3
           replace h6 := h6.below b3
           replace k6 := k6.below b3
           have qr0 := R0.c0
           have qq0 := Q0.c0
           have qr1 := R0.c1
           have qq1 := Q0.c1
           have qr2 := R0.c2
           have qq2 := Q0.c2
           have qr3 := R0.c3
           have qq3 := Q0.c3
           have qr4 := R0.c4
           have qq4 := Q0.c4
           have qr5 := R0.c5
           have qq5 := Q0.c5
           have qr6 := R0.cell' (i := 6) rfl
           have qq6 := Q0.cell' (i := 6) rfl
           have qr7 := R0.cell' (i := 7) rfl
           have qq7 := Q0.cell' (i := 7) rfl
           have qr8 := R0.cell' (i := 8) rfl
           have qq8 := Q0.cell' (i := 8) rfl
           have qr9 := R0.cell' (i := 9) rfl
           have qq9 := Q0.cell' (i := 9) rfl
           have qr10 := R0.cell' (i := 10) rfl
           have qq10 := Q0.cell' (i := 10) rfl
           have qr11 := R0.cell' (i := 11) rfl
           have qq11 := Q0.cell' (i := 11) rfl
           have qr12 := R0.cell' (i := 12) rfl
           have qq12 := Q0.cell' (i := 12) rfl
           go_wp2_with fail
           refine (C4.out _ h6 k6).mono ?_
           rintro e w4 ⟨rfl, b4⟩
           clear qr0 qr1 qr2 qr3 qr4 qr5 qr6 qr7 qr8 qr9 qr10 qr11 qr12 qq0 qq1 qq2 qq3 qq4 qq5 qq6 qq7 qq8 qq9 qq10 qq11 qq12
           replace bb0 := bb0.trans (b4.mono bb0.size)
           go_wp2_with fail
           go_ret
           exact ⟨rfl, bb0⟩
         · go_enter Tryz.func18, Tryz.ntmps18
           go_wp2_with fail
           refine (C0.out _ h1 h2 h3 k1 k2 k3).mono ?_
           rintro e w1 ⟨rfl, b1⟩
           replace bb0 := bb0.trans (b1.mono bb0.size)
           replace R0 := R0.later b1
           replace Q0 := Q0.later b1
           replace h1 := h1.below b1
           replace h2 := h2.below b1
           replace h3 := h3.below b1
           replace k1 := k1.below b1
           replace k2 := k2.below b1
           replace k3 := k3.below b1
           replace h4 := h4.below b1
           replace k4 := k4.below b1
           replace h5 := h5.below b1
           replace k5 := k5.below b1
           replace h6 := h6.below b1
           replace k6 := k6.below b1
           have qr0 := R0.c0
           have qq0 := Q0.c0
           have qr1 := R0.c1
           have qq1 := Q0.c1
           have qr2 := R0.c2
           have qq2 := Q0.c2
           have qr3 := R0.c3
           have qq3 := Q0.c3
           have qr4 := R0.c4
           have qq4 := Q0.c4
           have qr5 := R0.c5
           have qq5 := Q0.c5
           have qr6 := R0.cell' (i := 6) rfl
           have qq6 := Q0.cell' (i := 6) rfl
           have qr7 := R0.cell' (i := 7) rfl
           have qq7 := Q0.cell' (i := 7) rfl
           have qr8 := R0.cell' (i := 8) rfl
           have qq8 := Q0.cell' (i := 8) rfl
           have qr9 := R0.cell' (i := 9) rfl
           have qq9 := Q0.cell' (i := 9) rfl
           have qr10 := R0.cell' (i := 10) rfl
           have qq10 := Q0.cell' (i := 10) rfl
           have qr11 := R0.cell' (i := 11) rfl
           have qq11 := Q0.cell' (i := 11) rfl
           have qr12 := R0.cell' (i := 12) rfl
           have qq12 := Q0.cell' (i := 12) rfl
           go_wp2_with fail
           refine (C1.out _ h4 k4).mono ?_
           rintro e w2 ⟨rfl, b2⟩
           clear qr0 qr1 qr2 qr3 qr4 qr5 qr6 qr7 qr8 qr9 qr10 qr11 qr12 qq0 qq1 qq2 qq3 qq4 qq5 qq6 qq7 qq8 qq9 qq10 qq11 qq12
           replace bb0 := bb0.trans (b2.mono bb0.size)
           replace R0 := R0.later b2
           replace Q0 := Q0.later b2
           replace h1 := h1.below b2
           replace h2 := h2.below b2
           replace h3 := h3.below b2
           replace k1 := k1.below b2
           replace k2 := k2.below b2
           replace k3 := k3.below b2
           replace h4 := h4.below b2
           replace k4 := k4.below b2
           replace h5 := h5.below b2
           replace k5 := k5.below b2
           replace h6 := h6.below b2
           replace k6 := k6.below b2
           have qr0 := R0.c0
           have qq0 := Q0.c0
           have qr1 := R0.c1
           have qq1 := Q0.c1
           have qr2 := R0.c2
           have qq2 := Q0.c2
           have qr3 := R0.c3
           have qq3 := Q0.c3
           have qr4 := R0.c4
           have qq4 := Q0.c4
           have qr5 := R0.c5
           have qq5 := Q0.c5
           have qr6 := R0.cell' (i := 6) rfl
           have qq6 := Q0.cell' (i := 6) rfl
           have qr7 := R0.cell' (i := 7) rfl
           have qq7 := Q0.cell' (i := 7) rfl
           have qr8 := R0.cell' (i := 8) rfl
           have qq8 := Q0.cell' (i := 8) rfl
           have qr9 := R0.cell' (i := 9) rfl
           have qq9 := Q0.cell' (i := 9) rfl
           have qr10 := R0.cell' (i := 10) rfl
           have qq10 := Q0.cell' (i := 10) rfl
           have qr11 := R0.cell' (i := 11) rfl
           have qq11 := Q0.cell' (i := 11) rfl
           have qr12 := R0.cell' (i := 12) rfl
           have qq12 := Q0.cell' (i := 12) rfl
           go_wp2_with fail
           refine (C2.out _ h5 k5).mono ?_
           rintro e w3 ⟨rfl, b3⟩
           clear qr0 qr1 qr2 qr3 qr4 qr5 qr6 qr7 qr8 qr9 qr10 qr11 qr12 qq0 qq1 qq2 qq3 qq4 qq5 qq6 qq7 qq8 qq9 qq10 qq11 qq12
           replace bb0 := bb0.trans (b3.mono bb0.size)
           replace R0 := R0.later b3
           replace Q0 := Q0.later b3
           replace h1 := h1.below b3
           replace h2 := h2.below b3
           replace h3 := h3.below b3
           replace k1 := k1.below b3
           replace k2 := k2.below b3
           replace k3 := k3.below b3
           replace h4 := h4.below b3
           replace k4 := k4.below b3
           replace h5 := h5.below b3
           replace k5 := k5.below b3
           replace h6 := h6.below b3
           replace k6 := k6.below b3
           have qr0 := R0.c0
           have qq0 := Q0.c0
           have qr1 := R0.c1
           have qq1 := Q0.c1
           have qr2 := R0.c2
           have qq2 := Q0.c2
           have qr3 := R0.c3
           have qq3 := Q0.c3
           have qr4 := R0.c4
           have qq4 := Q0.c4
           have qr5 := R0.c5
           have qq5 := Q0.c5
           have qr6 := R0.cell' (i := 6) rfl
           have qq6 := Q0.cell' (i := 6) rfl
           have qr7 := R0.cell' (i := 7) rfl
           have qq7 := Q0.cell' (i := 7) rfl
           have qr8 := R0.cell' (i := 8) rfl
           have qq8 := Q0.cell' (i := 8) rfl
           have qr9 := R0.cell' (i := 9) rfl
           have qq9 := Q0.cell' (i := 9) rfl
           have qr10 := R0.cell' (i := 10) rfl
           have qq10 := Q0.cell' (i := 10) rfl
           have qr11 := R0.cell' (i := 11) rfl
           have qq11 := Q0.cell' (i := 11) rfl
           have qr12 := R0.cell' (i := 12) rfl
           have qq12 := Q0.cell' (i := 12) rfl
           go_wp2_with fail
           refine (C4.out _ h6 k6).mono ?_
           rintro e w4 ⟨rfl, b4⟩
           clear qr0 qr1 qr2 qr3 qr4 qr5 qr6 qr7 qr8 qr9 qr10 qr11 qr12 qq0 qq1 qq2 qq3 qq4 qq5 qq6 qq7 qq8 qq9 qq10 qq11 qq12
           replace bb0 := bb0.trans (b4.mono bb0.size)
           replace R0 := R0.later b4
           replace Q0 := Q0.later b4
           replace h1 := h1.below b4
           replace h2 := h2.below b4
           replace h3 := h3.below b4
           replace k1 := k1.below b4
           replace k2 := k2.below b4
           replace k3 := k3.below b4
           replace h4 := h4.below b4
           replace k4 := k4.below b4
           replace h5 := h5.below b4
           replace k5 := k5.below b4
           replace h6 := h6.below b4
           replace k6 := k6.below b4
           have qr0 := R0.c0
           have qq0 := Q0.c0
           have qr1 := R0.c1
           have qq1 := Q0.c1
           have qr2 := R0.c2
           have qq2 := Q0.c2
           have qr3 := R0.c3
           have qq3 := Q0.c3
           have qr4 := R0.c4
           have qq4 := Q0.c4
           have qr5 := R0.c5
           have qq5 := Q0.c5
           have qr6 := R0.cell' (i := 6) rfl
           have qq6 := Q0.cell' (i := 6) rfl
           have qr7 := R0.cell' (i := 7) rfl
           have qq7 := Q0.cell' (i := 7) rfl
           have qr8 := R0.cell' (i := 8) rfl
           have qq8 := Q0.cell' (i := 8) rfl
           have qr9 := R0.cell' (i := 9) rfl
           have qq9 := Q0.cell' (i := 9) rfl
           have qr10 := R0.cell' (i := 10) rfl
           have qq10 := Q0.cell' (i := 10) rfl
           have qr11 := R0.cell' (i := 11) rfl
           have qq11 := Q0.cell' (i := 11) rfl
           have qr12 := R0.cell' (i := 12) rfl
           have qq12 := Q0.cell' (i := 12) rfl
           go_wp2_with fail
           go_ret
           exact ⟨rfl, bb0⟩
end Go.Proofs.YtboijogahclekaaGreatDoor

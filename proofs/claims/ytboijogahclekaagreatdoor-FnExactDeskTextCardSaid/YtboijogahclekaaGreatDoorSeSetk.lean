/- ValidSetup of the program and of the reference. Conditions: none. -/
import Derived.Test.YtboijogahclekaaGreatDoorSeR2k
namespace Go.Proofs.YtboijogahclekaaGreatDoor
open Go Go.RowKit
set_option maxRecDepth 100000 in
set_option maxHeartbeats 2000000 in
theorem impl_ValidSetup_c {o : Bool} {ef et ee eb : TypeId} {p : PSetup} {a b c : Value} {F1 F2 F3 : List Nat} (w : World) (h1 : (pTemps ef et).rep o w p.temps [a] F1) (h2 : (pEntrys ee).rep o w p.entries [b] F2) (h3 : (pBigrams eb).rep o w p.bigrams [c] F3) (hp : SeSmall p) (hb : SeBytes p) :
 Calls Tryz.prog 70 #[.agg #[.int .i64 p.band, a, .int .i64 p.points, .int .i64 p.most, .int .i64 p.pen, b, .int .i64 p.dflt, c, .int .i64 p.pause]] w fun e w' => e = .returned (.bool (setupB p)) ∧ Below w.heap.size w w' := by
 obtain ⟨Aa, ka, rfl⟩ := slice_len h1
 obtain ⟨Ab, kb, rfl⟩ := slice_len h2
 obtain ⟨Ac, kc, rfl⟩ := slice_len h3
 unfold setupB
 have C0 := Lib.hid (fun w' (q0 : (pTemps ef et).rep o w' p.temps [.slice Aa p.temps.length ka] F1)  => impl_ValidStore_c (p := p) w' q0 hp hb)
 have C1 := Lib.hid (fun w'   => impl_ValidSetting_c ⟨p.points, p.most, p.pen⟩ w')
 have C2 := Lib.hid (fun w' (q0 : (pEntrys ee).rep o w' p.entries [.slice Ab p.entries.length kb] F2)  => impl_ValidLexicon_c w' q0 hp.e hb.e)
 have C3 := Lib.hid (fun w' (q0 : (pBigrams eb).rep o w' p.bigrams [.slice Ac p.bigrams.length kc] F3)  => impl_ValidModel_c (n := p.dflt) w' q0 hp.b hb.b)
 have C4 := Lib.hid (fun w'   => impl_inR_c p.pause 1 60000 w')
 generalize storeB p = d0 at *
 generalize settingB ⟨p.points, p.most, p.pen⟩ = d1 at *
 generalize lexB p.entries = d2 at *
 generalize modelB p.dflt p.bigrams = d3 at *
 generalize inR p.pause 1 60000 = d4 at *
 have R0 := Row.new w 61 #[.int .i64 p.band, .slice Aa p.temps.length ka, .int .i64 p.points, .int .i64 p.most, .int .i64 p.pen, .slice Ab p.entries.length kb, .int .i64 p.dflt, .slice Ac p.bigrams.length kc, .int .i64 p.pause]
 have bb0 : Below w.heap.size w (w.alloc (.cells #[.int .i64 p.band, .slice Aa p.temps.length ka, .int .i64 p.points, .int .i64 p.most, .int .i64 p.pen, .slice Ab p.entries.length kb, .int .i64 p.dflt, .slice Ac p.bigrams.length kc, .int .i64 p.pause] 61)) := (Below.refl _ _).alloc (Nat.le_refl _) _
 replace h1 := h1.alloc (.cells #[.int .i64 p.band, .slice Aa p.temps.length ka, .int .i64 p.points, .int .i64 p.most, .int .i64 p.pen, .slice Ab p.entries.length kb, .int .i64 p.dflt, .slice Ac p.bigrams.length kc, .int .i64 p.pause] 61)
 replace h2 := h2.alloc (.cells #[.int .i64 p.band, .slice Aa p.temps.length ka, .int .i64 p.points, .int .i64 p.most, .int .i64 p.pen, .slice Ab p.entries.length kb, .int .i64 p.dflt, .slice Ac p.bigrams.length kc, .int .i64 p.pause] 61)
 replace h3 := h3.alloc (.cells #[.int .i64 p.band, .slice Aa p.temps.length ka, .int .i64 p.points, .int .i64 p.most, .int .i64 p.pen, .slice Ab p.entries.length kb, .int .i64 p.dflt, .slice Ac p.bigrams.length kc, .int .i64 p.pause] 61)
 cases d0
 · go_enter Tryz.func70, Tryz.ntmps70
   go_wp2_with fail
   refine (C0.out _ h1).mono ?_
   rintro e w1 ⟨rfl, b1⟩
   replace bb0 := bb0.trans (b1.mono bb0.size)
   go_wp2_with fail
   go_ret
   first | exact ⟨rfl, bb0⟩ | exact ⟨rfl, by simpa only [World.drewN_drewN] using bb0⟩
 · skip
   cases d1
   · go_enter Tryz.func70, Tryz.ntmps70
     go_wp2_with fail
     refine (C0.out _ h1).mono ?_
     rintro e w1 ⟨rfl, b1⟩
     replace bb0 := bb0.trans (b1.mono bb0.size)
     replace R0 := R0.later b1
     have qr0 := R0.c0
     have qr1 := R0.c1
     have qr2 := R0.c2
     have qr3 := R0.c3
     have qr4 := R0.c4
     have qr5 := R0.c5
     have qr6 := R0.cell' (i := 6) rfl
     have qr7 := R0.cell' (i := 7) rfl
     have qr8 := R0.cell' (i := 8) rfl
     replace h1 := h1.below b1
     replace h2 := h2.below b1
     replace h3 := h3.below b1
     go_wp2_with fail
     refine (C1.out _ ).mono ?_
     rintro e w2 ⟨rfl, b2⟩
     replace bb0 := bb0.trans (b2.mono bb0.size)
     go_wp2_with fail
     go_ret
     first | exact ⟨rfl, bb0⟩ | exact ⟨rfl, by simpa only [World.drewN_drewN] using bb0⟩
   · skip
     cases d2
     · go_enter Tryz.func70, Tryz.ntmps70
       go_wp2_with fail
       refine (C0.out _ h1).mono ?_
       rintro e w1 ⟨rfl, b1⟩
       replace bb0 := bb0.trans (b1.mono bb0.size)
       replace R0 := R0.later b1
       have qr0 := R0.c0
       have qr1 := R0.c1
       have qr2 := R0.c2
       have qr3 := R0.c3
       have qr4 := R0.c4
       have qr5 := R0.c5
       have qr6 := R0.cell' (i := 6) rfl
       have qr7 := R0.cell' (i := 7) rfl
       have qr8 := R0.cell' (i := 8) rfl
       replace h1 := h1.below b1
       replace h2 := h2.below b1
       replace h3 := h3.below b1
       go_wp2_with fail
       refine (C1.out _ ).mono ?_
       rintro e w2 ⟨rfl, b2⟩
       replace bb0 := bb0.trans (b2.mono bb0.size)
       replace R0 := R0.later b2
       clear qr0 qr1 qr2 qr3 qr4 qr5 qr6 qr7 qr8
       have qr0 := R0.c0
       have qr1 := R0.c1
       have qr2 := R0.c2
       have qr3 := R0.c3
       have qr4 := R0.c4
       have qr5 := R0.c5
       have qr6 := R0.cell' (i := 6) rfl
       have qr7 := R0.cell' (i := 7) rfl
       have qr8 := R0.cell' (i := 8) rfl
       replace h1 := h1.below b2
       replace h2 := h2.below b2
       replace h3 := h3.below b2
       go_wp2_with fail
       refine (C2.out _ h2).mono ?_
       rintro e w3 ⟨rfl, b3⟩
       replace bb0 := bb0.trans (b3.mono bb0.size)
       go_wp2_with fail
       go_ret
       first | exact ⟨rfl, bb0⟩ | exact ⟨rfl, by simpa only [World.drewN_drewN] using bb0⟩
     · skip
       cases d3
       · go_enter Tryz.func70, Tryz.ntmps70
         go_wp2_with fail
         refine (C0.out _ h1).mono ?_
         rintro e w1 ⟨rfl, b1⟩
         replace bb0 := bb0.trans (b1.mono bb0.size)
         replace R0 := R0.later b1
         have qr0 := R0.c0
         have qr1 := R0.c1
         have qr2 := R0.c2
         have qr3 := R0.c3
         have qr4 := R0.c4
         have qr5 := R0.c5
         have qr6 := R0.cell' (i := 6) rfl
         have qr7 := R0.cell' (i := 7) rfl
         have qr8 := R0.cell' (i := 8) rfl
         replace h1 := h1.below b1
         replace h2 := h2.below b1
         replace h3 := h3.below b1
         go_wp2_with fail
         refine (C1.out _ ).mono ?_
         rintro e w2 ⟨rfl, b2⟩
         replace bb0 := bb0.trans (b2.mono bb0.size)
         replace R0 := R0.later b2
         clear qr0 qr1 qr2 qr3 qr4 qr5 qr6 qr7 qr8
         have qr0 := R0.c0
         have qr1 := R0.c1
         have qr2 := R0.c2
         have qr3 := R0.c3
         have qr4 := R0.c4
         have qr5 := R0.c5
         have qr6 := R0.cell' (i := 6) rfl
         have qr7 := R0.cell' (i := 7) rfl
         have qr8 := R0.cell' (i := 8) rfl
         replace h1 := h1.below b2
         replace h2 := h2.below b2
         replace h3 := h3.below b2
         go_wp2_with fail
         refine (C2.out _ h2).mono ?_
         rintro e w3 ⟨rfl, b3⟩
         replace bb0 := bb0.trans (b3.mono bb0.size)
         replace R0 := R0.later b3
         clear qr0 qr1 qr2 qr3 qr4 qr5 qr6 qr7 qr8
         have qr0 := R0.c0
         have qr1 := R0.c1
         have qr2 := R0.c2
         have qr3 := R0.c3
         have qr4 := R0.c4
         have qr5 := R0.c5
         have qr6 := R0.cell' (i := 6) rfl
         have qr7 := R0.cell' (i := 7) rfl
         have qr8 := R0.cell' (i := 8) rfl
         replace h1 := h1.below b3
         replace h2 := h2.below b3
         replace h3 := h3.below b3
         go_wp2_with fail
         refine (C3.out _ h3).mono ?_
         rintro e w4 ⟨rfl, b4⟩
         replace bb0 := bb0.trans (b4.mono bb0.size)
         go_wp2_with fail
         go_ret
         first | exact ⟨rfl, bb0⟩ | exact ⟨rfl, by simpa only [World.drewN_drewN] using bb0⟩
       · skip
         go_enter Tryz.func70, Tryz.ntmps70
         go_wp2_with fail
         refine (C0.out _ h1).mono ?_
         rintro e w1 ⟨rfl, b1⟩
         replace bb0 := bb0.trans (b1.mono bb0.size)
         replace R0 := R0.later b1
         have qr0 := R0.c0
         have qr1 := R0.c1
         have qr2 := R0.c2
         have qr3 := R0.c3
         have qr4 := R0.c4
         have qr5 := R0.c5
         have qr6 := R0.cell' (i := 6) rfl
         have qr7 := R0.cell' (i := 7) rfl
         have qr8 := R0.cell' (i := 8) rfl
         replace h1 := h1.below b1
         replace h2 := h2.below b1
         replace h3 := h3.below b1
         go_wp2_with fail
         refine (C1.out _ ).mono ?_
         rintro e w2 ⟨rfl, b2⟩
         replace bb0 := bb0.trans (b2.mono bb0.size)
         replace R0 := R0.later b2
         clear qr0 qr1 qr2 qr3 qr4 qr5 qr6 qr7 qr8
         have qr0 := R0.c0
         have qr1 := R0.c1
         have qr2 := R0.c2
         have qr3 := R0.c3
         have qr4 := R0.c4
         have qr5 := R0.c5
         have qr6 := R0.cell' (i := 6) rfl
         have qr7 := R0.cell' (i := 7) rfl
         have qr8 := R0.cell' (i := 8) rfl
         replace h1 := h1.below b2
         replace h2 := h2.below b2
         replace h3 := h3.below b2
         go_wp2_with fail
         refine (C2.out _ h2).mono ?_
         rintro e w3 ⟨rfl, b3⟩
         replace bb0 := bb0.trans (b3.mono bb0.size)
         replace R0 := R0.later b3
         clear qr0 qr1 qr2 qr3 qr4 qr5 qr6 qr7 qr8
         have qr0 := R0.c0
         have qr1 := R0.c1
         have qr2 := R0.c2
         have qr3 := R0.c3
         have qr4 := R0.c4
         have qr5 := R0.c5
         have qr6 := R0.cell' (i := 6) rfl
         have qr7 := R0.cell' (i := 7) rfl
         have qr8 := R0.cell' (i := 8) rfl
         replace h1 := h1.below b3
         replace h2 := h2.below b3
         replace h3 := h3.below b3
         go_wp2_with fail
         refine (C3.out _ h3).mono ?_
         rintro e w4 ⟨rfl, b4⟩
         replace bb0 := bb0.trans (b4.mono bb0.size)
         replace R0 := R0.later b4
         clear qr0 qr1 qr2 qr3 qr4 qr5 qr6 qr7 qr8
         have qr0 := R0.c0
         have qr1 := R0.c1
         have qr2 := R0.c2
         have qr3 := R0.c3
         have qr4 := R0.c4
         have qr5 := R0.c5
         have qr6 := R0.cell' (i := 6) rfl
         have qr7 := R0.cell' (i := 7) rfl
         have qr8 := R0.cell' (i := 8) rfl
         replace h1 := h1.below b4
         replace h2 := h2.below b4
         replace h3 := h3.below b4
         go_wp2_with fail
         refine (C4.out _ ).mono ?_
         rintro e w5 ⟨rfl, rfl⟩
         go_wp2_with fail
         go_ret
         first | exact ⟨rfl, bb0⟩ | exact ⟨rfl, by simpa only [World.drewN_drewN] using bb0⟩
set_option maxRecDepth 100000 in
set_option maxHeartbeats 2000000 in
theorem spec_l26Setup_c {o : Bool} {ef et ee eb : TypeId} {p : PSetup} {a b c : Value} {F1 F2 F3 : List Nat} {g f : Nat} (w : World) (hg : g < w.heap.size) (c0 : w.cell? ⟨g, f, none⟩ = some (.int .i64 p.band)) (c1 : w.cell? ⟨g, f + 1, none⟩ = some (a)) (c2 : w.cell? ⟨g, f + 2, none⟩ = some (.int .i64 p.points)) (c3 : w.cell? ⟨g, f + 3, none⟩ = some (.int .i64 p.most)) (c4 : w.cell? ⟨g, f + 4, none⟩ = some (.int .i64 p.pen)) (c5 : w.cell? ⟨g, f + 5, none⟩ = some (b)) (c6 : w.cell? ⟨g, f + 6, none⟩ = some (.int .i64 p.dflt)) (c7 : w.cell? ⟨g, f + 7, none⟩ = some (c)) (c8 : w.cell? ⟨g, f + 8, none⟩ = some (.int .i64 p.pause)) (h1 : (pTemps ef et).rep o w p.temps [a] F1) (h2 : (pEntrys ee).rep o w p.entries [b] F2) (h3 : (pBigrams eb).rep o w p.bigrams [c] F3) (hp : SeSmall p) (hb : SeBytes p) :
 Calls Tryz.prog 53 #[.pointer (some ⟨g, f, none⟩)] w fun e w' => e = .returned (.bool (setupB p)) ∧ Below w.heap.size w w' := by
 obtain ⟨Aa, ka, rfl⟩ := slice_len h1
 obtain ⟨Ab, kb, rfl⟩ := slice_len h2
 obtain ⟨Ac, kc, rfl⟩ := slice_len h3
 unfold setupB
 have C0 := Lib.hid (fun w' (q0 : (pTemps ef et).rep o w' p.temps [.slice Aa p.temps.length ka] F1) (k0 : g < w'.heap.size) (k1 : w'.cell? ⟨g, f, none⟩ = some (.int .i64 p.band)) (k2 : w'.cell? ⟨g, f + 1, none⟩ = some (.slice Aa p.temps.length ka)) => spec_l11Ok_c (p := p) (g := g) (f := f) w' k0 k1 k2 q0 hp hb)
 have C1 := Lib.hid (fun w'  (k0 : w'.cell? ⟨g, f + 2, none⟩ = some (.int .i64 p.points)) (k1 : w'.cell? ⟨g, f + 3, none⟩ = some (.int .i64 p.most)) (k2 : w'.cell? ⟨g, f + 4, none⟩ = some (.int .i64 p.pen)) => spec_l13Setting_c ⟨p.points, p.most, p.pen⟩ (g := g) (f := f + 2) w' k0 k1 k2)
 have C2 := Lib.hid (fun w' (q0 : (pEntrys ee).rep o w' p.entries [.slice Ab p.entries.length kb] F2) (k0 : w'.cell? ⟨g, f + 5, none⟩ = some (.slice Ab p.entries.length kb)) => spec_l16Ok_c (g := g) (f := f + 5) w' k0 q0 hp.e hb.e)
 have C3 := Lib.hid (fun w' (q0 : (pBigrams eb).rep o w' p.bigrams [.slice Ac p.bigrams.length kc] F3) (k0 : w'.cell? ⟨g, f + 6, none⟩ = some (.int .i64 p.dflt)) (k1 : w'.cell? ⟨g, f + 7, none⟩ = some (.slice Ac p.bigrams.length kc)) => spec_l18Ok_c (n := p.dflt) (g := g) (f := f + 6) w' k0 k1 q0 hp.b hb.b)
 have C4 := Lib.hid (fun w'   => spec_inR_c p.pause 1 60000 w')
 generalize storeB p = d0 at *
 generalize settingB ⟨p.points, p.most, p.pen⟩ = d1 at *
 generalize lexB p.entries = d2 at *
 generalize modelB p.dflt p.bigrams = d3 at *
 generalize inR p.pause 1 60000 = d4 at *
 have bb0 : Below w.heap.size w w := Below.refl _ _
 cases d0
 · go_enter Tryz.func53, Tryz.ntmps53
   go_wp2_with fail
   refine (C0.out _ h1 hg c0 c1).mono ?_
   rintro e w1 ⟨rfl, b1⟩
   replace bb0 := bb0.trans (b1.mono bb0.size)
   go_wp2_with fail
   go_ret
   first | exact ⟨rfl, bb0⟩ | exact ⟨rfl, by simpa only [World.drewN_drewN] using bb0⟩
 · skip
   cases d1
   · go_enter Tryz.func53, Tryz.ntmps53
     go_wp2_with fail
     refine (C0.out _ h1 hg c0 c1).mono ?_
     rintro e w1 ⟨rfl, b1⟩
     replace bb0 := bb0.trans (b1.mono bb0.size)
     replace c0 := (b1.cell (p := ⟨_, _, none⟩) hg).trans c0
     replace c1 := (b1.cell (p := ⟨_, _, none⟩) hg).trans c1
     replace c2 := (b1.cell (p := ⟨_, _, none⟩) hg).trans c2
     replace c3 := (b1.cell (p := ⟨_, _, none⟩) hg).trans c3
     replace c4 := (b1.cell (p := ⟨_, _, none⟩) hg).trans c4
     replace c5 := (b1.cell (p := ⟨_, _, none⟩) hg).trans c5
     replace c6 := (b1.cell (p := ⟨_, _, none⟩) hg).trans c6
     replace c7 := (b1.cell (p := ⟨_, _, none⟩) hg).trans c7
     replace c8 := (b1.cell (p := ⟨_, _, none⟩) hg).trans c8
     replace hg := Nat.lt_of_lt_of_le hg b1.size
     replace h1 := h1.below b1
     replace h2 := h2.below b1
     replace h3 := h3.below b1
     go_wp2_with fail
     refine (C1.out _ c2 c3 c4).mono ?_
     rintro e w2 ⟨rfl, rfl⟩
     go_wp2_with fail
     go_ret
     first | exact ⟨rfl, bb0⟩ | exact ⟨rfl, by simpa only [World.drewN_drewN] using bb0⟩
   · skip
     cases d2
     · go_enter Tryz.func53, Tryz.ntmps53
       go_wp2_with fail
       refine (C0.out _ h1 hg c0 c1).mono ?_
       rintro e w1 ⟨rfl, b1⟩
       replace bb0 := bb0.trans (b1.mono bb0.size)
       replace c0 := (b1.cell (p := ⟨_, _, none⟩) hg).trans c0
       replace c1 := (b1.cell (p := ⟨_, _, none⟩) hg).trans c1
       replace c2 := (b1.cell (p := ⟨_, _, none⟩) hg).trans c2
       replace c3 := (b1.cell (p := ⟨_, _, none⟩) hg).trans c3
       replace c4 := (b1.cell (p := ⟨_, _, none⟩) hg).trans c4
       replace c5 := (b1.cell (p := ⟨_, _, none⟩) hg).trans c5
       replace c6 := (b1.cell (p := ⟨_, _, none⟩) hg).trans c6
       replace c7 := (b1.cell (p := ⟨_, _, none⟩) hg).trans c7
       replace c8 := (b1.cell (p := ⟨_, _, none⟩) hg).trans c8
       replace hg := Nat.lt_of_lt_of_le hg b1.size
       replace h1 := h1.below b1
       replace h2 := h2.below b1
       replace h3 := h3.below b1
       go_wp2_with fail
       refine (C1.out _ c2 c3 c4).mono ?_
       rintro e w2 ⟨rfl, rfl⟩
       go_wp2_with fail
       refine (C2.out _ h2 c5).mono ?_
       rintro e w3 ⟨rfl, m3, rfl⟩
       replace bb0 := bb0.trans (below_drewN (Below.refl _ _) m3 |>.mono bb0.size)
       go_wp2_with fail
       go_ret
       first | exact ⟨rfl, bb0⟩ | exact ⟨rfl, by simpa only [World.drewN_drewN] using bb0⟩
     · skip
       cases d3
       · go_enter Tryz.func53, Tryz.ntmps53
         go_wp2_with fail
         refine (C0.out _ h1 hg c0 c1).mono ?_
         rintro e w1 ⟨rfl, b1⟩
         replace bb0 := bb0.trans (b1.mono bb0.size)
         replace c0 := (b1.cell (p := ⟨_, _, none⟩) hg).trans c0
         replace c1 := (b1.cell (p := ⟨_, _, none⟩) hg).trans c1
         replace c2 := (b1.cell (p := ⟨_, _, none⟩) hg).trans c2
         replace c3 := (b1.cell (p := ⟨_, _, none⟩) hg).trans c3
         replace c4 := (b1.cell (p := ⟨_, _, none⟩) hg).trans c4
         replace c5 := (b1.cell (p := ⟨_, _, none⟩) hg).trans c5
         replace c6 := (b1.cell (p := ⟨_, _, none⟩) hg).trans c6
         replace c7 := (b1.cell (p := ⟨_, _, none⟩) hg).trans c7
         replace c8 := (b1.cell (p := ⟨_, _, none⟩) hg).trans c8
         replace hg := Nat.lt_of_lt_of_le hg b1.size
         replace h1 := h1.below b1
         replace h2 := h2.below b1
         replace h3 := h3.below b1
         go_wp2_with fail
         refine (C1.out _ c2 c3 c4).mono ?_
         rintro e w2 ⟨rfl, rfl⟩
         go_wp2_with fail
         refine (C2.out _ h2 c5).mono ?_
         rintro e w3 ⟨rfl, m3, rfl⟩
         replace bb0 := bb0.trans (below_drewN (Below.refl _ _) m3 |>.mono bb0.size)
         replace h1 := h1.drewN m3
         replace h2 := h2.drewN m3
         replace h3 := h3.drewN m3
         go_wp2_with fail
         refine (C3.out _ h3 c6 c7).mono ?_
         rintro e w4 ⟨rfl, m4, rfl⟩
         replace bb0 := bb0.trans (below_drewN (Below.refl _ _) m4 |>.mono bb0.size)
         go_wp2_with fail
         go_ret
         first | exact ⟨rfl, bb0⟩ | exact ⟨rfl, by simpa only [World.drewN_drewN] using bb0⟩
       · skip
         go_enter Tryz.func53, Tryz.ntmps53
         go_wp2_with fail
         refine (C0.out _ h1 hg c0 c1).mono ?_
         rintro e w1 ⟨rfl, b1⟩
         replace bb0 := bb0.trans (b1.mono bb0.size)
         replace c0 := (b1.cell (p := ⟨_, _, none⟩) hg).trans c0
         replace c1 := (b1.cell (p := ⟨_, _, none⟩) hg).trans c1
         replace c2 := (b1.cell (p := ⟨_, _, none⟩) hg).trans c2
         replace c3 := (b1.cell (p := ⟨_, _, none⟩) hg).trans c3
         replace c4 := (b1.cell (p := ⟨_, _, none⟩) hg).trans c4
         replace c5 := (b1.cell (p := ⟨_, _, none⟩) hg).trans c5
         replace c6 := (b1.cell (p := ⟨_, _, none⟩) hg).trans c6
         replace c7 := (b1.cell (p := ⟨_, _, none⟩) hg).trans c7
         replace c8 := (b1.cell (p := ⟨_, _, none⟩) hg).trans c8
         replace hg := Nat.lt_of_lt_of_le hg b1.size
         replace h1 := h1.below b1
         replace h2 := h2.below b1
         replace h3 := h3.below b1
         go_wp2_with fail
         refine (C1.out _ c2 c3 c4).mono ?_
         rintro e w2 ⟨rfl, rfl⟩
         go_wp2_with fail
         refine (C2.out _ h2 c5).mono ?_
         rintro e w3 ⟨rfl, m3, rfl⟩
         replace bb0 := bb0.trans (below_drewN (Below.refl _ _) m3 |>.mono bb0.size)
         replace h1 := h1.drewN m3
         replace h2 := h2.drewN m3
         replace h3 := h3.drewN m3
         go_wp2_with fail
         refine (C3.out _ h3 c6 c7).mono ?_
         rintro e w4 ⟨rfl, m4, rfl⟩
         replace bb0 := bb0.trans (below_drewN (Below.refl _ _) m4 |>.mono bb0.size)
         replace h1 := h1.drewN m4
         replace h2 := h2.drewN m4
         replace h3 := h3.drewN m4
         go_wp2_with fail
         refine (C4.out _ ).mono ?_
         rintro e w5 ⟨rfl, rfl⟩
         go_wp2_with fail
         go_ret
         first | exact ⟨rfl, bb0⟩ | exact ⟨rfl, by simpa only [World.drewN_drewN] using bb0⟩
end Go.Proofs.YtboijogahclekaaGreatDoor

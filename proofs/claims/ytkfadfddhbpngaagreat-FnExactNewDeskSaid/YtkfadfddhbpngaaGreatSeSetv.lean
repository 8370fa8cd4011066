/- ValidSetup of the program and of the reference. Conditions: none. -/
import Derived.Test.YtkfadfddhbpngaaGreatTkv
import Derived.Test.YtkfadfddhbpngaaGreatSeModv
namespace Go.Proofs.YtkfadfddhbpngaaGreat
open Go Go.RowKit

set_option maxRecDepth 100000 in
set_option maxHeartbeats 2000000 in
theorem impl_ValidSetup_c {o : Bool} {ef et ee eb : TypeId} {p : PSetup} {a b c : Value} {F1 F2 F3 : List Nat} (w : World) (h1 : (pTemps ef et).rep o w p.temps [a] F1) (h2 : (pEntrys ee).rep o w p.entries [b] F2) (h3 : (pBigrams eb).rep o w p.bigrams [c] F3) (hp : SeSmall p) (hb : SeBytes p) :
 Calls Tryz.prog 49 #[.agg #[.int .i64 p.band, a, .int .i64 p.points, .int .i64 p.most, .int .i64 p.pen, b, .int .i64 p.dflt, c, .int .i64 p.pause]] w fun e w' => e = .returned (.bool (setupB p)) ∧ Below w.heap.size w w' := by
 obtain ⟨Aa, ka, rfl⟩ := slice_len h1
 obtain ⟨Ab, kb, rfl⟩ := slice_len h2
 obtain ⟨Ac, kc, rfl⟩ := slice_len h3
 unfold setupB
 have C0 := Lib.hid (fun w' (q0 : (pTemps ef et).rep o w' p.temps [.slice Aa p.temps.length ka] F1)  => impl_ValidStore_c (p := p) w' q0 hp hb)
 have C1 := Lib.hid (fun w'   => impl_ValidSetting_c ⟨p.points, p.most, p.pen⟩ w')
 have C2 := Lib.hid (fun w' (q0 : (pEntrys ee).rep o w' p.entries [.slice Ab p.entries.length kb] F2)  => impl_ValidLexicon_c w' q0 hp.e hb.e)
 have C3 := Lib.hid (fun w' (q0 : (pBigrams eb).rep o w' p.bigrams [.slice Ac p.bigrams.length kc] F3)  => impl_ValidModel_c (n := p.dflt) w' q0 hp.b hb.b)
 have C4 := Lib.hid (fun w'   => impl_inR_c p.pause 1 60000 w')
 generalize storeB p = d0 at *
 generalize settingB ⟨p.points, p.most, p.pen⟩ = d1 at *
 generalize lexB p.entries = d2 at *
 generalize modelB p.dflt p.bigrams = d3 at *
 generalize inR p.pause 1 60000 = d4 at *
 have R0 := Row.new w 61 #[.int .i64 p.band, .slice Aa p.temps.length ka, .int .i64 p.points, .int .i64 p.most, .int .i64 p.pen, .slice Ab p.entries.length kb, .int .i64 p.dflt, .slice Ac p.bigrams.length kc, .int .i64 p.pause]
 have bb0 : Below w.heap.size w (w.alloc (.cells #[.int .i64 p.band, .slice Aa p.temps.length ka, .int .i64 p.points, .int .i64 p.most, .int .i64 p.pen, .slice Ab p.entries.length kb, .int .i64 p.dflt, .slice Ac p.bigrams.length kc, .int .i64 p.pause] 61)) := (Below.refl _ _).alloc (Nat.le_refl _) _
 replace h1 := h1.alloc (.cells #[.int .i64 p.band, .slice Aa p.temps.length ka, .int .i64 p.points, .int .i64 p.most, .int .i64 p.pen, .slice Ab p.entries.length kb, .int .i64 p.dflt, .slice Ac p.bigrams.length kc, .int .i64 p.pause] 61)
 replace h2 := h2.alloc (.cells #[.int .i64 p.band, .slice Aa p.temps.length ka, .int .i64 p.points, .int .i64 p.most, .int .i64 p.pen, .slice Ab p.entries.length kb, .int .i64 p.dflt, .slice Ac p.bigrams.length kc, .int .i64 p.pause] 61)
 replace h3 := h3.alloc (.cells #[.int .i64 p.band, .slice Aa p.temps.length ka, .int .i64 p.points, .int .i64 p.most, .int .i64 p.pen, .slice Ab p.entries.length kb, .int .i64 p.dflt, .slice Ac p.bigrams.length kc, .int .i64 p.pause] 61)
 cases d0
 · go_enter Tryz.func49, Tryz.ntmps49
   go_wp2_with fail
   refine (C0.out _ h1).mono ?_
   rintro e w1 ⟨rfl, b1⟩
   replace bb0 := bb0.trans (b1.mono bb0.size)
   go_wp2_with fail
   go_ret
   first | exact ⟨rfl, bb0⟩ | exact ⟨rfl, by simpa only [World.drewN_drewN] using bb0⟩
 · skip
   cases d1
   · go_enter Tryz.func49, Tryz.ntmps49
     go_wp2_with fail
     refine (C0.out _ h1).mono ?_
     rintro e w1 ⟨rfl, b1⟩
     replace bb0 := bb0.trans (b1.mono bb0.size)
     replace R0 := R0.later b1
     have qr0 := R0.cell' (i := 0) rfl
     have qr1 := R0.cell' (i := 1) rfl
     have qr2 := R0.cell' (i := 2) rfl
     have qr3 := R0.cell' (i := 3) rfl
     have qr4 := R0.cell' (i := 4) rfl
     have qr5 := R0.cell' (i := 5) rfl
     have qr6 := R0.cell' (i := 6) rfl
     have qr7 := R0.cell' (i := 7) rfl
     have qr8 := R0.cell' (i := 8) rfl
     replace h1 := h1.below b1
     replace h2 := h2.below b1
     replace h3 := h3.below b1
     go_wp2_with fail
     refine (C1.out _ ).mono ?_
     rintro e w2 ⟨rfl, b2⟩
     replace bb0 := bb0.trans (b2.mono bb0.size)
     go_wp2_with fail
     go_ret
     first | exact ⟨rfl, bb0⟩ | exact ⟨rfl, by simpa only [World.drewN_drewN] using bb0⟩
   · skip
     cases d2
     · go_enter Tryz.func49, Tryz.ntmps49
       go_wp2_with fail
       refine (C0.out _ h1).mono ?_
       rintro e w1 ⟨rfl, b1⟩
       replace bb0 := bb0.trans (b1.mono bb0.size)
       replace R0 := R0.later b1
       have qr0 := R0.cell' (i := 0) rfl
       have qr1 := R0.cell' (i := 1) rfl
       have qr2 := R0.cell' (i := 2) rfl
       have qr3 := R0.cell' (i := 3) rfl
       have qr4 := R0.cell' (i := 4) rfl
       have qr5 := R0.cell' (i := 5) rfl
       have qr6 := R0.cell' (i := 6) rfl
       have qr7 := R0.cell' (i := 7) rfl
       have qr8 := R0.cell' (i := 8) rfl
       replace h1 := h1.below b1
       replace h2 := h2.below b1
       replace h3 := h3.below b1
       go_wp2_with fail
       refine (C1.out _ ).mono ?_
       rintro e w2 ⟨rfl, b2⟩
       replace bb0 := bb0.trans (b2.mono bb0.size)
       replace R0 := R0.later b2
       clear qr0 qr1 qr2 qr3 qr4 qr5 qr6 qr7 qr8
       have qr0 := R0.cell' (i := 0) rfl
       have qr1 := R0.cell' (i := 1) rfl
       have qr2 := R0.cell' (i := 2) rfl
       have qr3 := R0.cell' (i := 3) rfl
       have qr4 := R0.cell' (i := 4) rfl
       have qr5 := R0.cell' (i := 5) rfl
       have qr6 := R0.cell' (i := 6) rfl
       have qr7 := R0.cell' (i := 7) rfl
       have qr8 := R0.cell' (i := 8) rfl
       replace h1 := h1.below b2
       replace h2 := h2.below b2
       replace h3 := h3.below b2
       go_wp2_with fail
       refine (C2.out _ h2).mono ?_
       rintro e w3 ⟨rfl, b3⟩
       replace bb0 := bb0.trans (b3.mono bb0.size)
       go_wp2_with fail
       go_ret
       first | exact ⟨rfl, bb0⟩ | exact ⟨rfl, by simpa only [World.drewN_drewN] using bb0⟩
     · skip
       cases d3
       · go_enter Tryz.func49, Tryz.ntmps49
         go_wp2_with fail
         refine (C0.out _ h1).mono ?_
         rintro e w1 ⟨rfl, b1⟩
         replace bb0 := bb0.trans (b1.mono bb0.size)
         replace R0 := R0.later b1
         have qr0 := R0.cell' (i := 0) rfl
         have qr1 := R0.cell' (i := 1) rfl
         have qr2 := R0.cell' (i := 2) rfl
         have qr3 := R0.cell' (i := 3) rfl
         have qr4 := R0.cell' (i := 4) rfl
         have qr5 := R0.cell' (i := 5) rfl
         have qr6 := R0.cell' (i := 6) rfl
         have qr7 := R0.cell' (i := 7) rfl
         have qr8 := R0.cell' (i := 8) rfl
         replace h1 := h1.below b1
         replace h2 := h2.below b1
         replace h3 := h3.below b1
         go_wp2_with fail
         refine (C1.out _ ).mono ?_
         rintro e w2 ⟨rfl, b2⟩
         replace bb0 := bb0.trans (b2.mono bb0.size)
         replace R0 := R0.later b2
         clear qr0 qr1 qr2 qr3 qr4 qr5 qr6 qr7 qr8
         have qr0 := R0.cell' (i := 0) rfl
         have qr1 := R0.cell' (i := 1) rfl
         have qr2 := R0.cell' (i := 2) rfl
         have qr3 := R0.cell' (i := 3) rfl
         have qr4 := R0.cell' (i := 4) rfl
         have qr5 := R0.cell' (i := 5) rfl
         have qr6 := R0.cell' (i := 6) rfl
         have qr7 := R0.cell' (i := 7) rfl
         have qr8 := R0.cell' (i := 8) rfl
         replace h1 := h1.below b2
         replace h2 := h2.below b2
         replace h3 := h3.below b2
         go_wp2_with fail
         refine (C2.out _ h2).mono ?_
         rintro e w3 ⟨rfl, b3⟩
         replace bb0 := bb0.trans (b3.mono bb0.size)
         replace R0 := R0.later b3
         clear qr0 qr1 qr2 qr3 qr4 qr5 qr6 qr7 qr8
         have qr0 := R0.cell' (i := 0) rfl
         have qr1 := R0.cell' (i := 1) rfl
         have qr2 := R0.cell' (i := 2) rfl
         have qr3 := R0.cell' (i := 3) rfl
         have qr4 := R0.cell' (i := 4) rfl
         have qr5 := R0.cell' (i := 5) rfl
         have qr6 := R0.cell' (i := 6) rfl
         have qr7 := R0.cell' (i := 7) rfl
         have qr8 := R0.cell' (i := 8) rfl
         replace h1 := h1.below b3
         replace h2 := h2.below b3
         replace h3 := h3.below b3
         go_wp2_with fail
         refine (C3.out _ h3).mono ?_
         rintro e w4 ⟨rfl, b4⟩
         replace bb0 := bb0.trans (b4.mono bb0.size)
         go_wp2_with fail
         go_ret
         first | exact ⟨rfl, bb0⟩ | exact ⟨rfl, by simpa only [World.drewN_drewN] using bb0⟩
       · skip
         go_enter Tryz.func49, Tryz.ntmps49
         go_wp2_with fail
         refine (C0.out _ h1).mono ?_
         rintro e w1 ⟨rfl, b1⟩
         replace bb0 := bb0.trans (b1.mono bb0.size)
         replace R0 := R0.later b1
         have qr0 := R0.cell' (i := 0) rfl
         have qr1 := R0.cell' (i := 1) rfl
         have qr2 := R0.cell' (i := 2) rfl
         have qr3 := R0.cell' (i := 3) rfl
         have qr4 := R0.cell' (i := 4) rfl
         have qr5 := R0.cell' (i := 5) rfl
         have qr6 := R0.cell' (i := 6) rfl
         have qr7 := R0.cell' (i := 7) rfl
         have qr8 := R0.cell' (i := 8) rfl
         replace h1 := h1.below b1
         replace h2 := h2.below b1
         replace h3 := h3.below b1
         go_wp2_with fail
         refine (C1.out _ ).mono ?_
         rintro e w2 ⟨rfl, b2⟩
         replace bb0 := bb0.trans (b2.mono bb0.size)
         replace R0 := R0.later b2
         clear qr0 qr1 qr2 qr3 qr4 qr5 qr6 qr7 qr8
         have qr0 := R0.cell' (i := 0) rfl
         have qr1 := R0.cell' (i := 1) rfl
         have qr2 := R0.cell' (i := 2) rfl
         have qr3 := R0.cell' (i := 3) rfl
         have qr4 := R0.cell' (i := 4) rfl
         have qr5 := R0.cell' (i := 5) rfl
         have qr6 := R0.cell' (i := 6) rfl
         have qr7 := R0.cell' (i := 7) rfl
         have qr8 := R0.cell' (i := 8) rfl
         replace h1 := h1.below b2
         replace h2 := h2.below b2
         replace h3 := h3.below b2
         go_wp2_with fail
         refine (C2.out _ h2).mono ?_
         rintro e w3 ⟨rfl, b3⟩
         replace bb0 := bb0.trans (b3.mono bb0.size)
         replace R0 := R0.later b3
         clear qr0 qr1 qr2 qr3 qr4 qr5 qr6 qr7 qr8
         have qr0 := R0.cell' (i := 0) rfl
         have qr1 := R0.cell' (i := 1) rfl
         have qr2 := R0.cell' (i := 2) rfl
         have qr3 := R0.cell' (i := 3) rfl
         have qr4 := R0.cell' (i := 4) rfl
         have qr5 := R0.cell' (i := 5) rfl
         have qr6 := R0.cell' (i := 6) rfl
         have qr7 := R0.cell' (i := 7) rfl
         have qr8 := R0.cell' (i := 8) rfl
         replace h1 := h1.below b3
         replace h2 := h2.below b3
         replace h3 := h3.below b3
         go_wp2_with fail
         refine (C3.out _ h3).mono ?_
         rintro e w4 ⟨rfl, b4⟩
         replace bb0 := bb0.trans (b4.mono bb0.size)
         replace R0 := R0.later b4
         clear qr0 qr1 qr2 qr3 qr4 qr5 qr6 qr7 qr8
         have qr0 := R0.cell' (i := 0) rfl
         have qr1 := R0.cell' (i := 1) rfl
         have qr2 := R0.cell' (i := 2) rfl
         have qr3 := R0.cell' (i := 3) rfl
         have qr4 := R0.cell' (i := 4) rfl
         have qr5 := R0.cell' (i := 5) rfl
         have qr6 := R0.cell' (i := 6) rfl
         have qr7 := R0.cell' (i := 7) rfl
         have qr8 := R0.cell' (i := 8) rfl
         replace h1 := h1.below b4
         replace h2 := h2.below b4
         replace h3 := h3.below b4
         go_wp2_with fail
         refine (C4.out _ ).mono ?_
         rintro e w5 ⟨rfl, rfl⟩
         go_wp2_with fail
         go_ret
         first | exact ⟨rfl, bb0⟩ | exact ⟨rfl, by simpa only [World.drewN_drewN] using bb0⟩
end Go.Proofs.YtkfadfddhbpngaaGreat

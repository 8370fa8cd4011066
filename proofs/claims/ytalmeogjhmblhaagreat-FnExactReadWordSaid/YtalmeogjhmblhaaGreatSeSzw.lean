/- Store, Lexicon, Model, Setup, Session: the law's own sz over them. Conditions: none. -/
import Derived.Test.YtalmeogjhmblhaaGreatTyEntryw
import Derived.Test.YtalmeogjhmblhaaGreatSeTow
import Derived.Test.YtalmeogjhmblhaaGreatSeEqw
namespace Go.Proofs.YtalmeogjhmblhaaGreat
open Go Go.RowKit
set_option maxHeartbeats 8000000
set_option maxRecDepth 100000
theorem szStore_c {o:Bool} {pe e:TypeId} {n:Int} {xs:List PTemp} {v:Value} {F:List Nat} (w:World) (h:(pTemps pe e).rep o w xs [v] F) (left:Int) (hl:0≤left∧left≤1048576) :
 Calls Tryz.prog 55 #[.agg #[.int .i64 n,v],.int .i64 left] w fun e w'=>(∃ r:Int,e=.returned (.int .i64 r)∧r≤left∧(0≤r→r+(szTemps xs:Nat)≤left))∧Below w.heap.size w w':=by
 obtain ⟨Aa,ka,rfl⟩:=slice_len h
 go_enter Tryz.func55,Tryz.ntmps55
 have R:=Row.new w 24 #[.int .i64 n,.slice Aa xs.length ka];have bb:Below w.heap.size w (w.alloc (.cells #[.int .i64 n,.slice Aa xs.length ka] 24)):=(Below.refl _ _).alloc (Nat.le_refl _) _;replace h:=h.alloc (.cells #[.int .i64 n,.slice Aa xs.length ka] 24)
 go_wp2_with fail
 refine (szTemplateS_c _ h left (by omega)).mono ?_;rintro e w0 ⟨⟨l0,rfl,a0,c0⟩,b0⟩;replace bb:=bb.trans (b0.mono bb.size);replace R:=R.later b0;replace h:=h.below b0
 by_cases n0:l0 < 0
 · go_wp2_with fail
   go_ret;exact ⟨⟨-1,rfl,by omega,by omega⟩,bb⟩
 go_wp2_with fail
 go_ret;exact ⟨⟨l0,rfl,by omega,by omega⟩,bb⟩
theorem szLexicon_c {o:Bool} {e:TypeId} {xs:List PEntry} {v:Value} {F:List Nat} (w:World) (h:(pEntrys e).rep o w xs [v] F) (left:Int) (hl:0≤left∧left≤1048576) :
 Calls Tryz.prog 56 #[.agg #[v],.int .i64 left] w fun e w'=>(∃ r:Int,e=.returned (.int .i64 r)∧r≤left∧(0≤r→r+(szpEntry xs:Nat)≤left))∧Below w.heap.size w w':=by
 obtain ⟨Aa,ka,rfl⟩:=slice_len h
 go_enter Tryz.func56,Tryz.ntmps56
 have R:=Row.new w 29 #[.slice Aa xs.length ka];have bb:Below w.heap.size w (w.alloc (.cells #[.slice Aa xs.length ka] 29)):=(Below.refl _ _).alloc (Nat.le_refl _) _;replace h:=h.alloc (.cells #[.slice Aa xs.length ka] 29)
 go_wp2_with fail
 refine (szEntryS_c _ h left (by omega)).mono ?_;rintro e w0 ⟨⟨l0,rfl,a0,c0⟩,b0⟩;replace bb:=bb.trans (b0.mono bb.size);replace R:=R.later b0;replace h:=h.below b0
 by_cases n0:l0 < 0
 · go_wp2_with fail
   go_ret;exact ⟨⟨-1,rfl,by omega,by omega⟩,bb⟩
 go_wp2_with fail
 go_ret;exact ⟨⟨l0,rfl,by omega,by omega⟩,bb⟩
theorem szModel_c {o:Bool} {e:TypeId} {n:Int} {xs:List PBigram} {v:Value} {F:List Nat} (w:World) (h:(pBigrams e).rep o w xs [v] F) (left:Int) (hl:0≤left∧left≤1048576) :
 Calls Tryz.prog 57 #[.agg #[.int .i64 n,v],.int .i64 left] w fun e w'=>(∃ r:Int,e=.returned (.int .i64 r)∧r≤left∧(0≤r→r+(szpBigram xs:Nat)≤left))∧Below w.heap.size w w':=by
 obtain ⟨Aa,ka,rfl⟩:=slice_len h
 go_enter Tryz.func57,Tryz.ntmps57
 have R:=Row.new w 32 #[.int .i64 n,.slice Aa xs.length ka];have bb:Below w.heap.size w (w.alloc (.cells #[.int .i64 n,.slice Aa xs.length ka] 32)):=(Below.refl _ _).alloc (Nat.le_refl _) _;replace h:=h.alloc (.cells #[.int .i64 n,.slice Aa xs.length ka] 32)
 go_wp2_with fail
 refine (szBigramS_c _ h left (by omega)).mono ?_;rintro e w0 ⟨⟨l0,rfl,a0,c0⟩,b0⟩;replace bb:=bb.trans (b0.mono bb.size);replace R:=R.later b0;replace h:=h.below b0
 by_cases n0:l0 < 0
 · go_wp2_with fail
   go_ret;exact ⟨⟨-1,rfl,by omega,by omega⟩,bb⟩
 go_wp2_with fail
 go_ret;exact ⟨⟨l0,rfl,by omega,by omega⟩,bb⟩
theorem szSetup_c {o:Bool} {ef et ee eb:TypeId} {p:PSetup} {a b c:Value} {F1 F2 F3:List Nat} (w:World) (h1:(pTemps ef et).rep o w p.temps [a] F1) (h2:(pEntrys ee).rep o w p.entries [b] F2) (h3:(pBigrams eb).rep o w p.bigrams [c] F3) (left:Int) (hl:0≤left∧left≤1048576) :
 Calls Tryz.prog 22 #[.agg #[.int .i64 p.band,a,.int .i64 p.points,.int .i64 p.most,.int .i64 p.pen,b,.int .i64 p.dflt,c,.int .i64 p.pause],.int .i64 left] w fun e w'=>(∃ r:Int,e=.returned (.int .i64 r)∧r≤left∧(0≤r→r+(szSe p:Nat)≤left))∧Below w.heap.size w w':=by
 obtain ⟨Aa,ka,rfl⟩:=slice_len h1;obtain ⟨Ab,kb,rfl⟩:=slice_len h2;obtain ⟨Ac,kc,rfl⟩:=slice_len h3;unfold szSe
 go_enter Tryz.func22,Tryz.ntmps22
 have R:=Row.new w 34 #[.int .i64 p.band,.slice Aa p.temps.length ka,.int .i64 p.points,.int .i64 p.most,.int .i64 p.pen,.slice Ab p.entries.length kb,.int .i64 p.dflt,.slice Ac p.bigrams.length kc,.int .i64 p.pause];have bb:Below w.heap.size w (w.alloc (.cells #[.int .i64 p.band,.slice Aa p.temps.length ka,.int .i64 p.points,.int .i64 p.most,.int .i64 p.pen,.slice Ab p.entries.length kb,.int .i64 p.dflt,.slice Ac p.bigrams.length kc,.int .i64 p.pause] 34)):=(Below.refl _ _).alloc (Nat.le_refl _) _;replace h1:=h1.alloc (.cells #[.int .i64 p.band,.slice Aa p.temps.length ka,.int .i64 p.points,.int .i64 p.most,.int .i64 p.pen,.slice Ab p.entries.length kb,.int .i64 p.dflt,.slice Ac p.bigrams.length kc,.int .i64 p.pause] 34);replace h2:=h2.alloc (.cells #[.int .i64 p.band,.slice Aa p.temps.length ka,.int .i64 p.points,.int .i64 p.most,.int .i64 p.pen,.slice Ab p.entries.length kb,.int .i64 p.dflt,.slice Ac p.bigrams.length kc,.int .i64 p.pause] 34);replace h3:=h3.alloc (.cells #[.int .i64 p.band,.slice Aa p.temps.length ka,.int .i64 p.points,.int .i64 p.most,.int .i64 p.pen,.slice Ab p.entries.length kb,.int .i64 p.dflt,.slice Ac p.bigrams.length kc,.int .i64 p.pause] 34)
 go_wp2_with fail
 refine (szStore_c (n:=p.band) _ h1 left (by omega)).mono ?_;rintro e w0 ⟨⟨l0,rfl,a0,c0⟩,b0⟩;replace bb:=bb.trans (b0.mono bb.size);replace R:=R.later b0;replace h1:=h1.below b0;replace h2:=h2.below b0;replace h3:=h3.below b0
 by_cases n0:l0 < 0
 · go_wp2_with fail
   go_ret;exact ⟨⟨-1,rfl,by omega,by omega⟩,bb⟩
 have q0:=R.c0;have q1:=R.c1;have q2:=R.c2;have q3:=R.c3;have q4:=R.c4;have q5:=R.c5;have q6:=R.cell' (i:=6) rfl;have q7:=R.cell' (i:=7) rfl;have q8:=R.cell' (i:=8) rfl
 go_wp2_with fail
 refine (szLexicon_c _ h2 l0 (by omega)).mono ?_;rintro e w1 ⟨⟨l1,rfl,a1,c1⟩,b1⟩;clear q0 q1 q2 q3 q4 q5 q6 q7 q8;replace bb:=bb.trans (b1.mono bb.size);replace R:=R.later b1;replace h1:=h1.below b1;replace h2:=h2.below b1;replace h3:=h3.below b1
 by_cases n1:l1 < 0
 · go_wp2_with fail
   go_ret;exact ⟨⟨-1,rfl,by omega,by omega⟩,bb⟩
 have q0:=R.c0;have q1:=R.c1;have q2:=R.c2;have q3:=R.c3;have q4:=R.c4;have q5:=R.c5;have q6:=R.cell' (i:=6) rfl;have q7:=R.cell' (i:=7) rfl;have q8:=R.cell' (i:=8) rfl
 go_wp2_with fail
 refine (szModel_c (n:=p.dflt) _ h3 l1 (by omega)).mono ?_;rintro e w2 ⟨⟨l2,rfl,a2,c2⟩,b2⟩;clear q0 q1 q2 q3 q4 q5 q6 q7 q8;replace bb:=bb.trans (b2.mono bb.size);replace R:=R.later b2;replace h1:=h1.below b2;replace h2:=h2.below b2;replace h3:=h3.below b2
 by_cases n2:l2 < 0
 · go_wp2_with fail
   go_ret;exact ⟨⟨-1,rfl,by omega,by omega⟩,bb⟩
 go_wp2_with fail
 go_ret;exact ⟨⟨l2,rfl,by omega,by omega⟩,bb⟩
theorem szSession_c {o:Bool} {ef et ee eb pe es ep:TypeId} {q:PSess} {a b c d g x:Value} {F1 F2 F3 F4 F5 F6:List Nat} (w:World) (h1:(pTemps ef et).rep o w q.setup.temps [a] F1) (h2:(pEntrys ee).rep o w q.setup.entries [b] F2) (h3:(pBigrams eb).rep o w q.setup.bigrams [c] F3) (h4:(pStrokes pe es).rep o w q.strokes [d] F4) (h5:(pPoints ep).rep o w q.opn [g] F5) (h6:(strs 9).rep o w q.words [x] F6) (left:Int) (hl:0≤left∧left≤1048576) :
 Calls Tryz.prog 6 #[.agg #[.int .i64 q.setup.band,a,.int .i64 q.setup.points,.int .i64 q.setup.most,.int .i64 q.setup.pen,b,.int .i64 q.setup.dflt,c,.int .i64 q.setup.pause,d,g,.int .i64 q.time,x],.int .i64 left] w fun e w'=>(∃ r:Int,e=.returned (.int .i64 r)∧r≤left∧(0≤r→r+(szSs q:Nat)≤left))∧Below w.heap.size w w':=by
 obtain ⟨Aa,ka,rfl⟩:=slice_len h1;obtain ⟨Ab,kb,rfl⟩:=slice_len h2;obtain ⟨Ac,kc,rfl⟩:=slice_len h3;obtain ⟨Ad,kd,rfl⟩:=slice_len h4;obtain ⟨Ag,kg,rfl⟩:=slice_len h5;obtain ⟨Ax,kx,rfl⟩:=slice_len h6;unfold szSs
 go_enter Tryz.func6,Tryz.ntmps6
 have R:=Row.new w 41 #[.int .i64 q.setup.band,.slice Aa q.setup.temps.length ka,.int .i64 q.setup.points,.int .i64 q.setup.most,.int .i64 q.setup.pen,.slice Ab q.setup.entries.length kb,.int .i64 q.setup.dflt,.slice Ac q.setup.bigrams.length kc,.int .i64 q.setup.pause,.slice Ad q.strokes.length kd,.slice Ag q.opn.length kg,.int .i64 q.time,.slice Ax q.words.length kx];have bb:Below w.heap.size w (w.alloc (.cells #[.int .i64 q.setup.band,.slice Aa q.setup.temps.length ka,.int .i64 q.setup.points,.int .i64 q.setup.most,.int .i64 q.setup.pen,.slice Ab q.setup.entries.length kb,.int .i64 q.setup.dflt,.slice Ac q.setup.bigrams.length kc,.int .i64 q.setup.pause,.slice Ad q.strokes.length kd,.slice Ag q.opn.length kg,.int .i64 q.time,.slice Ax q.words.length kx] 41)):=(Below.refl _ _).alloc (Nat.le_refl _) _;replace h1:=h1.alloc (.cells #[.int .i64 q.setup.band,.slice Aa q.setup.temps.length ka,.int .i64 q.setup.points,.int .i64 q.setup.most,.int .i64 q.setup.pen,.slice Ab q.setup.entries.length kb,.int .i64 q.setup.dflt,.slice Ac q.setup.bigrams.length kc,.int .i64 q.setup.pause,.slice Ad q.strokes.length kd,.slice Ag q.opn.length kg,.int .i64 q.time,.slice Ax q.words.length kx] 41);replace h2:=h2.alloc (.cells #[.int .i64 q.setup.band,.slice Aa q.setup.temps.length ka,.int .i64 q.setup.points,.int .i64 q.setup.most,.int .i64 q.setup.pen,.slice Ab q.setup.entries.length kb,.int .i64 q.setup.dflt,.slice Ac q.setup.bigrams.length kc,.int .i64 q.setup.pause,.slice Ad q.strokes.length kd,.slice Ag q.opn.length kg,.int .i64 q.time,.slice Ax q.words.length kx] 41);replace h3:=h3.alloc (.cells #[.int .i64 q.setup.band,.slice Aa q.setup.temps.length ka,.int .i64 q.setup.points,.int .i64 q.setup.most,.int .i64 q.setup.pen,.slice Ab q.setup.entries.length kb,.int .i64 q.setup.dflt,.slice Ac q.setup.bigrams.length kc,.int .i64 q.setup.pause,.slice Ad q.strokes.length kd,.slice Ag q.opn.length kg,.int .i64 q.time,.slice Ax q.words.length kx] 41);replace h4:=h4.alloc (.cells #[.int .i64 q.setup.band,.slice Aa q.setup.temps.length ka,.int .i64 q.setup.points,.int .i64 q.setup.most,.int .i64 q.setup.pen,.slice Ab q.setup.entries.length kb,.int .i64 q.setup.dflt,.slice Ac q.setup.bigrams.length kc,.int .i64 q.setup.pause,.slice Ad q.strokes.length kd,.slice Ag q.opn.length kg,.int .i64 q.time,.slice Ax q.words.length kx] 41);replace h5:=h5.alloc (.cells #[.int .i64 q.setup.band,.slice Aa q.setup.temps.length ka,.int .i64 q.setup.points,.int .i64 q.setup.most,.int .i64 q.setup.pen,.slice Ab q.setup.entries.length kb,.int .i64 q.setup.dflt,.slice Ac q.setup.bigrams.length kc,.int .i64 q.setup.pause,.slice Ad q.strokes.length kd,.slice Ag q.opn.length kg,.int .i64 q.time,.slice Ax q.words.length kx] 41);replace h6:=h6.alloc (.cells #[.int .i64 q.setup.band,.slice Aa q.setup.temps.length ka,.int .i64 q.setup.points,.int .i64 q.setup.most,.int .i64 q.setup.pen,.slice Ab q.setup.entries.length kb,.int .i64 q.setup.dflt,.slice Ac q.setup.bigrams.length kc,.int .i64 q.setup.pause,.slice Ad q.strokes.length kd,.slice Ag q.opn.length kg,.int .i64 q.time,.slice Ax q.words.length kx] 41)
 go_wp2_with fail
 refine (szSetup_c (p:=q.setup) _ h1 h2 h3 left (by omega)).mono ?_;rintro e w0 ⟨⟨l0,rfl,a0,c0⟩,b0⟩;replace bb:=bb.trans (b0.mono bb.size);replace R:=R.later b0;replace h1:=h1.below b0;replace h2:=h2.below b0;replace h3:=h3.below b0;replace h4:=h4.below b0;replace h5:=h5.below b0;replace h6:=h6.below b0
 by_cases n0:l0 < 0
 · go_wp2_with fail
   go_ret;exact ⟨⟨-1,rfl,by omega,by omega⟩,bb⟩
 have q0:=R.c0;have q1:=R.c1;have q2:=R.c2;have q3:=R.c3;have q4:=R.c4;have q5:=R.c5;have q6:=R.cell' (i:=6) rfl;have q7:=R.cell' (i:=7) rfl;have q8:=R.cell' (i:=8) rfl;have q9:=R.cell' (i:=9) rfl;have q10:=R.cell' (i:=10) rfl;have q11:=R.cell' (i:=11) rfl;have q12:=R.cell' (i:=12) rfl
 go_wp2_with fail
 refine (szInk_c _ h4 l0 (by omega)).mono ?_;rintro e w1 ⟨⟨l1,rfl,a1,c1⟩,b1⟩;clear q0 q1 q2 q3 q4 q5 q6 q7 q8 q9 q10 q11 q12;replace bb:=bb.trans (b1.mono bb.size);replace R:=R.later b1;replace h1:=h1.below b1;replace h2:=h2.below b1;replace h3:=h3.below b1;replace h4:=h4.below b1;replace h5:=h5.below b1;replace h6:=h6.below b1
 by_cases n1:l1 < 0
 · go_wp2_with fail
   go_ret;exact ⟨⟨-1,rfl,by omega,by omega⟩,bb⟩
 have q0:=R.c0;have q1:=R.c1;have q2:=R.c2;have q3:=R.c3;have q4:=R.c4;have q5:=R.c5;have q6:=R.cell' (i:=6) rfl;have q7:=R.cell' (i:=7) rfl;have q8:=R.cell' (i:=8) rfl;have q9:=R.cell' (i:=9) rfl;have q10:=R.cell' (i:=10) rfl;have q11:=R.cell' (i:=11) rfl;have q12:=R.cell' (i:=12) rfl
 go_wp2_with fail
 refine (szPointS_c _ h5 l1 (by omega)).mono ?_;rintro e w2 ⟨⟨l2,rfl,_,a2,c2⟩,b2⟩;clear q0 q1 q2 q3 q4 q5 q6 q7 q8 q9 q10 q11 q12;replace bb:=bb.trans (b2.mono bb.size);replace R:=R.later b2;replace h1:=h1.below b2;replace h2:=h2.below b2;replace h3:=h3.below b2;replace h4:=h4.below b2;replace h5:=h5.below b2;replace h6:=h6.below b2
 by_cases n2:l2 < 0
 · go_wp2_with fail
   go_ret;exact ⟨⟨-1,rfl,by omega,by omega⟩,bb⟩
 have q0:=R.c0;have q1:=R.c1;have q2:=R.c2;have q3:=R.c3;have q4:=R.c4;have q5:=R.c5;have q6:=R.cell' (i:=6) rfl;have q7:=R.cell' (i:=7) rfl;have q8:=R.cell' (i:=8) rfl;have q9:=R.cell' (i:=9) rfl;have q10:=R.cell' (i:=10) rfl;have q11:=R.cell' (i:=11) rfl;have q12:=R.cell' (i:=12) rfl
 go_wp2_with fail
 refine (szStringS_b _ h6 l2 (by omega)).mono ?_;rintro e w3 ⟨⟨l3,rfl,a3,c3⟩,b3⟩;clear q0 q1 q2 q3 q4 q5 q6 q7 q8 q9 q10 q11 q12;replace bb:=bb.trans (b3.mono bb.size);replace R:=R.later b3;replace h1:=h1.below b3;replace h2:=h2.below b3;replace h3:=h3.below b3;replace h4:=h4.below b3;replace h5:=h5.below b3;replace h6:=h6.below b3
 by_cases n3:l3 < 0
 · go_wp2_with fail
   go_ret;exact ⟨⟨-1,rfl,by omega,by omega⟩,bb⟩
 go_wp2_with fail
 go_ret;exact ⟨⟨l3,rfl,by omega,by omega⟩,bb⟩
structure Ids where
 ft:TypeId
 tm:TypeId
 en:TypeId
 bg:TypeId
 pt:TypeId
 st:TypeId
abbrev idsI:Ids:=⟨347,260,209,212,128,124⟩
theorem kb {w2 w3:World} {b o:Nat} {u:Value} (o3:Below w2.heap.size w2 w3) (hb:b < w2.heap.size) (hu:w2.cell? ⟨b,o,none⟩=some u):w3.cell? ⟨b,o,none⟩=some u:=(o3.cell (p:=⟨b,o,none⟩) hb).trans hu
def SetupIs (I:Ids) (o:Bool) (w:World) (p:PSetup) (v:Value) (F:List Nat):Prop :=
 ∃ a0 a1 a2 F0 F1 F2,v=.agg #[.int .i64 p.band,a0,.int .i64 p.points,.int .i64 p.most,.int .i64 p.pen,a1,.int .i64 p.dflt,a2,.int .i64 p.pause]∧F=F0++(F1++F2)∧(pTemps I.ft I.tm).rep o w p.temps [a0] F0∧(pEntrys I.en).rep o w p.entries [a1] F1∧(pBigrams I.bg).rep o w p.bigrams [a2] F2
section
variable {I:Ids} {o:Bool} {w w':World} {p:PSetup} {v:Value} {F G:List Nat}
theorem SetupIs.below (h:SetupIs I o w p v F) (hb:Below w.heap.size w w'):SetupIs I o w' p v F:=by
 obtain ⟨a0,a1,a2,F0,F1,F2,rfl,rfl,h0,h1,h2⟩:=h;exact ⟨a0,a1,a2,F0,F1,F2,rfl,rfl,h0.below hb,h1.below hb,h2.below hb⟩
theorem SetupIs.alloc (h:SetupIs I o w p v F) (x:Obj):SetupIs I o (w.alloc x) p v F:=by
 obtain ⟨a0,a1,a2,F0,F1,F2,rfl,rfl,h0,h1,h2⟩:=h;exact ⟨a0,a1,a2,F0,F1,F2,rfl,rfl,h0.alloc x,h1.alloc x,h2.alloc x⟩
theorem SetupIs.drew (h:SetupIs I o w p v F):SetupIs I o w.drew p v F:=by
 obtain ⟨a0,a1,a2,F0,F1,F2,rfl,rfl,h0,h1,h2⟩:=h;exact ⟨a0,a1,a2,F0,F1,F2,rfl,rfl,h0.drew,h1.drew,h2.drew⟩
theorem SetupIs.drewN (h:SetupIs I o w p v F) (n:Nat):SetupIs I o (w.drewN n) p v F:=by
 obtain ⟨a0,a1,a2,F0,F1,F2,rfl,rfl,h0,h1,h2⟩:=h;exact ⟨a0,a1,a2,F0,F1,F2,rfl,rfl,h0.drewN n,h1.drewN n,h2.drewN n⟩
theorem SetupIs.only (h:SetupIs I o w p v F) (hb:Only G w w') (hd:∀ x∈F,x∉G):SetupIs I o w' p v F:=by
 obtain ⟨a0,a1,a2,F0,F1,F2,rfl,rfl,h0,h1,h2⟩:=h;exact ⟨a0,a1,a2,F0,F1,F2,rfl,rfl,h0.only hb (fun x hx=>hd x (by simp [hx])),h1.only hb (fun x hx=>hd x (by simp [hx])),h2.only hb (fun x hx=>hd x (by simp [hx]))⟩
theorem SetupIs.blocks (h:SetupIs I o w p v F):∀ x∈F,x < w.heap.size:=by
 obtain ⟨a0,a1,a2,F0,F1,F2,rfl,rfl,h0,h1,h2⟩:=h;intro x hx
 repeat' (rcases List.mem_append.1 hx with hx | hx)
 all_goals first | exact h0.blocks x hx | exact h1.blocks x hx | exact h2.blocks x hx
theorem SetupIs.shape (h:SetupIs I o w p v F):∃ A0 k0 A1 k1 A2 k2,v=.agg #[.int .i64 p.band,.slice A0 p.temps.length k0,.int .i64 p.points,.int .i64 p.most,.int .i64 p.pen,.slice A1 p.entries.length k1,.int .i64 p.dflt,.slice A2 p.bigrams.length k2,.int .i64 p.pause]:=by
 obtain ⟨a0,a1,a2,F0,F1,F2,rfl,rfl,h0,h1,h2⟩:=h;obtain ⟨A0,k0,rfl⟩:=slice_len h0;obtain ⟨A1,k1,rfl⟩:=slice_len h1;obtain ⟨A2,k2,rfl⟩:=slice_len h2;exact ⟨A0,k0,A1,k1,A2,k2,rfl⟩
theorem SetupIs.parts (h:SetupIs I o w p v F):∃ a0 a1 a2 F0 F1 F2,v=.agg #[.int .i64 p.band,a0,.int .i64 p.points,.int .i64 p.most,.int .i64 p.pen,a1,.int .i64 p.dflt,a2,.int .i64 p.pause]∧F=F0++(F1++F2)∧(pTemps I.ft I.tm).rep o w p.temps [a0] F0∧(pEntrys I.en).rep o w p.entries [a1] F1∧(pBigrams I.bg).rep o w p.bigrams [a2] F2:=h
end
def SessIs (I:Ids) (o:Bool) (w:World) (p:PSess) (v:Value) (F:List Nat):Prop :=
 ∃ a0 a1 a2 a3 a4 a5 F0 F1 F2 F3 F4 F5,v=.agg #[.int .i64 p.setup.band,a0,.int .i64 p.setup.points,.int .i64 p.setup.most,.int .i64 p.setup.pen,a1,.int .i64 p.setup.dflt,a2,.int .i64 p.setup.pause,a3,a4,.int .i64 p.time,a5]∧F=F0++(F1++(F2++(F3++(F4++F5))))∧(pTemps I.ft I.tm).rep o w p.setup.temps [a0] F0∧(pEntrys I.en).rep o w p.setup.entries [a1] F1∧(pBigrams I.bg).rep o w p.setup.bigrams [a2] F2∧(pStrokes I.pt I.st).rep o w p.strokes [a3] F3∧(pPoints I.pt).rep o w p.opn [a4] F4∧(strs 9).rep o w p.words [a5] F5
section
variable {I:Ids} {o:Bool} {w w':World} {p:PSess} {v:Value} {F G:List Nat}
theorem SessIs.below (h:SessIs I o w p v F) (hb:Below w.heap.size w w'):SessIs I o w' p v F:=by
 obtain ⟨a0,a1,a2,a3,a4,a5,F0,F1,F2,F3,F4,F5,rfl,rfl,h0,h1,h2,h3,h4,h5⟩:=h;exact ⟨a0,a1,a2,a3,a4,a5,F0,F1,F2,F3,F4,F5,rfl,rfl,h0.below hb,h1.below hb,h2.below hb,h3.below hb,h4.below hb,h5.below hb⟩
theorem SessIs.alloc (h:SessIs I o w p v F) (x:Obj):SessIs I o (w.alloc x) p v F:=by
 obtain ⟨a0,a1,a2,a3,a4,a5,F0,F1,F2,F3,F4,F5,rfl,rfl,h0,h1,h2,h3,h4,h5⟩:=h;exact ⟨a0,a1,a2,a3,a4,a5,F0,F1,F2,F3,F4,F5,rfl,rfl,h0.alloc x,h1.alloc x,h2.alloc x,h3.alloc x,h4.alloc x,h5.alloc x⟩
theorem SessIs.drew (h:SessIs I o w p v F):SessIs I o w.drew p v F:=by
 obtain ⟨a0,a1,a2,a3,a4,a5,F0,F1,F2,F3,F4,F5,rfl,rfl,h0,h1,h2,h3,h4,h5⟩:=h;exact ⟨a0,a1,a2,a3,a4,a5,F0,F1,F2,F3,F4,F5,rfl,rfl,h0.drew,h1.drew,h2.drew,h3.drew,h4.drew,h5.drew⟩
theorem SessIs.drewN (h:SessIs I o w p v F) (n:Nat):SessIs I o (w.drewN n) p v F:=by
 obtain ⟨a0,a1,a2,a3,a4,a5,F0,F1,F2,F3,F4,F5,rfl,rfl,h0,h1,h2,h3,h4,h5⟩:=h;exact ⟨a0,a1,a2,a3,a4,a5,F0,F1,F2,F3,F4,F5,rfl,rfl,h0.drewN n,h1.drewN n,h2.drewN n,h3.drewN n,h4.drewN n,h5.drewN n⟩
theorem SessIs.only (h:SessIs I o w p v F) (hb:Only G w w') (hd:∀ x∈F,x∉G):SessIs I o w' p v F:=by
 obtain ⟨a0,a1,a2,a3,a4,a5,F0,F1,F2,F3,F4,F5,rfl,rfl,h0,h1,h2,h3,h4,h5⟩:=h;exact ⟨a0,a1,a2,a3,a4,a5,F0,F1,F2,F3,F4,F5,rfl,rfl,h0.only hb (fun x hx=>hd x (by simp [hx])),h1.only hb (fun x hx=>hd x (by simp [hx])),h2.only hb (fun x hx=>hd x (by simp [hx])),h3.only hb (fun x hx=>hd x (by simp [hx])),h4.only hb (fun x hx=>hd x (by simp [hx])),h5.only hb (fun x hx=>hd x (by simp [hx]))⟩
theorem SessIs.blocks (h:SessIs I o w p v F):∀ x∈F,x < w.heap.size:=by
 obtain ⟨a0,a1,a2,a3,a4,a5,F0,F1,F2,F3,F4,F5,rfl,rfl,h0,h1,h2,h3,h4,h5⟩:=h;intro x hx
 repeat' (rcases List.mem_append.1 hx with hx | hx)
 all_goals first | exact h0.blocks x hx | exact h1.blocks x hx | exact h2.blocks x hx | exact h3.blocks x hx | exact h4.blocks x hx | exact h5.blocks x hx
theorem SessIs.shape (h:SessIs I o w p v F):∃ A0 k0 A1 k1 A2 k2 A3 k3 A4 k4 A5 k5,v=.agg #[.int .i64 p.setup.band,.slice A0 p.setup.temps.length k0,.int .i64 p.setup.points,.int .i64 p.setup.most,.int .i64 p.setup.pen,.slice A1 p.setup.entries.length k1,.int .i64 p.setup.dflt,.slice A2 p.setup.bigrams.length k2,.int .i64 p.setup.pause,.slice A3 p.strokes.length k3,.slice A4 p.opn.length k4,.int .i64 p.time,.slice A5 p.words.length k5]:=by
 obtain ⟨a0,a1,a2,a3,a4,a5,F0,F1,F2,F3,F4,F5,rfl,rfl,h0,h1,h2,h3,h4,h5⟩:=h;obtain ⟨A0,k0,rfl⟩:=slice_len h0;obtain ⟨A1,k1,rfl⟩:=slice_len h1;obtain ⟨A2,k2,rfl⟩:=slice_len h2;obtain ⟨A3,k3,rfl⟩:=slice_len h3;obtain ⟨A4,k4,rfl⟩:=slice_len h4;obtain ⟨A5,k5,rfl⟩:=slice_len h5;exact ⟨A0,k0,A1,k1,A2,k2,A3,k3,A4,k4,A5,k5,rfl⟩
theorem SessIs.parts (h:SessIs I o w p v F):∃ a0 a1 a2 a3 a4 a5 F0 F1 F2 F3 F4 F5,v=.agg #[.int .i64 p.setup.band,a0,.int .i64 p.setup.points,.int .i64 p.setup.most,.int .i64 p.setup.pen,a1,.int .i64 p.setup.dflt,a2,.int .i64 p.setup.pause,a3,a4,.int .i64 p.time,a5]∧F=F0++(F1++(F2++(F3++(F4++F5))))∧(pTemps I.ft I.tm).rep o w p.setup.temps [a0] F0∧(pEntrys I.en).rep o w p.setup.entries [a1] F1∧(pBigrams I.bg).rep o w p.setup.bigrams [a2] F2∧(pStrokes I.pt I.st).rep o w p.strokes [a3] F3∧(pPoints I.pt).rep o w p.opn [a4] F4∧(strs 9).rep o w p.words [a5] F5:=h
end
def GivesSession (p:PSess) (w:World) (e:Ending) (w':World):Prop:=∃ v F,e=.returned v∧SessIs idsI true w' p v F∧Fresh w.heap.size F∧Below w.heap.size w w'
theorem toSession_p {I:Ids} {o:Bool} {p:PSess} {v:Value} {F:List Nat} (w:World) (h:SessIs I o w p v F) (hp:SsSmall p):Calls Tryz.prog 8 #[v] w (GivesSession p w):=by
 obtain ⟨a0,a1,a2,a3,a4,a5,F0,F1,F2,F3,F4,F5,rfl,rfl,h0,h1,h2,h3,h4,h5⟩:=h;refine (toSession_c w h0 h1 h2 h3 h4 h5 hp).mono ?_;rintro e w' ⟨x0,x1,x2,x3,x4,x5,X0,X1,X2,X3,X4,X5,rfl,r0,r1,r2,r3,r4,r5,f,b⟩;exact ⟨_,_,rfl,⟨x0,x1,x2,x3,x4,x5,X0,X1,X2,X3,X4,X5,rfl,rfl,r0,r1,r2,r3,r4,r5⟩,f,b⟩
theorem eqSession_p {I J:Ids} {oa ob:Bool} {p q:PSess} {v u:Value} {F G:List Nat} (w:World) (h:SessIs I oa w p v F) (h':SessIs J ob w q u G) (hp:SsSmall p) (hq:SsSmall q):Calls Tryz.prog 10 #[v,u] w fun e w'=>e=.returned (.bool (sameSessB p q))∧Below w.heap.size w w':=by
 obtain ⟨a0,a1,a2,a3,a4,a5,F0,F1,F2,F3,F4,F5,rfl,rfl,h0,h1,h2,h3,h4,h5⟩:=h;obtain ⟨b0,b1,b2,b3,b4,b5,G0,G1,G2,G3,G4,G5,rfl,rfl,k0,k1,k2,k3,k4,k5⟩:=h';exact eqSession_c w h0 h1 h2 h3 h4 h5 k0 k1 k2 k3 k4 k5 hp hq
theorem szSession_p {I:Ids} {o:Bool} {p:PSess} {v:Value} {F:List Nat} (w:World) (h:SessIs I o w p v F) (left:Int) (hl:0≤left∧left≤1048576):Calls Tryz.prog 6 #[v,.int .i64 left] w fun e w'=>(∃ r:Int,e=.returned (.int .i64 r)∧r≤left∧(0≤r→r+(szSs p:Nat)≤left))∧Below w.heap.size w w':=by
 obtain ⟨a0,a1,a2,a3,a4,a5,F0,F1,F2,F3,F4,F5,rfl,rfl,h0,h1,h2,h3,h4,h5⟩:=h;exact szSession_c w h0 h1 h2 h3 h4 h5 left hl
end Go.Proofs.YtalmeogjhmblhaaGreat

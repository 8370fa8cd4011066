/- ValidSession of the reference. Conditions: none. -/
import Derived.Test.YtalmeogjhmblhaaGreatTkw
import Derived.Deep.Cut
import Derived.Deep.CutRange
import Derived.Test.YtalmeogjhmblhaaGreatSsVw
namespace Go.Proofs.YtalmeogjhmblhaaGreat
open Go Go.RowKit
set_option maxHeartbeats 8000000
set_option maxRecDepth 100000
theorem spec_l26End_c {o:Bool} {pe e:TypeId} {xs:List PStroke} {v:Value} {F:List Nat} {g f:Nat} (w:World) (c0:w.cell? ⟨g,f,none⟩=some v) (h:(pStrokes pe e).rep o w xs [v] F) (hxe:∀ l∈xs,l.length≤1048576) (hok:inkB xs=true) :
 Calls Tryz.prog 62 #[.pointer (some ⟨g,f,none⟩)] w fun e w'=>e=.returned (.int .i64 (inkEndI xs))∧∃ n,w'=w.drewN n:=by
 have hfew:=inkB_few hok;obtain ⟨A,c,rfl,hc1,hc2,hr⟩:=pStrokes_open h;rcases Nat.eq_zero_or_pos xs.length with h0 | h0
 · have he:=Lib.hid (inkEnd_nil h0)
   have g0:((xs.length:Int) == 0)=true:=by simp [h0]
   clear hr h h0
   go_enter Tryz.func62,Tryz.ntmps62
   go_wp2_with fail
   go_ret;exact ⟨ret_int he.out.symm,0,rfl⟩
 · obtain ⟨j,hj⟩:∃ j,xs.length=j+1:=⟨xs.length - 1,by omega⟩
   have hjl:j < xs.length:=by omega
   have he:Hid (inkEndI xs=lastT xs[j]):=by show _=_; rw [inkEnd_pos hj,strk_get hjl]
   obtain ⟨b,off,u,Fk,rfl,hbb,_,hrk,_,hcell⟩:=hr j hjl;have HC:=Lib.hid (spec_l02Last_c (g:=b) (f:=off+j) w.drew hcell hrk.drew (ink_last hok hjl) (hxe _ (List.getElem_mem hjl)));have g0:((xs.length:Int) == 0)=false:=by rw [beq_eq_false_iff_ne]; omega
   have kl:IntKind.i64.wrap ((xs.length:Int) - 1)=(j:Int):=(IntWalk.i64_in _ (by omega)).trans (by omega);have g1:(j:Int) < (xs.length:Int):=by omega
   have g2:(0:Int)≤(j:Int):=by omega
   have HJ:=Lib.hid hj;clear hr h h0 hj hrk
   go_enter Tryz.func62,Tryz.ntmps62
   go_wp2_with fail
   have hS:(fun w':World=>w'.cell? ⟨g,f,none⟩=some (.slice (some ⟨b,off,none⟩) xs.length c)) w.drew:=c0;dsimp only at hS;refine wp_region_held_drew (S:=(fun w':World=>w'.cell? ⟨g,f,none⟩=some (.slice (some ⟨b,off,none⟩) xs.length c))) (by kernel_rfl) hS (fun _=>?_);refine tJ 0 hS ?_;refine tJ 1 hS ?_;refine tJ 2 hS ?_;refine tJ 3 hS ?_;refine tJ 4 hS ?_;refine tJ 5 hS ?_;refine tJ 6 hS ?_;refine tJ 7 hS ?_;refine tJ 8 hS ?_;refine tJ 9 hS ?_;refine tJ 10 hS ?_;refine rJ 11 fun K hK=>?_
   refine step_call 64 #[.tmp 19] _ rfl rfl #[.pointer (some ⟨b,off+j,none⟩)] Tryz.call64 (by go_simp) HC.out ?_;rintro e w1 ⟨rfl,n1,rfl⟩;refine ⟨_,rfl,?_⟩;replace hS:(fun w':World=>w'.cell? ⟨g,f,none⟩=some (.slice (some ⟨b,off,none⟩) xs.length c)) (w.drew.drewN n1):=hS;dsimp only at hS;refine bJ hK hS ?_;clear hK K;simp only [Act.put,pA,pB,pC];refine tJ 12 hS ?_;refine wpAnyH_done (by kernel_rfl) ?_ _
   go_wp2_with fail
   go_ret;exact ⟨ret_int he.out.symm,_,(show (w.drewN 1).drewN n1=_ from World.drewN_drewN _ _ _)⟩
theorem spec_l26Ok_c {I:Ids} {o:Bool} {q:PSess} {A0 A1 A2 A3 A4 A5:Option Addr} {k0 k1 k2 k3 k4 k5:Nat} {F0 F1 F2 F3 F4 F5:List Nat} {g:Nat} {T:TypeId} {more:List Value} (w:World) (R:Row w g T ([.int .i64 q.setup.band,.slice A0 q.setup.temps.length k0,.int .i64 q.setup.points,.int .i64 q.setup.most,.int .i64 q.setup.pen,.slice A1 q.setup.entries.length k1,.int .i64 q.setup.dflt,.slice A2 q.setup.bigrams.length k2,.int .i64 q.setup.pause,.slice A3 q.strokes.length k3,.slice A4 q.opn.length k4,.int .i64 q.time,.slice A5 q.words.length k5]++more))
 (h0:(pTemps I.ft I.tm).rep o w q.setup.temps [.slice A0 q.setup.temps.length k0] F0) (h1:(pEntrys I.en).rep o w q.setup.entries [.slice A1 q.setup.entries.length k1] F1) (h2:(pBigrams I.bg).rep o w q.setup.bigrams [.slice A2 q.setup.bigrams.length k2] F2) (h3:(pStrokes I.pt I.st).rep o w q.strokes [.slice A3 q.strokes.length k3] F3) (h4:(pPoints I.pt).rep o w q.opn [.slice A4 q.opn.length k4] F4) (h5:(strs 9).rep o w q.words [.slice A5 q.words.length k5] F5) (hp:SsSmall q) (hb:SsBytes q) :
 Calls Tryz.prog 26 #[.pointer (some ⟨g,0,none⟩)] w fun e w'=>e=.returned (.bool (sessB q))∧Below w.heap.size w w':=by
 have HS:=Lib.hid (fun w' (q0:(pTemps I.ft I.tm).rep o w' q.setup.temps [.slice A0 q.setup.temps.length k0] F0) (q1:(pEntrys I.en).rep o w' q.setup.entries [.slice A1 q.setup.entries.length k1] F1) (q2:(pBigrams I.bg).rep o w' q.setup.bigrams [.slice A2 q.setup.bigrams.length k2] F2) (hg:g < w'.heap.size) (c0:w'.cell? ⟨g,0,none⟩=some (.int .i64 q.setup.band)) (c1:w'.cell? ⟨g,1,none⟩=some (.slice A0 q.setup.temps.length k0)) (c2:w'.cell? ⟨g,2,none⟩=some (.int .i64 q.setup.points)) (c3:w'.cell? ⟨g,3,none⟩=some (.int .i64 q.setup.most)) (c4:w'.cell? ⟨g,4,none⟩=some (.int .i64 q.setup.pen)) (c5:w'.cell? ⟨g,5,none⟩=some (.slice A1 q.setup.entries.length k1)) (c6:w'.cell? ⟨g,6,none⟩=some (.int .i64 q.setup.dflt)) (c7:w'.cell? ⟨g,7,none⟩=some (.slice A2 q.setup.bigrams.length k2)) (c8:w'.cell? ⟨g,8,none⟩=some (.int .i64 q.setup.pause))=>spec_l26Setup_c (p:=q.setup) (f:=0) w' hg c0 c1 c2 c3 c4 c5 c6 c7 c8 q0 q1 q2 hp.s hb.s);have HI:=Lib.hid (fun w' (q0:(pStrokes I.pt I.st).rep o w' q.strokes [.slice A3 q.strokes.length k3] F3) (hg:g < w'.heap.size) (c9:w'.cell? ⟨g,9,none⟩=some (.slice A3 q.strokes.length k3))=>spec_l02Ok_c w' c9 hg q0 hp.i hp.j);have HT:Hid (∀ w',Calls Tryz.prog 61 #[.int .i64 q.time,.int .i64 0,.int .i64 3600000] w' fun e w''=>e=.returned (.bool (inR q.time 0 3600000))∧w''=w'):=fun w'=>(spec_inR_c q.time 0 3600000 w').mono fun _ _ ⟨h1,h2⟩=>⟨h1,h2.symm⟩
 have HW:=Lib.hid (fun w' (q0:(strs 9).rep o w' q.words [.slice A5 q.words.length k5] F5)=>spec_l18Plain_c w' q0 hp.w hb.w);have bb:Below w.heap.size w w:=Below.refl _ _;obtain ⟨d1,hd1⟩:∃ d,Hid (d=setupB q.setup):=⟨_,rfl⟩
 obtain ⟨d2,hd2⟩:∃ d,Hid (d=inkB q.strokes):=⟨_,rfl⟩
 obtain ⟨d3,hd3⟩:∃ d,Hid (d=inR q.time 0 3600000):=⟨_,rfl⟩
 rw [← hd1.out] at HS;rw [← hd2.out] at HI;rw [← hd3.out] at HT
 go_enter Tryz.func26,Tryz.ntmps26
 go_wp2_with fail
 replace R:=R.drew;have hS:(fun w':World=>w'.cell? ⟨g,9,none⟩=some (.slice A3 q.strokes.length k3)∧w'.cell? ⟨g,11,none⟩=some (.int .i64 q.time)) w.drew:=⟨R.cell' (i:=9) rfl,R.cell' (i:=11) rfl⟩
 dsimp only at hS;refine wp_region_held_drew (S:=(fun w':World=>w'.cell? ⟨g,9,none⟩=some (.slice A3 q.strokes.length k3)∧w'.cell? ⟨g,11,none⟩=some (.int .i64 q.time))) (by kernel_rfl) hS (fun _=>?_);replace bb:=bb.drew;replace h0:=h0.drew;replace h1:=h1.drew;replace h2:=h2.drew;replace h3:=h3.drew;replace h4:=h4.drew;replace h5:=h5.drew;refine tJ 0 hS ?_;refine tJ 1 hS ?_;refine tJ 2 hS ?_;refine rJ 3 fun K hK=>?_
 refine step_call 59 #[.tmp 6] _ rfl rfl #[.pointer (some ⟨g,0,none⟩)] Tryz.call59 (by go_simp) (HS.out _ h0 h1 h2 R.lt (R.c0) (R.c1) (R.c2) (R.c3) (R.c4) (R.c5) (R.cell' (i:=6) rfl) (R.cell' (i:=7) rfl) (R.cell' (i:=8) rfl)) ?_;rintro e w1 ⟨rfl,b1⟩;refine ⟨_,rfl,?_⟩;replace R:=R.later b1;replace bb:=bb.trans (b1.mono bb.size);replace h0:=h0.below b1;replace h1:=h1.below b1;replace h2:=h2.below b1;replace h3:=h3.below b1;replace h4:=h4.below b1;replace h5:=h5.below b1;replace hS:(fun w':World=>w'.cell? ⟨g,9,none⟩=some (.slice A3 q.strokes.length k3)∧w'.cell? ⟨g,11,none⟩=some (.int .i64 q.time)) w1:=⟨R.cell' (i:=9) rfl,R.cell' (i:=11) rfl⟩
 dsimp only at hS;refine bJ hK hS ?_;clear hK K;simp only [Act.put,pA,pB,pC];cases d1
 · skip
   have HF:=Lib.hid (sessB_setup hd1.out.symm);refine tJ 4 hS ?_;refine tJ 5 hS ?_;refine tJ0 6 hS ?_;refine tJ0 7 hS ?_;refine tJ0 8 hS ?_;refine tJ0 9 hS ?_;refine tJ0 10 hS ?_;refine tJ 11 hS ?_;refine tJ 12 hS ?_;refine tJ0 13 hS ?_;refine tJ0 14 hS ?_;refine tJ0 15 hS ?_;refine tJ0 16 hS ?_;refine tJ0 17 hS ?_;refine tJ0 18 hS ?_;refine tJ 19 hS ?_;refine tJ 20 hS ?_;refine tJ0 21 hS ?_;refine tJ0 22 hS ?_;refine tJ0 23 hS ?_;refine tJ0 24 hS ?_;refine tJ0 25 hS ?_;refine tJ0 26 hS ?_;refine tJ0 27 hS ?_;refine tJ0 28 hS ?_;refine tJ0 29 hS ?_;refine tJ 30 hS ?_;refine wpAnyH_done (by kernel_rfl) ?_ _
   go_wp2_with fail
   go_ret;exact ⟨ret_boolI HF.out.symm,bb⟩
 refine tJ 4 hS ?_;refine tJ 5 hS ?_;refine tJ 6 hS ?_;refine tJ 7 hS ?_;refine tJ 8 hS ?_;refine rJ 9 fun K hK=>?_
 refine step_call 60 #[.tmp 12] _ rfl rfl #[.pointer (some ⟨g,9,none⟩)] Tryz.call60 (by go_simp) (HI.out _ h3 R.lt (R.cell' (i:=9) rfl)) ?_;rintro e w2 ⟨rfl,b2⟩;refine ⟨_,rfl,?_⟩;replace R:=R.later b2;replace bb:=bb.trans (b2.mono bb.size);replace h0:=h0.below b2;replace h1:=h1.below b2;replace h2:=h2.below b2;replace h3:=h3.below b2;replace h4:=h4.below b2;replace h5:=h5.below b2;replace hS:(fun w':World=>w'.cell? ⟨g,9,none⟩=some (.slice A3 q.strokes.length k3)∧w'.cell? ⟨g,11,none⟩=some (.int .i64 q.time)) w2:=⟨R.cell' (i:=9) rfl,R.cell' (i:=11) rfl⟩
 dsimp only at hS;refine bJ hK hS ?_;clear hK K;simp only [Act.put,pA,pB,pC];cases d2
 · skip
   have HF:=Lib.hid (sessB_ink hd2.out.symm);refine tJ 10 hS ?_;refine tJ 11 hS ?_;refine tJ 12 hS ?_;refine tJ0 13 hS ?_;refine tJ0 14 hS ?_;refine tJ0 15 hS ?_;refine tJ0 16 hS ?_;refine tJ0 17 hS ?_;refine tJ0 18 hS ?_;refine tJ 19 hS ?_;refine tJ 20 hS ?_;refine tJ0 21 hS ?_;refine tJ0 22 hS ?_;refine tJ0 23 hS ?_;refine tJ0 24 hS ?_;refine tJ0 25 hS ?_;refine tJ0 26 hS ?_;refine tJ0 27 hS ?_;refine tJ0 28 hS ?_;refine tJ0 29 hS ?_;refine tJ 30 hS ?_;refine wpAnyH_done (by kernel_rfl) ?_ _
   go_wp2_with fail
   go_ret;exact ⟨ret_boolI HF.out.symm,bb⟩
 have HE:Hid (∀ w',(pStrokes I.pt I.st).rep o w' q.strokes [.slice A3 q.strokes.length k3] F3→w'.cell? ⟨g,9,none⟩=some (.slice A3 q.strokes.length k3)→Calls Tryz.prog 62 #[.pointer (some ⟨g,9,none⟩)] w' fun e w''=>e=.returned (.int .i64 (inkEndI q.strokes))∧Below w'.heap.size w' w''):=fun w' q0 c9=>(spec_l26End_c w' c9 q0 hp.j hd2.out.symm).mono fun _ _ ⟨h1,n,h2⟩=>⟨h1,h2 ▸ below_drewN (Below.refl _ _) n⟩
 refine tJ 10 hS ?_;refine tJ 11 hS ?_;refine tJ 12 hS ?_;refine tJ 13 hS ?_;refine tJ 14 hS ?_;refine tJ 15 hS ?_;refine tJ 16 hS ?_;refine rJ 17 fun K hK=>?_
 refine step_call 61 #[.tmp 20,.const (.int .i64 0),.const (.int .i64 3600000)] _ rfl rfl #[.int .i64 q.time,.int .i64 0,.int .i64 3600000] Tryz.call61 (by go_simp) (HT.out _) ?_;rintro e w3 ⟨rfl,rfl⟩;refine ⟨_,rfl,?_⟩;refine bJ hK hS ?_;clear hK K;simp only [Act.put,pA,pB,pC];cases d3
 · skip
   have HF:=Lib.hid (sessB_time hd3.out.symm);refine tJ 18 hS ?_;refine tJ 19 hS ?_;refine tJ 20 hS ?_;refine tJ0 21 hS ?_;refine tJ0 22 hS ?_;refine tJ0 23 hS ?_;refine tJ0 24 hS ?_;refine tJ0 25 hS ?_;refine tJ0 26 hS ?_;refine tJ0 27 hS ?_;refine tJ0 28 hS ?_;refine tJ0 29 hS ?_;refine tJ 30 hS ?_;refine wpAnyH_done (by kernel_rfl) ?_ _
   go_wp2_with fail
   go_ret;exact ⟨ret_boolI HF.out.symm,bb⟩
 refine tJ 18 hS ?_;refine tJ 19 hS ?_;refine tJ 20 hS ?_;refine tJ 21 hS ?_;refine tJ 22 hS ?_;refine tJ 23 hS ?_;refine tJ 25 hS ?_;refine tJ 26 hS ?_;refine tJ 27 hS ?_;refine tJ 28 hS ?_;refine rJ 24 fun K hK=>?_
 refine step_call 62 #[.tmp 27] _ rfl rfl #[.pointer (some ⟨g,9,none⟩)] Tryz.call62 (by go_simp) (HE.out _ h3 (R.cell' (i:=9) rfl)) ?_;rintro e w4 ⟨rfl,b4⟩;refine ⟨_,rfl,?_⟩;replace R:=R.later b4;replace bb:=bb.trans (b4.mono bb.size);replace h0:=h0.below b4;replace h1:=h1.below b4;replace h2:=h2.below b4;replace h3:=h3.below b4;replace h4:=h4.below b4;replace h5:=h5.below b4;replace hS:(fun w':World=>w'.cell? ⟨g,9,none⟩=some (.slice A3 q.strokes.length k3)∧w'.cell? ⟨g,11,none⟩=some (.int .i64 q.time)) w4:=⟨R.cell' (i:=9) rfl,R.cell' (i:=11) rfl⟩
 dsimp only at hS;refine bJ hK hS ?_;clear hK K;simp only [Act.put,pA,pB,pC]
 by_cases he:inkEndI q.strokes≤q.time
 case neg =>
  have HF:=Lib.hid (sessB_end he);have ge:(q.time < inkEndI q.strokes)=True:=eq_true (by omega);clear he;refine tJ 29 hS ?_;refine tJ 30 hS ?_;refine wpAnyH_done (by kernel_rfl) ?_ _
  go_wp2_with fail
  go_ret;exact ⟨ret_boolI HF.out.symm,bb⟩
 have ge:(q.time < inkEndI q.strokes)=False:=eq_false (by omega);have hok4:=Lib.hid he;clear he;refine tJ 29 hS ?_;refine tJ 30 hS ?_;refine wpAnyH_done (by kernel_rfl) ?_ _;have hok1:=Lib.hid hd1.out.symm;have hok2:=Lib.hid hd2.out.symm;have hok3:=Lib.hid hd3.out.symm;clear hd1 hd2 hd3;have x2:=R.cell' (i:=10) rfl
 by_cases hz:q.opn.length=0
 · have g0:(0 < q.opn.length)=False:=eq_false (by omega)
   have hop:Hid (openB q=true):=by show _=_; simp [openB,hz]
   clear hz;have hrest:=Lib.hid (sessB_rest (q:=q) hok1.out hok2.out hok3.out hok4.out hop.out);have x4:=R.cell' (i:=12) rfl;generalize hd:q.words.all isWordB=d at HW hrest;clear hd;cases d
   · have HF:Hid (sessB q=false):=by show _=_; rw [hrest.out,Bool.false_and]
     clear hrest
     go_wp2_with fail
     refine (HW.out _ h5).mono ?_;rintro e w9 ⟨rfl,rfl⟩
     go_wp2_with fail
     go_ret;exact ⟨ret_boolI HF.out.symm,bb⟩
   · by_cases h60:q.words.length≤60
     · have g6:((q.words.length:Int)≤60)=True:=eq_true (by omega)
       have HF:Hid (sessB q=true):=by show _=_; rw [hrest.out,decide_eq_true h60]; rfl
       clear h60 hrest
       go_wp2_with fail
       refine (HW.out _ h5).mono ?_;rintro e w9 ⟨rfl,rfl⟩
       go_wp2_with fail
       go_ret;exact ⟨ret_boolI HF.out.symm,bb⟩
     · have g6:((q.words.length:Int)≤60)=False:=eq_false (by omega)
       have HF:Hid (sessB q=false):=by show _=_; rw [hrest.out,decide_eq_false h60]; rfl
       clear h60 hrest
       go_wp2_with fail
       refine (HW.out _ h5).mono ?_;rintro e w9 ⟨rfl,rfl⟩
       go_wp2_with fail
       go_ret;exact ⟨ret_boolI HF.out.symm,bb⟩
 have hzp:0 < q.opn.length:=by omega
 have g0:(0 < q.opn.length)=True:=eq_true hzp;have hob:openB q=(strokeB q.opn && (decide (inkEndI q.strokes < (pt q.opn 0).t) && decide (lastT q.opn≤q.time))):=by rw [show lastT q.opn=(pt q.opn (q.opn.length - 1)).t from rfl]; simp [openB,hz]
 have hp0:(pt q.opn 0).t=q.opn[0].t:=by rw [pt_get hzp]
 rw [hp0] at hob;obtain ⟨_,_,hv4,_,_,ho⟩:=pPoints_open h4;obtain ⟨bo,oo,ho1,nbo,_,_,_,po,_⟩:=ho 0 hzp;simp only [Value.slice.injEq] at hv4;obtain ⟨hv4,-,-⟩:=hv4;subst hv4;subst ho1;clear ho;simp only [Nat.zero_mul,Nat.add_zero] at po;obtain ⟨d5,hd5⟩:∃ d,Hid (d=strokeB q.opn):=⟨_,rfl⟩
 have HV:=Lib.hid (fun w' (q0:(pPoints I.pt).rep o w' q.opn [.slice (some ⟨bo,oo,none⟩) q.opn.length k4] F4) (c0:w'.cell? ⟨w4.heap.size,0,none⟩=some (.slice (some ⟨bo,oo,none⟩) q.opn.length k4)) (hg:w4.heap.size < w'.heap.size)=>spec_l02Stroke_c w' c0 hg q0 hp.o);rw [← hd5.out] at HV;have HLO:Hid (∀ w',(pPoints I.pt).rep o w' q.opn [.slice (some ⟨bo,oo,none⟩) q.opn.length k4] F4→w'.cell? ⟨w4.heap.size,0,none⟩=some (.slice (some ⟨bo,oo,none⟩) q.opn.length k4)→Calls Tryz.prog 64 #[.pointer (some ⟨w4.heap.size,0,none⟩)] w' fun e w''=>e=.returned (.int .i64 (lastT q.opn))∧Below w'.heap.size w' w''):=fun w' q0 c0=>(spec_l02Last_c w' c0 q0 hzp hp.o).mono fun _ _ ⟨h1,n,h2⟩=>⟨h1,h2 ▸ below_drewN (Below.refl _ _) n⟩
 have hi0:(0:Int) < (q.opn.length:Int):=by omega
 clear hz hp0
 go_upto_region 5 with fail
 clear x2;replace po:=(((Below.refl _ _).alloc (Nat.le_refl _) (.cells #[.slice (some ⟨bo,oo,none⟩) q.opn.length k4] 124)).cell (p:=⟨_,_,none⟩) nbo).trans po;replace nbo:bo < (w4.alloc (.cells #[.slice (some ⟨bo,oo,none⟩) q.opn.length k4] 124)).drew.heap.size:=by simp; omega
 replace R:=R.alloc (.cells #[.slice (some ⟨bo,oo,none⟩) q.opn.length k4] 124);have Q:=Row.new w4 124 #[.slice (some ⟨bo,oo,none⟩) q.opn.length k4];replace bb:=bb.alloc bb.size (.cells #[.slice (some ⟨bo,oo,none⟩) q.opn.length k4] 124);replace h0:=h0.alloc (.cells #[.slice (some ⟨bo,oo,none⟩) q.opn.length k4] 124);replace h1:=h1.alloc (.cells #[.slice (some ⟨bo,oo,none⟩) q.opn.length k4] 124);replace h2:=h2.alloc (.cells #[.slice (some ⟨bo,oo,none⟩) q.opn.length k4] 124);replace h3:=h3.alloc (.cells #[.slice (some ⟨bo,oo,none⟩) q.opn.length k4] 124);replace h4:=h4.alloc (.cells #[.slice (some ⟨bo,oo,none⟩) q.opn.length k4] 124);replace h5:=h5.alloc (.cells #[.slice (some ⟨bo,oo,none⟩) q.opn.length k4] 124)
 go_wp2_with fail
 replace R:=R.drew;replace Q:=Q.drew;have hS:(fun w':World=>w'.cell? ⟨g,9,none⟩=some (.slice A3 q.strokes.length k3)∧w'.cell? ⟨g,10,none⟩=some (.slice (some ⟨bo,oo,none⟩) q.opn.length k4)∧w'.cell? ⟨g,11,none⟩=some (.int .i64 q.time)∧w'.cell? ⟨w4.heap.size,0,none⟩=some (.slice (some ⟨bo,oo,none⟩) q.opn.length k4)∧w'.cell? ⟨bo,oo+2,none⟩=some (.int .i64 q.opn[0].t)) (w4.alloc (.cells #[.slice (some ⟨bo,oo,none⟩) q.opn.length k4] 124)).drew:=⟨R.cell' (i:=9) rfl,R.cell' (i:=10) rfl,R.cell' (i:=11) rfl,Q.c0,po⟩
 dsimp only at hS;refine wp_region_held_drew (S:=(fun w':World=>w'.cell? ⟨g,9,none⟩=some (.slice A3 q.strokes.length k3)∧w'.cell? ⟨g,10,none⟩=some (.slice (some ⟨bo,oo,none⟩) q.opn.length k4)∧w'.cell? ⟨g,11,none⟩=some (.int .i64 q.time)∧w'.cell? ⟨w4.heap.size,0,none⟩=some (.slice (some ⟨bo,oo,none⟩) q.opn.length k4)∧w'.cell? ⟨bo,oo+2,none⟩=some (.int .i64 q.opn[0].t))) (by kernel_rfl) hS (fun _=>?_);replace bb:=bb.drew;replace h0:=h0.drew;replace h1:=h1.drew;replace h2:=h2.drew;replace h3:=h3.drew;replace h4:=h4.drew;replace h5:=h5.drew;refine rJ 0 fun K hK=>?_
 refine step_call 63 #[.tmp 3] _ rfl rfl #[.pointer (some ⟨w4.heap.size,0,none⟩)] Tryz.call63 (by go_simp) (HV.out _ h4 (Q.c0) Q.lt) ?_;rintro e w5 ⟨rfl,b5⟩;refine ⟨_,rfl,?_⟩;replace R:=R.later b5;replace Q:=Q.later b5;replace po:=(b5.cell (p:=⟨_,_,none⟩) nbo).trans po;replace nbo:=Nat.lt_of_lt_of_le nbo b5.size;replace bb:=bb.trans (b5.mono bb.size);replace h0:=h0.below b5;replace h1:=h1.below b5;replace h2:=h2.below b5;replace h3:=h3.below b5;replace h4:=h4.below b5;replace h5:=h5.below b5;replace hS:(fun w':World=>w'.cell? ⟨g,9,none⟩=some (.slice A3 q.strokes.length k3)∧w'.cell? ⟨g,10,none⟩=some (.slice (some ⟨bo,oo,none⟩) q.opn.length k4)∧w'.cell? ⟨g,11,none⟩=some (.int .i64 q.time)∧w'.cell? ⟨w4.heap.size,0,none⟩=some (.slice (some ⟨bo,oo,none⟩) q.opn.length k4)∧w'.cell? ⟨bo,oo+2,none⟩=some (.int .i64 q.opn[0].t)) w5:=⟨R.cell' (i:=9) rfl,R.cell' (i:=10) rfl,R.cell' (i:=11) rfl,Q.c0,po⟩
 dsimp only at hS;refine bJ hK hS ?_;clear hK K;simp only [Act.put,pA,pB,pC];cases d5
 · skip
   have HF:=Lib.hid (sessB_open (by rw [hob,← hd5.out]; rfl));refine tJ 1 hS ?_;refine tJ 2 hS ?_;refine tJ0 3 hS ?_;refine tJ0 4 hS ?_;refine tJ0 5 hS ?_;refine tJ0 6 hS ?_;refine tJ0 7 hS ?_;refine tJ0 8 hS ?_;refine tJ0 9 hS ?_;refine tJ0 10 hS ?_;refine tJ0 11 hS ?_;refine tJ0 12 hS ?_;refine tJ0 13 hS ?_;refine tJ0 14 hS ?_;refine tJ 15 hS ?_;refine tJ 16 hS ?_;refine tJ0 17 hS ?_;refine tJ0 18 hS ?_;refine tJ0 19 hS ?_;refine tJ0 20 hS ?_;refine tJ0 21 hS ?_;refine tJ0 22 hS ?_;refine tJ 23 hS ?_;refine wpAnyH_done (by kernel_rfl) ?_ _
   go_wp2_with fail
   go_ret;exact ⟨ret_boolI HF.out.symm,bb⟩
 refine tJ 1 hS ?_;refine tJ 2 hS ?_;refine tJ 3 hS ?_;refine tJ 4 hS ?_;refine tJ 5 hS ?_;refine tJ 6 hS ?_;refine tJ 7 hS ?_;refine tJ 8 hS ?_;refine tJ 9 hS ?_;refine tJ 10 hS ?_;refine tJ 11 hS ?_;refine tJ 12 hS ?_;refine rJ 13 fun K hK=>?_
 refine step_call 62 #[.tmp 58] _ rfl rfl #[.pointer (some ⟨g,9,none⟩)] Tryz.call62 (by go_simp) (HE.out _ h3 (R.cell' (i:=9) rfl)) ?_;rintro e w6 ⟨rfl,b6⟩;refine ⟨_,rfl,?_⟩;replace R:=R.later b6;replace Q:=Q.later b6;replace po:=(b6.cell (p:=⟨_,_,none⟩) nbo).trans po;replace nbo:=Nat.lt_of_lt_of_le nbo b6.size;replace bb:=bb.trans (b6.mono bb.size);replace h0:=h0.below b6;replace h1:=h1.below b6;replace h2:=h2.below b6;replace h3:=h3.below b6;replace h4:=h4.below b6;replace h5:=h5.below b6;replace hS:(fun w':World=>w'.cell? ⟨g,9,none⟩=some (.slice A3 q.strokes.length k3)∧w'.cell? ⟨g,10,none⟩=some (.slice (some ⟨bo,oo,none⟩) q.opn.length k4)∧w'.cell? ⟨g,11,none⟩=some (.int .i64 q.time)∧w'.cell? ⟨w4.heap.size,0,none⟩=some (.slice (some ⟨bo,oo,none⟩) q.opn.length k4)∧w'.cell? ⟨bo,oo+2,none⟩=some (.int .i64 q.opn[0].t)) w6:=⟨R.cell' (i:=9) rfl,R.cell' (i:=10) rfl,R.cell' (i:=11) rfl,Q.c0,po⟩
 dsimp only at hS;refine bJ hK hS ?_;clear hK K;simp only [Act.put,pA,pB,pC]
 by_cases hfi:inkEndI q.strokes < q.opn[0].t
 case neg =>
  have HF:=Lib.hid (sessB_open (by rw [hob,decide_eq_false hfi,Bool.false_and,Bool.and_false]));have gf:(q.opn[0].t≤inkEndI q.strokes)=True:=eq_true (by omega);clear hfi;refine tJ 14 hS ?_;refine tJ 15 hS ?_;refine tJ 16 hS ?_;refine tJ0 17 hS ?_;refine tJ0 18 hS ?_;refine tJ0 19 hS ?_;refine tJ0 20 hS ?_;refine tJ0 21 hS ?_;refine tJ0 22 hS ?_;refine tJ 23 hS ?_;refine wpAnyH_done (by kernel_rfl) ?_ _
  go_wp2_with fail
  go_ret;exact ⟨ret_boolI HF.out.symm,bb⟩
 have gf:(q.opn[0].t≤inkEndI q.strokes)=False:=eq_false (by omega);refine tJ 14 hS ?_;refine tJ 15 hS ?_;refine tJ 16 hS ?_;refine tJ 18 hS ?_;refine tJ 19 hS ?_;refine tJ 20 hS ?_;refine tJ 21 hS ?_;refine rJ 17 fun K hK=>?_
 refine step_call 64 #[.tmp 3] _ rfl rfl #[.pointer (some ⟨w4.heap.size,0,none⟩)] Tryz.call64 (by go_simp) (HLO.out _ h4 (Q.c0)) ?_;rintro e w7 ⟨rfl,b7⟩;refine ⟨_,rfl,?_⟩;replace R:=R.later b7;replace Q:=Q.later b7;replace po:=(b7.cell (p:=⟨_,_,none⟩) nbo).trans po;replace nbo:=Nat.lt_of_lt_of_le nbo b7.size;replace bb:=bb.trans (b7.mono bb.size);replace h0:=h0.below b7;replace h1:=h1.below b7;replace h2:=h2.below b7;replace h3:=h3.below b7;replace h4:=h4.below b7;replace h5:=h5.below b7;replace hS:(fun w':World=>w'.cell? ⟨g,9,none⟩=some (.slice A3 q.strokes.length k3)∧w'.cell? ⟨g,10,none⟩=some (.slice (some ⟨bo,oo,none⟩) q.opn.length k4)∧w'.cell? ⟨g,11,none⟩=some (.int .i64 q.time)∧w'.cell? ⟨w4.heap.size,0,none⟩=some (.slice (some ⟨bo,oo,none⟩) q.opn.length k4)∧w'.cell? ⟨bo,oo+2,none⟩=some (.int .i64 q.opn[0].t)) w7:=⟨R.cell' (i:=9) rfl,R.cell' (i:=10) rfl,R.cell' (i:=11) rfl,Q.c0,po⟩
 dsimp only at hS;refine bJ hK hS ?_;clear hK K;simp only [Act.put,pA,pB,pC]
 by_cases hla:lastT q.opn≤q.time
 case neg =>
  have HF:=Lib.hid (sessB_open (by rw [hob,decide_eq_false hla,Bool.and_false,Bool.and_false]));have gl:(q.time < lastT q.opn)=True:=eq_true (by omega);clear hla;refine tJ 22 hS ?_;refine tJ 23 hS ?_;refine wpAnyH_done (by kernel_rfl) ?_ _
  go_wp2_with fail
  go_ret;exact ⟨ret_boolI HF.out.symm,bb⟩
 have gl:(q.time < lastT q.opn)=False:=eq_false (by omega);have hop:Hid (openB q=true):=by show _=_; rw [hob,← hd5.out,decide_eq_true hfi,decide_eq_true hla]; rfl
 clear hfi hla;refine tJ 22 hS ?_;refine tJ 23 hS ?_;refine wpAnyH_done (by kernel_rfl) ?_ _;have hrest:=Lib.hid (sessB_rest (q:=q) hok1.out hok2.out hok3.out hok4.out hop.out);have x4:=R.cell' (i:=12) rfl;generalize hd:q.words.all isWordB=d at HW hrest;clear hd;cases d
 · have HF:Hid (sessB q=false):=by show _=_; rw [hrest.out,Bool.false_and]
   clear hrest
   go_wp2_with fail
   refine (HW.out _ h5).mono ?_;rintro e w9 ⟨rfl,rfl⟩
   go_wp2_with fail
   go_ret;exact ⟨ret_boolI HF.out.symm,bb⟩
 · by_cases h60:q.words.length≤60
   · have g6:((q.words.length:Int)≤60)=True:=eq_true (by omega)
     have HF:Hid (sessB q=true):=by show _=_; rw [hrest.out,decide_eq_true h60]; rfl
     clear h60 hrest
     go_wp2_with fail
     refine (HW.out _ h5).mono ?_;rintro e w9 ⟨rfl,rfl⟩
     go_wp2_with fail
     go_ret;exact ⟨ret_boolI HF.out.symm,bb⟩
   · have g6:((q.words.length:Int)≤60)=False:=eq_false (by omega)
     have HF:Hid (sessB q=false):=by show _=_; rw [hrest.out,decide_eq_false h60]; rfl
     clear h60 hrest
     go_wp2_with fail
     refine (HW.out _ h5).mono ?_;rintro e w9 ⟨rfl,rfl⟩
     go_wp2_with fail
     go_ret;exact ⟨ret_boolI HF.out.symm,bb⟩
end Go.Proofs.YtalmeogjhmblhaaGreat

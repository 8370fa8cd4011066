/- The word that the ink of a session is, in the reference: the walk. Conditions: none. -/
import Derived.Test.YtafgknkcjohjeaaGreatDoorTke
import Derived.Test.YtafgknkcjohjeaaGreatDoorRzQe
namespace Go.Proofs.YtafgknkcjohjeaaGreatDoor
open Go Go.RowKit
set_option maxRecDepth 100000 in
set_option maxHeartbeats 8000000 in
theorem spec_l26Word_c {o:Bool} {ft tm en bg pe st se:TypeId} {q:PSess} {A0 A1 A2 A3 A4 A5:Option Addr} {k0 k1 k2 k3 k4 k5:Nat} {F0 F1 F2 F3 F5:List Nat} {g:Nat} {T:TypeId} {more:List Value} (w:World) (R:Row w g T ([.int .i64 q.setup.band,.slice A0 q.setup.temps.length k0,.int .i64 q.setup.points,.int .i64 q.setup.most,.int .i64 q.setup.pen,.slice A1 q.setup.entries.length k1,.int .i64 q.setup.dflt,.slice A2 q.setup.bigrams.length k2,.int .i64 q.setup.pause,.slice A3 q.strokes.length k3,.slice A4 q.opn.length k4,.int .i64 q.time,.slice A5 q.words.length k5]++more))
 (h0:(pTemps ft tm).rep o w q.setup.temps [.slice A0 q.setup.temps.length k0] F0) (h1:(pEntrys en).rep o w q.setup.entries [.slice A1 q.setup.entries.length k1] F1) (h2:(pBigrams bg).rep o w q.setup.bigrams [.slice A2 q.setup.bigrams.length k2] F2) (h3:(pStrokes pe st).rep o w q.strokes [.slice A3 q.strokes.length k3] F3) (h5:(strs se).rep o w q.words [.slice A5 q.words.length k5] F5) (hb:sessB q=true) :
 Calls Tryz.prog 43 #[.pointer (some ⟨g,0,none⟩)] w fun e w'=>e=.returned (.tuple #[.string (readZ q).1,.int .i64 (readZ q).2.1,.int .i64 (readZ q).2.2])∧Below w.heap.size w w':=by
 have hp:setupB q.setup=true:=by simp only [sessB,Bool.and_eq_true] at hb; exact hb.1
 have hi:inkB q.strokes=true:=by simp only [sessB,Bool.and_eq_true] at hb; exact hb.2.1
 have h16:q.strokes.length≤16:=by simp only [inkB,Bool.and_eq_true,decide_eq_true_iff] at hi; exact hi.2
 have hwl:q.words.length≤60:=by simp only [sessB,Bool.and_eq_true,decide_eq_true_iff] at hb; exact hb.2.2.2.2.2.2
 have hbl:q.setup.bigrams.length≤100000:=by have:=(setup_parts hp).2.2.2.2.2.2.2.1; simp only [modelB,Bool.and_eq_true,decide_eq_true_iff] at this; omega
 have hst:∀ s∈q.strokes,strokeB s=true:=fun s hs=>by
  obtain ⟨k,hk,rfl⟩:=List.getElem_of_mem hs;exact inkB_stroke hi hk
 have x9:=R.cell' (i:=9) rfl;rcases Nat.eq_zero_or_pos q.strokes.length with hn | hn
 · have g0:((q.strokes.length:Int) == 0)=true:=by simp [hn]
   have g1:(q.strokes.length == 0)=true:=by simp [hn]
   have HR:=Lib.hid (show readZ q=(.empty,0,6) by rw [readZ,if_pos hn]);clear h0 h1 h2 h3 h5 hn
   go_enter Tryz.func43,Tryz.ntmps43
   go_wp2_with fail
   refine bodyPost_ret (v:=.tuple #[.string ⟨#[]⟩,.int .i64 0,.int .i64 6]) (by simp only [results,Tryz.results43]; go_simp) rfl ?_;exact ⟨by rw [HR.out]; rfl,Below.refl _ _⟩
 · have g0:((q.strokes.length:Int) == 0)=false:=by rw [beq_eq_false_iff_ne]; omega
   have g1:(q.strokes.length == 0)=false:=by rw [beq_eq_false_iff_ne]; omega
   have HRW:=Lib.hid (fun (w':World) (b:Below w.heap.size w w')=>R.below b R.lt);have CL:=Lib.hid (fun (wr:World) (b:Below w.heap.size w wr)=>have R':=R.below b R.lt; spec_l15Of_c (p:=q.setup) (xs:=q.strokes) (gS:=g) (oS:=0) (gX:=g) (oX:=9) (gT:=g) (oT:=2) wr R'.lt R'.lt R'.lt (R'.c0) (R'.c1) (R'.cell' (i:=9) rfl) (R'.c2) (R'.c3) (R'.c4) (h0.below b) (h3.below b) hp hi hst h16);have CP:=Lib.hid (fun (wr:World) (b:Below w.heap.size w wr) (x y:ByteArray)=>have R':=R.below b R.lt; spec_l18Pair_c (p:=q.setup) (gM:=g) (oM:=6) x y wr (R'.cell' (i:=6) rfl) (R'.cell' (i:=7) rfl) (h2.below b) hbl);have CA:=Lib.hid (fun (wr:World) (b:Below w.heap.size w wr) (gL:Nat) (AL:Option Addr) (cL:Nat) (FL:List Nat) (lL:gL < wr.heap.size) (y0:wr.cell? ⟨gL,0,none⟩=some (.int .i64 ((q.strokes.length:Int)+1))) (y1:wr.cell? ⟨gL,1,none⟩=some (.slice AL (sortedE (edgesZ q.setup q.strokes)).length cL)) (re:(pEdge.slice 171).rep true wr (sortedE (edgesZ q.setup q.strokes)) [.slice AL (sortedE (edgesZ q.setup q.strokes)).length cL] FL) (hfew:(edgesZ q.setup q.strokes).length≤200)=>have R':=R.below b R.lt; spec_l16All_c (gL:=gL) (oL:=0) (gE:=g) (oE:=5) (N:=q.strokes.length+1) wr lL R'.lt y0 y1 (R'.c5) re (h1.below b) (by omega) (setup_parts hp).2.2.2.2.2.2.1 (by rw [sortedE_len]; omega) (edges_fit hp hi));have HFK:=Lib.hid (show foundK q.setup.entries (sortedE (edgesZ q.setup q.strokes)) (q.strokes.length+1 - 1) q.setup.entries.length=foundZ q.setup (edgesZ q.setup q.strokes) q.strokes.length by rw [found_perm (sortedE_perm _),foundK_all,Nat.add_sub_cancel]);rw [HFK.out] at CA;have HSMALL:=Lib.hid (found_small hb);have H5:=Lib.hid h5;have BZ:=Lib.hid (Below.refl w.heap.size w);clear h0 h1 h2 h3 h5 hst
   go_enter Tryz.func43,Tryz.ntmps43
   go_upto_region 3 with fail
   have hS:(fun w':World=>w'.cell? ⟨g,0,none⟩=some (.int .i64 q.setup.band)) w.drew:=R.drew.c0;refine wp_region_held_drew (S:=(fun w':World=>w'.cell? ⟨g,0,none⟩=some (.int .i64 q.setup.band))) (by kernel_rfl) hS (fun _=>?_);replace BZ:=Lib.hid BZ.out.drew;have HSX:=Lib.hid (fun (w':World) (b:Below w.heap.size w w')=>show (fun w':World=>w'.cell? ⟨g,0,none⟩=some (.int .i64 q.setup.band)) w' from (R.below b R.lt).c0);clear x9 R;generalize hwe:w.drew=we at BZ hS ⊢;have HSZ:=Lib.hid (show we.heap.size=w.heap.size by rw [← hwe]; rfl);clear hwe;refine tJ 0 hS ?_;refine tJ 1 hS ?_;refine tJ 2 hS ?_;refine tJ 3 hS ?_;refine tJ 4 hS ?_;refine tJ 5 hS ?_;refine tJ 6 hS ?_;refine tJ 7 hS ?_;refine tJ 8 hS ?_;refine tJ 9 hS ?_;refine tJ 10 hS ?_;refine rJ2 11 12 (fun K hK=>?ga) (fun K hK=>?gb)
   case' ga =>
    refine step_call 55 #[.tmp 22,.tmp 25,.tmp 29] _ rfl rfl #[.pointer (some ⟨g,0,none⟩),.pointer (some ⟨g,9,none⟩),.pointer (some ⟨g,2,none⟩)] Tryz.call55 (by go_simp) (CL.out we BZ.out) ?_;rintro e w1 ⟨u1,F1,rfl,r1,f1,b1⟩;refine ⟨_,rfl,?_⟩;obtain ⟨AL,cL,rfl,-,-,-⟩:=pEdges_open r1;have B1:=Lib.hid (BZ.out.trans (b1.mono BZ.out.size));replace hS:=HSX.out w1 B1.out;refine bJ hK hS ?_;clear hK K;simp only [Act.put,pA,pB,pC];refine rJ 12 fun K hK=>?_
    go_simp
    have bA:Below w1.heap.size w1 (w1.alloc (.cells #[.int .i64 0,.slice none 0 0] 120)):=(Below.refl _ _).alloc (Nat.le_refl _) _;replace hS:=HSX.out _ (B1.out.trans (bA.mono B1.out.size));refine bJ hK hS ?_;clear hK K bA;have RL:=Row.new w1 120 #[.int .i64 ((q.strokes.length:Int)+1),.slice AL (sortedE (edgesZ q.setup q.strokes)).length cL];have bF:Below w1.heap.size w1 (w1.alloc (.cells #[.int .i64 ((q.strokes.length:Int)+1),.slice AL (sortedE (edgesZ q.setup q.strokes)).length cL] 120)):=(Below.refl _ _).alloc (Nat.le_refl _) _;refine rJ 13 fun K hK=>?_
    go_simp
    have BF:=Lib.hid (B1.out.trans (bF.mono B1.out.size));replace hS:=HSX.out _ BF.out;refine bJ hK hS ?_;clear hK K hS;refine wpAnyH_done (by kernel_rfl) ?_ _;have RE:=Lib.hid (r1.below bF);have HRL:=Lib.hid RL;generalize w1.alloc (.cells #[.int .i64 ((q.strokes.length:Int)+1),.slice AL (sortedE (edgesZ q.setup q.strokes)).length cL] 120)=wz at RE HRL BF ⊢;clear r1 f1 b1 bF RL B1;generalize w1.heap.size=gL at HRL ⊢
   case' gb =>
    go_simp
    have bA:Below we.heap.size we (we.alloc (.cells #[.int .i64 0,.slice none 0 0] 120)):=(Below.refl _ _).alloc (Nat.le_refl _) _;have RA:=Row.new we 120 #[.int .i64 0,.slice none 0 0];have BA:=Lib.hid (BZ.out.trans (bA.mono BZ.out.size));replace hS:=HSX.out _ BA.out;refine bJ hK hS ?_;clear hK K bA;generalize we.alloc (.cells #[.int .i64 0,.slice none 0 0] 120)=wa at RA BA hS ⊢;refine rJ 11 fun K hK=>?_
    refine step_call 55 #[.tmp 22,.tmp 25,.tmp 29] _ rfl rfl #[.pointer (some ⟨g,0,none⟩),.pointer (some ⟨g,9,none⟩),.pointer (some ⟨g,2,none⟩)] Tryz.call55 (by go_simp) (CL.out wa BA.out) ?_;rintro e w1 ⟨u1,F1,rfl,r1,f1,b1⟩;refine ⟨_,rfl,?_⟩;obtain ⟨AL,cL,rfl,-,-,-⟩:=pEdges_open r1;have B1:=Lib.hid (BA.out.trans (b1.mono BA.out.size));replace hS:=HSX.out w1 B1.out;have RA1:=RA.later b1;have v0:=RA1.c0;have v1:=RA1.c1;have vF:=RA1.frozen;have vF1:=(RA1.set 0 (.int .i64 ((q.strokes.length:Int)+1))).frozen;have hneF:we.heap.size∉F1:=fun hin=>by have:=f1.2 _ hin; have:=RA.lt; omega
    have RL:=(RA1.set 0 (.int .i64 ((q.strokes.length:Int)+1))).set 1 (.slice AL (sortedE (edgesZ q.setup q.strokes)).length cL);have BF:=Lib.hid ((B1.out.setCell (p:=⟨we.heap.size,0,none⟩) (by show w.heap.size≤we.heap.size; rw [HSZ.out]; exact Nat.le_refl _) (.int .i64 ((q.strokes.length:Int)+1))).setCell (p:=⟨we.heap.size,1,none⟩) (by show w.heap.size≤we.heap.size; rw [HSZ.out]; exact Nat.le_refl _) (.slice AL (sortedE (edgesZ q.setup q.strokes)).length cL));have RE:=Lib.hid (Ty.rep.setCell (T:=pEdge.slice 171) (Ty.rep.setCell (T:=pEdge.slice 171) r1 (p:=⟨we.heap.size,0,none⟩) hneF (.int .i64 ((q.strokes.length:Int)+1))) (p:=⟨we.heap.size,1,none⟩) hneF (.slice AL (sortedE (edgesZ q.setup q.strokes)).length cL));refine bJ hK hS ?_;clear hK K;simp only [Act.put,pA,pB,pC];refine rJ 13 fun K hK=>?_
    go_simp
    replace hS:=HSX.out _ BF.out;refine bJ hK hS ?_;clear hK K hS v0 v1 vF vF1;refine wpAnyH_done (by kernel_rfl) ?_ _;have HRL:=Lib.hid RL;generalize (w1.setCell ⟨we.heap.size,0,none⟩ (.int .i64 ((q.strokes.length:Int)+1))).setCell ⟨we.heap.size,1,none⟩ (.slice AL (sortedE (edgesZ q.setup q.strokes)).length cL)=wz at RE HRL BF ⊢;clear r1 f1 b1 RL B1 RA RA1 BA hneF;clear HSZ;generalize we.heap.size=gL at HRL ⊢
   all_goals
    clear BZ CL;have HRL2:Hid (Row wz gL 120 [.int .i64 ((q.strokes.length:Int)+1),.slice AL (sortedE (edgesZ q.setup q.strokes)).length cL]):=HRL;clear HRL;have y1:=HRL2.out.c1;have hsl:=sortedE_len (edgesZ q.setup q.strokes);have hx12:=(HRW.out wz BF.out).cell' (i:=12) rfl
    by_cases hfew:200 < (edgesZ q.setup q.strokes).length
    · have g2:decide (200 < (sortedE (edgesZ q.setup q.strokes)).length)=true:=decide_eq_true (by omega)
      have g3:decide ((200:Int) < ((sortedE (edgesZ q.setup q.strokes)).length:Int))=true:=decide_eq_true (by omega);have HR:=Lib.hid (show readZ q=(.empty,0,5) by rw [readZ,if_neg (by omega),if_pos hfew]);clear hsl
      go_wp2_with fail
      refine bodyPost_ret (v:=.tuple #[.string ⟨#[]⟩,.int .i64 0,.int .i64 5]) (by simp only [results,Tryz.results43]; go_simp) rfl ?_;exact ⟨by rw [HR.out]; rfl,BF.out⟩
    · have g2:decide (200 < (sortedE (edgesZ q.setup q.strokes)).length)=false:=decide_eq_false (by omega)
      have g3:decide ((200:Int) < ((sortedE (edgesZ q.setup q.strokes)).length:Int))=false:=decide_eq_false (by omega);obtain ⟨last,hlast⟩:∃ l,q.words.getLast?.getD .empty=l:=⟨_,rfl⟩
      have HLAST:=Lib.hid hlast;have HR:=Lib.hid (show readZ q=_ by rw [readZ,if_neg (by omega),if_neg hfew,hlast]);have HFEW:=Lib.hid (show (edgesZ q.setup q.strokes).length≤200 by omega);clear hlast hsl hfew
      go_upto_if 40 with fail
      go_cut [6] from 35 to 52 (fun s wx=>s=.string last∧∃ m,wx=wz.drewN m)
      case first =>
       rcases Nat.eq_zero_or_pos q.words.length with hw | hw
       · have g4:decide (0 < q.words.length)=false:=decide_eq_false (by omega)
         have g5:decide ((0:Int) < (q.words.length:Int))=false:=decide_eq_false (by omega);have hle:last=⟨#[]⟩:=by rw [← HLAST.out,List.length_eq_zero_iff.1 hw]; rfl
         go_wp2_with fail
         go_meet
         case rel=>exact ⟨by rw [hle],0,rfl⟩
       · have g4:decide (0 < q.words.length)=true:=decide_eq_true (by omega)
         have g5:decide ((0:Int) < (q.words.length:Int))=true:=decide_eq_true (by omega);obtain ⟨A',c',he,-,-,hr⟩:=strs_open (H5.out.below BF.out);cases he;obtain ⟨j,hj⟩:∃ j,j=q.words.length - 1:=⟨_,rfl⟩
         obtain ⟨bw,ow,rfl,hbw,-,cw,-⟩:=hr j (by omega)
         have hle:q.words[j]'(by omega)=last:=by
          rw [← HLAST.out,List.getLast?_eq_getElem?,List.getElem?_eq_getElem (by omega)];simp [hj]
         rw [hle] at cw;have zj:IntKind.i64.wrap ((q.words.length:Int) - 1)=(j:Int):=(IntWalk.i64_in _ (by omega)).trans (by omega);have gj0:(0:Int)≤(j:Int):=by omega
         have gj1:(j:Int) < (q.words.length:Int):=by omega
         clear hle hr hj
         go_wp2_with fail
         go_quiet (fail)
         go_wp2_with fail
         go_meet
         case rel=>exact ⟨rfl,_,rfl⟩
      case rest =>
       obtain ⟨rfl,m,rfl⟩:=hcut;replace BF:=Lib.hid (below_drewN BF.out m);replace RE:=Lib.hid (RE.out.drewN m);replace HRL2:=Lib.hid (HRL2.out.drewN m);clear y1 hx12;generalize World.drewN wz m=wy at RE HRL2 BF ⊢;have C9:=Lib.hid (CA.out wy BF.out gL AL cL F1 HRL2.out.lt HRL2.out.c0 HRL2.out.c1 RE.out HFEW.out)
       go_wp2_with fail
       refine C9.out.mono ?_;rintro e w2 ⟨vf,Ff,rfl,rf,ff,b2⟩;have B2:=Lib.hid (BF.out.trans (b2.mono BF.out.size));clear C9 b2 ff CA HFK;generalize sortedF (foundZ q.setup (edgesZ q.setup q.strokes) q.strokes.length)=ys at rf HR HSMALL;have RF:=Lib.hid rf;obtain ⟨Ay,cy,rfl,hcy1,hcy2,-⟩:=pFounds_open rf;have hym:ys.length≤9223372036854775807:=by unfold maxLen at hcy2; omega
       clear rf
       go_wp2_with fail
       go_loopw [8,9,10] (fun s l i wr=>∃ k:Nat,s=.string (bestW (bestF q.setup last (ys.take k)))∧l=.int .i64 (bestC (bestF q.setup last (ys.take k)))∧i=.int .i64 k∧k≤ys.length∧Hid (Below w2.heap.size w2 wr)) (fun _ _ i _=>ys.length - (intOf i).toNat)
       case atStart=>exact ⟨0,rfl,rfl,rfl,by omega,Lib.hid (Below.refl _ _)⟩
       case round =>
        obtain ⟨k,rfl,rfl,rfl,hk,hbr⟩:=hrel
        by_cases hlt:k < ys.length
        · have gk:(k:Int) < (ys.length:Int):=by omega
          have gk0:(0:Int)≤(k:Int):=by omega
          have kw:=IntWalk.i64_in ((k:Int)+1) (by omega);obtain ⟨A',c',he,-,-,hr⟩:=pFounds_open (RF.out.below hbr.out);cases he;obtain ⟨gf,off,rfl,hgf,-,c0,c1,c2,-⟩:=hr k hlt;have hsm:=HSMALL.out _ (List.getElem_mem hlt);have HBS:=Lib.hid (bestF_succ q.setup last hlt);have HBW:=Lib.hid (fun x (h:bestF q.setup last (ys.take k)=some x)=>bestF_word (fun f hf=>(HSMALL.out f (List.mem_of_mem_take hf)).2.2.2.2) h);generalize ys[k]=y at c0 c1 c2 hsm HBS;have hpz:=pairZ_pos hp last y.word;have HWR:=Lib.hid (B2.out.trans (hbr.out.mono B2.out.size));have CS:=Lib.hid (fun w=>spec_l16Sum_c (a:=y.word) (p:=y.path) (o:=y.own) ⟨by omega,by omega⟩ w);have CPP:=Lib.hid (fun (w':World) (b:Below wr.heap.size wr w')=>CP.out w' (HWR.out.trans (b.mono HWR.out.size)) last y.word);obtain ⟨pz,hpz2⟩:∃ z,pairZ q.setup last y.word=z:=⟨_,rfl⟩
          rw [hpz2] at hpz CPP;have HPZ:=Lib.hid hpz2;clear hpz2;obtain ⟨sm,hsm2⟩:∃ z,y.path+y.own=z:=⟨_,rfl⟩
          rw [hsm2] at CS;have zc:=IntWalk.i64_in (sm+pz) (by omega);have HSM2:=Lib.hid hsm2;clear hsm2;obtain ⟨m9,hm9⟩:∃ m,bestF q.setup last (ys.take k)=m:=⟨_,rfl⟩
          rw [hm9] at HBS HBW ⊢;have HBW9:=Lib.hid (fun x (h:m9=some x)=>HBW.out x h);have HNX:=Lib.hid (show bestF q.setup last (ys.take (k+1))=bestN y.word (sm+pz) m9 by rw [HBS.out,bestStep_N,HPZ.out,HSM2.out]);clear hm9 HBW HBS;have BR:=Lib.hid ((Below.refl wr.heap.size wr).drew);have HSX3:=Lib.hid (fun (w':World) (b:Below wr.heap.size wr w')=>show (fun w':World=>w'.cell? ⟨gf,off+k * 3,none⟩=some (.string y.word)∧w'.cell? ⟨gf,off+k * 3+1,none⟩=some (.int .i64 y.path)∧w'.cell? ⟨gf,off+k * 3+2,none⟩=some (.int .i64 y.own)) w' from ⟨(b.cell (p:=⟨gf,_,none⟩) hgf).trans c0,(b.cell (p:=⟨gf,_,none⟩) hgf).trans c1,(b.cell (p:=⟨gf,_,none⟩) hgf).trans c2⟩);have hS:=HSX3.out _ BR.out;clear hr c0 c1 c2 hsm hpz
          go_upto_region 15 with fail
          refine wp_region_held_drew (S:=(fun w':World=>w'.cell? ⟨gf,off+k * 3,none⟩=some (.string y.word)∧w'.cell? ⟨gf,off+k * 3+1,none⟩=some (.int .i64 y.path)∧w'.cell? ⟨gf,off+k * 3+2,none⟩=some (.int .i64 y.own))) (by kernel_rfl) hS (fun _=>?_);generalize wr.drew=wd at BR hS ⊢;refine tJ 0 hS ?_;refine tJ 1 hS ?_;refine tJ 2 hS ?_;refine tJ 3 hS ?_;refine tJ 5 hS ?_;refine tJ 6 hS ?_;refine tJ 7 hS ?_;refine tJ 8 hS ?_;refine tJ 9 hS ?_;refine tJ 10 hS ?_;refine tJ 11 hS ?_;refine tJ 12 hS ?_;refine tJ 13 hS ?_;refine tJ 14 hS ?_;refine rJ 4 fun K hK=>?_
          refine step_call 57 #[.tmp 67] _ rfl rfl #[.agg #[.string y.word,.int .i64 y.path,.int .i64 y.own]] Tryz.call57 (by go_simp) (CS.out wd) ?_;rintro e w3 ⟨rfl,b3⟩;refine ⟨_,rfl,?_⟩;replace BR:=Lib.hid (BR.out.trans (b3.mono BR.out.size));replace hS:=HSX3.out _ BR.out;clear b3;refine bJ hK hS ?_;clear hK K;simp only [Act.put,pA,pB,pC];refine rJ 15 fun K hK=>?_
          refine step_call 58 #[.tmp 72,.tmp 73,.tmp 78] _ rfl rfl #[.pointer (some ⟨g,6,none⟩),.string last,.string y.word] Tryz.call58 (by go_simp) (CPP.out w3 BR.out) ?_;rintro e w4 ⟨rfl,hw4⟩;subst hw4;refine ⟨_,rfl,?_⟩;refine bJ hK hS ?_;clear hK K;simp only [Act.put,pA,pB,pC];refine tJ 16 hS ?_;refine tJ 17 hS ?_;refine wpAnyH_done (by kernel_rfl) ?_ _;have HWD:=Lib.hid (hbr.out.trans (BR.out.mono hbr.out.size));have y0:=hS.1;clear hS HSX3 BR;cases m9 with
          | none =>
            simp only [bestW,bestC]
            go_wp2_with fail
            exact ⟨⟨k+1,by rw [HNX.out]; rfl,by rw [HNX.out]; rfl,by go_num,by omega,HWD⟩,by simp [intOf]; omega⟩
          | some x =>
            obtain ⟨xw,xc⟩:=x;have hxw:=HBW9.out _ rfl;have hxn:¬ xw=⟨#[]⟩:=fun h=>by have h2:1≤xw.size:=hxw; rw [h] at h2; exact absurd h2 (by decide)
            have gsA:=(str_neB (a:=xw) (b:=⟨#[]⟩) hxn).1;have gsB:(xw.toList == [])=false:=by rw [beq_eq_false_iff_ne]; exact fun h=>hxn (str_eq_true (a:=xw) (b:=⟨#[]⟩) (by rw [h]; simp))
            have gsC:xw.toList.isEmpty=false:=by
             cases e:xw.toList.isEmpty with
             | false=>rfl
             | true=>rw [List.isEmpty_iff.1 e] at gsB; cases gsB
            simp only [bestW,bestC];clear hxn
            by_cases hless:sm+pz < xc
            · have g8:decide (sm+pz < xc)=true:=decide_eq_true hless
              have HB2:=Lib.hid (show bestN y.word (sm+pz) (some (xw,xc))=some (y.word,sm+pz) from if_pos hless)
              go_wp2_with fail
              exact ⟨⟨k+1,by rw [HNX.out,HB2.out]; rfl,by rw [HNX.out,HB2.out]; rfl,by go_num,by omega,HWD⟩,by simp [intOf]; omega⟩
            · have g8:decide (sm+pz < xc)=false:=decide_eq_false hless
              have HB2:=Lib.hid (show bestN y.word (sm+pz) (some (xw,xc))=some (xw,xc) from if_neg hless)
              go_wp2_with fail
              exact ⟨⟨k+1,by rw [HNX.out,HB2.out]; rfl,by rw [HNX.out,HB2.out]; rfl,by go_num,by omega,HWD⟩,by simp [intOf]; omega⟩
        · obtain rfl:k=ys.length:=by omega
          have gk:¬ (ys.length:Int) < (ys.length:Int):=by omega
          rw [List.take_length];have HB:=Lib.hid (B2.out.trans (hbr.out.mono B2.out.size));have HBW:=Lib.hid (fun x (h:bestF q.setup last ys=some x)=>bestF_word (fun f hf=>(HSMALL.out f hf).2.2.2.2) h);have HR2:=Lib.hid (HR.out);generalize bestF q.setup last ys=m9 at HR2 HBW ⊢;cases m9 with
          | none =>
            simp only [bestW,bestC]
            go_wp2_with fail
            refine bodyPost_ret (v:=.tuple #[.string ⟨#[]⟩,.int .i64 0,.int .i64 3]) (by simp only [results,Tryz.results43]; go_simp) rfl ?_;exact ⟨by rw [HR2.out]; rfl,HB.out⟩
          | some x =>
            obtain ⟨xw,xc⟩:=x;have hxw:=HBW.out _ rfl;have hxn:¬ xw=⟨#[]⟩:=fun h=>by have h2:1≤xw.size:=hxw; rw [h] at h2; exact absurd h2 (by decide)
            have gsA:=(str_neB (a:=xw) (b:=⟨#[]⟩) hxn).1;have gsB:(xw.toList == [])=false:=by rw [beq_eq_false_iff_ne]; exact fun h=>hxn (str_eq_true (a:=xw) (b:=⟨#[]⟩) (by rw [h]; simp))
            have gsC:xw.toList.isEmpty=false:=by
             cases e:xw.toList.isEmpty with
             | false=>rfl
             | true=>rw [List.isEmpty_iff.1 e] at gsB; cases gsB
            simp only [bestW,bestC];clear hxn
            go_wp2_with fail
            refine bodyPost_ret (v:=.tuple #[.string xw,.int .i64 xc,.int .i64 0]) (by simp only [results,Tryz.results43]; go_simp) rfl ?_;exact ⟨by rw [HR2.out],HB.out⟩
end Go.Proofs.YtafgknkcjohjeaaGreatDoor

/- The word that the ink of a session is, in the program. Conditions: none. -/
import Derived.Test.YtalmeogjhmblhaaGreatTkw
import Derived.Test.YtalmeogjhmblhaaGreatRAjw
import Derived.Test.YtalmeogjhmblhaaGreatRAcw
import Derived.Test.YtalmeogjhmblhaaGreatRzYw
import Derived.Test.YtalmeogjhmblhaaGreatRzQw
import Derived.Test.YtalmeogjhmblhaaGreatSsVw
import Derived.Test.YtalmeogjhmblhaaGreatRzUw
import Derived.Test.YtalmeogjhmblhaaGreatSsRw
import Derived.Test.YtalmeogjhmblhaaGreatRows
import Derived.Test.YtalmeogjhmblhaaGreatTyStepw
import Derived.Test.YtalmeogjhmblhaaGreatSeSzw
namespace Go.Proofs.YtalmeogjhmblhaaGreat
open Go Go.RowKit
set_option maxHeartbeats 8000000
set_option maxRecDepth 100000
theorem impl_readWord_c {o:Bool} {ft tm en bg pe st se:TypeId} {q:PSess} {A0 A1 A2 A3 A4 A5:Option Addr} {k0 k1 k2 k3 k4 k5:Nat} {F0 F1 F2 F3 F5:List Nat} (w:World)
 (h0:(pTemps ft tm).rep o w q.setup.temps [.slice A0 q.setup.temps.length k0] F0) (h1:(pEntrys en).rep o w q.setup.entries [.slice A1 q.setup.entries.length k1] F1) (h2:(pBigrams bg).rep o w q.setup.bigrams [.slice A2 q.setup.bigrams.length k2] F2) (h3:(pStrokes pe st).rep o w q.strokes [.slice A3 q.strokes.length k3] F3) (h5:(strs se).rep o w q.words [.slice A5 q.words.length k5] F5) (hb:sessB q=true) (hsm:SeSmall q.setup) (hby:SeBytes q.setup) :
 Calls Tryz.prog 33 #[.agg #[.int .i64 q.setup.band,.slice A0 q.setup.temps.length k0,.int .i64 q.setup.points,.int .i64 q.setup.most,.int .i64 q.setup.pen,.slice A1 q.setup.entries.length k1,.int .i64 q.setup.dflt,.slice A2 q.setup.bigrams.length k2,.int .i64 q.setup.pause,.slice A3 q.strokes.length k3,.slice A4 q.opn.length k4,.int .i64 q.time,.slice A5 q.words.length k5]] w fun e w'=>e=.returned (.tuple #[.string (readZ q).1,.int .i64 (readZ q).2.1,.int .i64 (readZ q).2.2])∧Below w.heap.size w w':=by
 have hp:setupB q.setup=true:=by simp only [sessB,Bool.and_eq_true] at hb; exact hb.1
 have hi:inkB q.strokes=true:=by simp only [sessB,Bool.and_eq_true] at hb; exact hb.2.1
 have h16:q.strokes.length≤16:=by simp only [inkB,Bool.and_eq_true,decide_eq_true_iff] at hi; exact hi.2
 have hwl:q.words.length≤60:=by simp only [sessB,Bool.and_eq_true,decide_eq_true_iff] at hb; exact hb.2.2.2.2.2.2
 have hmo:=(setup_parts hp).2.2.2.2.2.2.2.1;have CL:=Lib.hid (fun (wr:World) (b:Below w.heap.size w wr)=>impl_LatticeOf_c wr (h0.below b) (h3.below b) hp hi hsm hby);have CP:=Lib.hid (fun (wr:World) (b:Below w.heap.size w wr) (x y:ByteArray)=>impl_pairCost_c x y wr (h2.below b) hmo);have CA:=Lib.hid (fun (wr:World) (b:Below w.heap.size w wr) (u:Value) (FL:List Nat) (re:(pEdge.slice 206).rep true wr (sortedE (edgesZ q.setup q.strokes)) [u] FL)=>impl_readable_c (N:=q.strokes.length+1) wr re (h1.below b) (by omega) (setup_parts hp).2.2.2.2.2.2.1 (fun e he=>by have:=edges_fit hp hi e he; omega));have HFK:=Lib.hid (show foundK q.setup.entries (sortedE (edgesZ q.setup q.strokes)) (q.strokes.length+1 - 1) q.setup.entries.length=foundZ q.setup (edgesZ q.setup q.strokes) q.strokes.length by rw [found_perm (sortedE_perm _),foundK_all,Nat.add_sub_cancel]);rw [HFK.out] at CA;have HSMALL:=Lib.hid (found_small hb);have H5:=Lib.hid h5;have HPP:=Lib.hid hp;have R:=Row.new w 62 #[.int .i64 q.setup.band,.slice A0 q.setup.temps.length k0,.int .i64 q.setup.points,.int .i64 q.setup.most,.int .i64 q.setup.pen,.slice A1 q.setup.entries.length k1,.int .i64 q.setup.dflt,.slice A2 q.setup.bigrams.length k2,.int .i64 q.setup.pause,.slice A3 q.strokes.length k3,.slice A4 q.opn.length k4,.int .i64 q.time,.slice A5 q.words.length k5];have al:Below w.heap.size w (w.alloc (.cells #[.int .i64 q.setup.band,.slice A0 q.setup.temps.length k0,.int .i64 q.setup.points,.int .i64 q.setup.most,.int .i64 q.setup.pen,.slice A1 q.setup.entries.length k1,.int .i64 q.setup.dflt,.slice A2 q.setup.bigrams.length k2,.int .i64 q.setup.pause,.slice A3 q.strokes.length k3,.slice A4 q.opn.length k4,.int .i64 q.time,.slice A5 q.words.length k5] 62)):=(Below.refl _ _).alloc (Nat.le_refl _) _;clear h0 h1 h2 h3 h5 hsm hby hb hmo hi
 go_enter Tryz.func33,Tryz.ntmps33
 go_upto_region 1 with fail
 generalize w.alloc (.cells #[.int .i64 q.setup.band,.slice A0 q.setup.temps.length k0,.int .i64 q.setup.points,.int .i64 q.setup.most,.int .i64 q.setup.pen,.slice A1 q.setup.entries.length k1,.int .i64 q.setup.dflt,.slice A2 q.setup.bigrams.length k2,.int .i64 q.setup.pause,.slice A3 q.strokes.length k3,.slice A4 q.opn.length k4,.int .i64 q.time,.slice A5 q.words.length k5] 62)=w0 at R al ⊢;generalize Value.agg #[.int .i64 q.setup.band,.slice A0 q.setup.temps.length k0,.int .i64 q.setup.points,.int .i64 q.setup.most,.int .i64 q.setup.pen,.slice A1 q.setup.entries.length k1,.int .i64 q.setup.dflt,.slice A2 q.setup.bigrams.length k2,.int .i64 q.setup.pause,.slice A3 q.strokes.length k3,.slice A4 q.opn.length k4,.int .i64 q.time,.slice A5 q.words.length k5]=vs0;have B0:=Lib.hid al;have HRW:=Lib.hid (fun (w':World) (b:Below w0.heap.size w0 w')=>R.later b);have x9:=R.cell' (i:=9) rfl;have HLW:=Lib.hid R.lt;clear al;rcases Nat.eq_zero_or_pos q.strokes.length with hn | hn
 · have g0:((q.strokes.length:Int) == 0)=true:=by simp [hn]
   have g1:(q.strokes.length == 0)=true:=by simp [hn]
   have HR:=Lib.hid (show readZ q=(.empty,0,6) by rw [readZ,if_pos hn]);clear hn R
   go_wp2_with fail
   refine bodyPost_ret (v:=.tuple #[.string ⟨#[]⟩,.int .i64 0,.int .i64 6]) (by simp only [results,Tryz.results33]; go_simp) rfl ?_;exact ⟨by rw [HR.out]; rfl,B0.out⟩
 · have g0:((q.strokes.length:Int) == 0)=false:=by rw [beq_eq_false_iff_ne]; omega
   have g1:(q.strokes.length == 0)=false:=by rw [beq_eq_false_iff_ne]; omega
   have x0:=R.c0;have x1:=R.c1;have x2:=R.c2;have x3:=R.c3;have x4:=R.c4;have C1:=Lib.hid (CL.out w0 B0.out);clear R
   go_upto_region 3 with fail
   go_wp2_with fail
   refine C1.out.mono ?_;rintro e w1 ⟨u1,F1,rfl,r1,f1,b1⟩;have B1:=Lib.hid b1;have BW1:=Lib.hid (B0.out.trans (b1.mono B0.out.size));clear x0 x1 x2 x3 x4 x9 C1 CL
   by_cases hfew:200 < (edgesZ q.setup q.strokes).length
   · have HR:=Lib.hid (show readZ q=(.empty,0,5) by rw [readZ,if_neg (by omega),if_pos hfew])
     have HBA:=Lib.hid (BW1.out.alloc BW1.out.size (.cells #[.int .i64 0,u1] 133));simp only [if_pos hfew] at r1 ⊢;obtain ⟨AL,cL,rfl,-,-,-⟩:=pEdges_open r1;clear r1 f1 b1 hfew
     go_wp2_with fail
     refine bodyPost_ret (v:=.tuple #[.string ⟨#[]⟩,.int .i64 0,.int .i64 5]) (by simp only [results,Tryz.results33]; go_simp) rfl ?_;exact ⟨by rw [HR.out]; rfl,HBA.out⟩
   · simp only [if_neg hfew] at r1 ⊢
     obtain ⟨AL,cL,rfl,-,-,-⟩:=pEdges_open r1;obtain ⟨last,hlast⟩:∃ l,q.words.getLast?.getD .empty=l:=⟨_,rfl⟩
     have HLAST:=Lib.hid hlast;have HR:=Lib.hid (show readZ q=_ by rw [readZ,if_neg (by omega),if_neg hfew,hlast]);have RL:=Row.new w1 133 #[.int .i64 ((q.strokes.length:Int)+1),.slice AL (sortedE (edgesZ q.setup q.strokes)).length cL];have bL:Below w1.heap.size w1 (w1.alloc (.cells #[.int .i64 ((q.strokes.length:Int)+1),.slice AL (sortedE (edgesZ q.setup q.strokes)).length cL] 133)):=(Below.refl _ _).alloc (Nat.le_refl _) _;clear hlast hfew f1
     go_upto_region 7 with fail
     generalize w1.alloc (.cells #[.int .i64 ((q.strokes.length:Int)+1),.slice AL (sortedE (edgesZ q.setup q.strokes)).length cL] 133)=wz at RL bL ⊢;have RE:=Lib.hid (r1.below bL);have HRL:=Lib.hid RL;have BZ:=Lib.hid (B1.out.trans (bL.mono B1.out.size));have BF:=Lib.hid (BW1.out.trans (bL.mono BW1.out.size));have x12:=(HRW.out wz BZ.out).cell' (i:=12) rfl;clear r1 b1 bL RL B1 BW1
     go_upto_if 36 with fail
     go_cut [7] from 33 to 44 (fun s wx=>s=.string last∧wz=wx)
     case first =>
      rcases Nat.eq_zero_or_pos q.words.length with hw | hw
      · have g4:decide (0 < q.words.length)=false:=decide_eq_false (by omega)
        have g5:decide ((0:Int) < (q.words.length:Int))=false:=decide_eq_false (by omega);have hle:last=⟨#[]⟩:=by rw [← HLAST.out,List.length_eq_zero_iff.1 hw]; rfl
        go_wp2_with fail
        go_meet
        case rel=>exact ⟨by rw [hle],rfl⟩
      · have g4:decide (0 < q.words.length)=true:=decide_eq_true (by omega)
        have g5:decide ((0:Int) < (q.words.length:Int))=true:=decide_eq_true (by omega);obtain ⟨A',c',he,-,-,hr⟩:=strs_open (H5.out.below BF.out);cases he;obtain ⟨j,hj⟩:∃ j,j=q.words.length - 1:=⟨_,rfl⟩
        obtain ⟨bw,ow,rfl,hbw,-,cw,-⟩:=hr j (by omega)
        have hle:q.words[j]'(by omega)=last:=by
         rw [← HLAST.out,List.getLast?_eq_getElem?,List.getElem?_eq_getElem (by omega)];simp [hj]
        rw [hle] at cw;have zj:IntKind.i64.wrap ((q.words.length:Int) - 1)=(j:Int):=(IntWalk.i64_in _ (by omega)).trans (by omega);have gj0:(0:Int)≤(j:Int):=by omega
        have gj1:(j:Int) < (q.words.length:Int):=by omega
        clear hle hr hj
        go_wp2_with fail
        go_meet
        case rel=>exact ⟨rfl,rfl⟩
     case rest =>
      obtain ⟨rfl,rfl⟩:=hcut;clear x12;have x5:=(HRW.out wz BZ.out).c5;have y0:=HRL.out.c0;have y1:=HRL.out.c1;have C9:=Lib.hid (CA.out wz BF.out _ _ RE.out)
      go_wp2_with fail
      refine C9.out.mono ?_;rintro e w2 ⟨vf,Ff,rfl,rf,ff,b2⟩;have B2:=Lib.hid (BF.out.trans (b2.mono BF.out.size));have BZ2:=Lib.hid (BZ.out.trans (b2.mono BZ.out.size));clear C9 b2 ff CA HFK x5 y0 y1 HRL RE;generalize sortedF (foundZ q.setup (edgesZ q.setup q.strokes) q.strokes.length)=ys at rf HR HSMALL;have RF:=Lib.hid rf;obtain ⟨Ay,cy,rfl,hcy1,hcy2,-⟩:=pFounds_open rf;have hym:ys.length≤9223372036854775807:=by unfold maxLen at hcy2; omega
      clear rf
      go_wp2_with fail
      go_loopw [8,9,51] (fun s l i wr=>∃ k:Nat,s=.string (bestW (bestF q.setup last (ys.take k)))∧l=.int .i64 (bestC (bestF q.setup last (ys.take k)))∧i=.int .i64 k∧k≤ys.length∧Hid (Below w2.heap.size w2 wr)) (fun _ _ i _=>ys.length - (intOf i).toNat)
      case atStart=>exact ⟨0,rfl,rfl,rfl,by omega,Lib.hid (Below.refl _ _)⟩
      case round =>
       obtain ⟨k,rfl,rfl,rfl,hk,hbr⟩:=hrel
       by_cases hlt:k < ys.length
       · have gk:(k:Int) < (ys.length:Int):=by omega
         have gk0:(0:Int)≤(k:Int):=by omega
         have kw:=IntWalk.i64_in ((k:Int)+1) (by omega);obtain ⟨A',c',he,-,-,hr⟩:=pFounds_open (RF.out.below hbr.out);cases he;obtain ⟨gf,off,rfl,hgf,-,c0,c1,c2,-⟩:=hr k hlt;have hsm:=HSMALL.out _ (List.getElem_mem hlt);have HBS:=Lib.hid (bestF_succ q.setup last hlt);have HBW:=Lib.hid (fun x (h:bestF q.setup last (ys.take k)=some x)=>bestF_word (fun f hf=>(HSMALL.out f (List.mem_of_mem_take hf)).2.2.2.2) h);generalize ys[k]=y at c0 c1 c2 hsm HBS;have hpz:=pairZ_pos HPP.out last y.word;have RFD:=Row.new wr 143 #[.string y.word,.int .i64 y.path,.int .i64 y.own];have bD:Below wr.heap.size wr (wr.alloc (.cells #[.string y.word,.int .i64 y.path,.int .i64 y.own] 143)):=(Below.refl _ _).alloc (Nat.le_refl _) _;clear hr
         go_upto_region 13 with fail
         generalize wr.alloc (.cells #[.string y.word,.int .i64 y.path,.int .i64 y.own] 143)=wf at RFD bD ⊢;have HBD:=Lib.hid (hbr.out.trans (bD.mono hbr.out.size));have HWR:=Lib.hid (B2.out.trans (HBD.out.mono B2.out.size));have HWZ:=Lib.hid (BZ2.out.trans (HBD.out.mono BZ2.out.size));have CPP:=Lib.hid (fun (w':World) (b:Below wf.heap.size wf w')=>CP.out w' (HWR.out.trans (b.mono HWR.out.size)) last y.word);obtain ⟨pz,hpz2⟩:∃ z,pairZ q.setup last y.word=z:=⟨_,rfl⟩
         rw [hpz2] at hpz CPP;have HPZ:=Lib.hid hpz2;clear hpz2;obtain ⟨sm,hsm2⟩:∃ z,y.path+y.own=z:=⟨_,rfl⟩
         have zs:IntKind.i64.wrap (y.path+y.own)=sm:=(IntWalk.i64_in _ (by omega)).trans hsm2;have zc:=IntWalk.i64_in (sm+pz) (by omega);have HSM2:=Lib.hid hsm2;clear hsm2;obtain ⟨m9,hm9⟩:∃ m,bestF q.setup last (ys.take k)=m:=⟨_,rfl⟩
         rw [hm9] at HBS HBW ⊢;have HBW9:=Lib.hid (fun x (h:m9=some x)=>HBW.out x h);have HNX:=Lib.hid (show bestF q.setup last (ys.take (k+1))=bestN y.word (sm+pz) m9 by rw [HBS.out,bestStep_N,HPZ.out,HSM2.out]);clear hm9 HBW HBS;have BR:=Lib.hid ((Below.refl wf.heap.size wf).drew);obtain ⟨gF,hgF⟩:∃ x,wr.heap.size=x:=⟨_,rfl⟩
         rw [hgF] at RFD ⊢
         have HSX3:=Lib.hid (fun (w':World) (b:Below wf.heap.size wf w')=>show (fun w':World=>w'.cell? ⟨gF,0,none⟩=some (.string y.word)∧w'.cell? ⟨gF,1,none⟩=some (.int .i64 y.path)∧w'.cell? ⟨gF,2,none⟩=some (.int .i64 y.own)∧w'.cell? ⟨w.heap.size,6,none⟩=some (.int .i64 q.setup.dflt)∧w'.cell? ⟨w.heap.size,7,none⟩=some (.slice A2 q.setup.bigrams.length k2)) w' from by
          have RR:=HRW.out w' (HWZ.out.trans (b.mono HWZ.out.size));exact ⟨(RFD.later b).c0,(RFD.later b).c1,(RFD.later b).c2,RR.cell' (i:=6) rfl,RR.cell' (i:=7) rfl⟩)
         have hS:=HSX3.out _ BR.out;clear c0 c1 c2 hsm hpz hgF RFD bD hbr hgf;refine wp_region_held_drew (S:=(fun w':World=>w'.cell? ⟨gF,0,none⟩=some (.string y.word)∧w'.cell? ⟨gF,1,none⟩=some (.int .i64 y.path)∧w'.cell? ⟨gF,2,none⟩=some (.int .i64 y.own)∧w'.cell? ⟨w.heap.size,6,none⟩=some (.int .i64 q.setup.dflt)∧w'.cell? ⟨w.heap.size,7,none⟩=some (.slice A2 q.setup.bigrams.length k2))) (by kernel_rfl) hS (fun _=>?_);generalize wf.drew=wd at BR hS ⊢;refine tJ 0 hS ?_;refine tJ 1 hS ?_;refine tJ 2 hS ?_;refine tJ 3 hS ?_;refine tJ 4 hS ?_;refine tJ 5 hS ?_;refine tJ 6 hS ?_;refine tJ 7 hS ?_;refine tJ 8 hS ?_;refine tJ 9 hS ?_;refine tJ 10 hS ?_;refine rJ 11 fun K hK=>?_
         refine step_call 88 #[.tmp 62,.tmp 63,.tmp 65] _ rfl rfl #[.agg #[.int .i64 q.setup.dflt,.slice A2 q.setup.bigrams.length k2],.string last,.string y.word] Tryz.call88 (by go_simp) (CPP.out wd BR.out) ?_;rintro e w4 ⟨rfl,b4⟩;refine ⟨_,rfl,?_⟩;replace BR:=Lib.hid (BR.out.trans (b4.mono BR.out.size));replace hS:=HSX3.out _ BR.out;clear b4;refine bJ hK hS ?_;clear hK K;simp only [Act.put,pA,pB,pC];refine tJ 12 hS ?_;refine tJ 13 hS ?_;refine wpAnyH_done (by kernel_rfl) ?_ _;have HWD:=Lib.hid (HBD.out.trans (BR.out.mono HBD.out.size));have y0:=hS.1;clear hS HSX3 BR;cases m9 with
         | none =>
           simp only [bestW,bestC]
           go_wp2_with fail
           exact ⟨⟨k+1,by rw [HNX.out]; rfl,by rw [HNX.out]; rfl,by go_num,by omega,HWD⟩,by simp [intOf]; omega⟩
         | some x =>
           obtain ⟨xw,xc⟩:=x;have hxw:=HBW9.out _ rfl;have hxn:¬ xw=⟨#[]⟩:=fun h=>by have h2:1≤xw.size:=hxw; rw [h] at h2; exact absurd h2 (by decide)
           have gsA:=(str_neB (a:=xw) (b:=⟨#[]⟩) hxn).1;have gsB:(xw.toList == [])=false:=by rw [beq_eq_false_iff_ne]; exact fun h=>hxn (str_eq_true (a:=xw) (b:=⟨#[]⟩) (by rw [h]; simp))
           have gsC:xw.toList.isEmpty=false:=by
            cases e:xw.toList.isEmpty with
            | false=>rfl
            | true=>rw [List.isEmpty_iff.1 e] at gsB; cases gsB
           simp only [bestW,bestC];clear hxn
           by_cases hless:sm+pz < xc
           · have g8:decide (sm+pz < xc)=true:=decide_eq_true hless
             have HB2:=Lib.hid (show bestN y.word (sm+pz) (some (xw,xc))=some (y.word,sm+pz) from if_pos hless)
             go_wp2_with fail
             exact ⟨⟨k+1,by rw [HNX.out,HB2.out]; rfl,by rw [HNX.out,HB2.out]; rfl,by go_num,by omega,HWD⟩,by simp [intOf]; omega⟩
           · have g8:decide (sm+pz < xc)=false:=decide_eq_false hless
             have HB2:=Lib.hid (show bestN y.word (sm+pz) (some (xw,xc))=some (xw,xc) from if_neg hless)
             go_wp2_with fail
             exact ⟨⟨k+1,by rw [HNX.out,HB2.out]; rfl,by rw [HNX.out,HB2.out]; rfl,by go_num,by omega,HWD⟩,by simp [intOf]; omega⟩
       · obtain rfl:k=ys.length:=by omega
         have gk:¬ (ys.length:Int) < (ys.length:Int):=by omega
         rw [List.take_length];have HB:=Lib.hid (B2.out.trans (hbr.out.mono B2.out.size));have HBW:=Lib.hid (fun x (h:bestF q.setup last ys=some x)=>bestF_word (fun f hf=>(HSMALL.out f hf).2.2.2.2) h);have HR2:=Lib.hid (HR.out);generalize bestF q.setup last ys=m9 at HR2 HBW ⊢;cases m9 with
         | none =>
           simp only [bestW,bestC]
           go_wp2_with fail
           refine bodyPost_ret (v:=.tuple #[.string ⟨#[]⟩,.int .i64 0,.int .i64 3]) (by simp only [results,Tryz.results33]; go_simp) rfl ?_;exact ⟨by rw [HR2.out]; rfl,HB.out⟩
         | some x =>
           obtain ⟨xw,xc⟩:=x;have hxw:=HBW.out _ rfl;have hxn:¬ xw=⟨#[]⟩:=fun h=>by have h2:1≤xw.size:=hxw; rw [h] at h2; exact absurd h2 (by decide)
           have gsA:=(str_neB (a:=xw) (b:=⟨#[]⟩) hxn).1;have gsB:(xw.toList == [])=false:=by rw [beq_eq_false_iff_ne]; exact fun h=>hxn (str_eq_true (a:=xw) (b:=⟨#[]⟩) (by rw [h]; simp))
           have gsC:xw.toList.isEmpty=false:=by
            cases e:xw.toList.isEmpty with
            | false=>rfl
            | true=>rw [List.isEmpty_iff.1 e] at gsB; cases gsB
           simp only [bestW,bestC];clear hxn
           go_wp2_with fail
           refine bodyPost_ret (v:=.tuple #[.string xw,.int .i64 xc,.int .i64 0]) (by simp only [results,Tryz.results33]; go_simp) rfl ?_;exact ⟨by rw [HR2.out],HB.out⟩
theorem impl_ReadWord_c {I:Ids} {o:Bool} {q:PSess} {v:Value} {F:List Nat} (w:World) (h:SessIs I o w q v F) (hp:SsSmall q) (hb:SsBytes q) :
 Calls Tryz.prog 9 #[v] w fun e w'=>e=.returned (.tuple #[.string (readA q).1,.int .i64 (readA q).2.1,.int .i64 (readA q).2.2])∧Below w.heap.size w w':=by
 have H:=h;obtain ⟨a0,a1,a2,a3,a4,a5,F0,F1,F2,F3,F4,F5,rfl,rfl,h0,h1,h2,h3,h4,h5⟩:=h;obtain ⟨A0,k0,rfl⟩:=slice_len h0;obtain ⟨A1,k1,rfl⟩:=slice_len h1;obtain ⟨A2,k2,rfl⟩:=slice_len h2;obtain ⟨A3,k3,rfl⟩:=slice_len h3;obtain ⟨A4,k4,rfl⟩:=slice_len h4;obtain ⟨A5,k5,rfl⟩:=slice_len h5;have R:=Row.new w 62 #[.int .i64 q.setup.band,.slice A0 q.setup.temps.length k0,.int .i64 q.setup.points,.int .i64 q.setup.most,.int .i64 q.setup.pen,.slice A1 q.setup.entries.length k1,.int .i64 q.setup.dflt,.slice A2 q.setup.bigrams.length k2,.int .i64 q.setup.pause,.slice A3 q.strokes.length k3,.slice A4 q.opn.length k4,.int .i64 q.time,.slice A5 q.words.length k5];have al:Below w.heap.size w (w.alloc (.cells #[.int .i64 q.setup.band,.slice A0 q.setup.temps.length k0,.int .i64 q.setup.points,.int .i64 q.setup.most,.int .i64 q.setup.pen,.slice A1 q.setup.entries.length k1,.int .i64 q.setup.dflt,.slice A2 q.setup.bigrams.length k2,.int .i64 q.setup.pause,.slice A3 q.strokes.length k3,.slice A4 q.opn.length k4,.int .i64 q.time,.slice A5 q.words.length k5] 62)):=(Below.refl _ _).alloc (Nat.le_refl _) _;have CV:=Lib.hid (impl_ValidSession_p _ (H.alloc (.cells #[.int .i64 q.setup.band,.slice A0 q.setup.temps.length k0,.int .i64 q.setup.points,.int .i64 q.setup.most,.int .i64 q.setup.pen,.slice A1 q.setup.entries.length k1,.int .i64 q.setup.dflt,.slice A2 q.setup.bigrams.length k2,.int .i64 q.setup.pause,.slice A3 q.strokes.length k3,.slice A4 q.opn.length k4,.int .i64 q.time,.slice A5 q.words.length k5] 62)) hp hb);have HW:=Lib.hid (fun (w':World) (b:Below w.heap.size w w') (hs:sessB q=true)=>impl_readWord_c (A4:=A4) (k4:=k4) w' (h0.below b) (h1.below b) (h2.below b) (h3.below b) (h5.below b) hs hp.s hb.s);clear h0 h1 h2 h3 h4 h5 hp hb H
 go_enter Tryz.func9,Tryz.ntmps9
 go_wp2_with fail
 refine CV.out.mono ?_;rintro e w1 ⟨rfl,b1⟩;have BF:=Lib.hid (al.trans (b1.mono al.size));have R1:=R.later b1;clear b1 al CV R;cases hs:sessB q with
 | false =>
   have HR:=Lib.hid (show readA q=(⟨#[]⟩,0,1) by rw [readA,if_neg (by rw [hs]; decide)]);clear HW R1
   go_wp2_with fail
   refine bodyPost_ret (v:=.tuple #[.string ⟨#[]⟩,.int .i64 0,.int .i64 1]) (by simp only [results,Tryz.results9]; go_simp) rfl ?_;exact ⟨by rw [HR.out],BF.out⟩
 | true =>
   have HR:=Lib.hid (show readA q=readZ q by rw [readA,if_pos hs]);have C2:=Lib.hid (HW.out w1 BF.out hs);have q0:=R1.c0;have q1:=R1.c1;have q2:=R1.c2;have q3:=R1.c3;have q4:=R1.c4;have q5:=R1.c5;have q6:=R1.cell' (i:=6) rfl;have q7:=R1.cell' (i:=7) rfl;have q8:=R1.cell' (i:=8) rfl;have q9:=R1.cell' (i:=9) rfl;have q10:=R1.cell' (i:=10) rfl;have q11:=R1.cell' (i:=11) rfl;have q12:=R1.cell' (i:=12) rfl;clear HW R1;generalize readZ q=z at HR C2
   go_wp2_with fail
   refine C2.out.mono ?_;rintro e w2 ⟨rfl,b2⟩;clear q0 q1 q2 q3 q4 q5 q6 q7 q8 q9 q10 q11 q12
   go_wp2_with fail
   refine bodyPost_ret (v:=.tuple #[.string z.1,.int .i64 z.2.1,.int .i64 z.2.2]) (by simp only [results,Tryz.results9]; go_simp) rfl ?_;exact ⟨by rw [HR.out],BF.out.trans (b2.mono BF.out.size)⟩
theorem law_ReadWord {I:Ids} {p:PSess} {v:Value} {F:List Nat} (w:World) (h:SessIs I false w p v F) :
 Calls Tryz.prog 3 #[v] w fun e w'=>e=.returned (.bool true)∧Below w.heap.size w w':=by
 obtain ⟨A0,Ak0,A1,Ak1,A2,Ak2,A3,Ak3,A4,Ak4,A5,Ak5,rfl⟩:=h.shape
 go_enter Tryz.func3,Tryz.ntmps3
 go_wp2_with fail
 refine (szSession_p _ (h.alloc _) 1048576 (by omega)).mono ?_;rintro e w1 ⟨⟨r,rfl,hr1,hr⟩,b1⟩;have c1:Below w.heap.size w w1:=((Below.refl _ _).alloc (Nat.le_refl _) _).trans (b1.mono (by simp))
 by_cases h0:r < 0
 · go_wp2_with fail
   go_ret;exact ⟨rfl,c1⟩
 obtain ⟨hp,hpb⟩:=SsSmall.of (q:=p) (by have:=hr (by omega); omega);clear hr;have R1:=(Row.new w 41 #[.int .i64 p.setup.band,.slice A0 p.setup.temps.length Ak0,.int .i64 p.setup.points,.int .i64 p.setup.most,.int .i64 p.setup.pen,.slice A1 p.setup.entries.length Ak1,.int .i64 p.setup.dflt,.slice A2 p.setup.bigrams.length Ak2,.int .i64 p.setup.pause,.slice A3 p.strokes.length Ak3,.slice A4 p.opn.length Ak4,.int .i64 p.time,.slice A5 p.words.length Ak5]).later b1;have h1:=(h.alloc _).below b1;have q0:=R1.c0;have q1:=R1.c1;have q2:=R1.c2;have q3:=R1.c3;have q4:=R1.c4;have q5:=R1.c5;have q6:=R1.cell' (i:=6) rfl;have q7:=R1.cell' (i:=7) rfl;have q8:=R1.cell' (i:=8) rfl;have q9:=R1.cell' (i:=9) rfl;have q10:=R1.cell' (i:=10) rfl;have q11:=R1.cell' (i:=11) rfl;have q12:=R1.cell' (i:=12) rfl
 go_wp2_with fail
 refine (toSession_p _ h1 hp).mono ?_;rintro e w2 ⟨u2,G2,rfl,r2,f2,b2⟩;have R2:=R1.later b2;have h2:=h1.below b2;have c2:=bt c1 b2;obtain ⟨B0,Bk0,B1,Bk1,B2,Bk2,B3,Bk3,B4,Bk4,B5,Bk5,rfl⟩:=r2.shape
 go_wp2_with fail
 refine (spec_ReadWord_c _ r2 hp hpb).mono ?_;rintro e w3 ⟨rfl,b3⟩;have R3:=R2.later b3;have h3:=h2.below b3;have c3:=bt c2 b3;clear q0 q1 q2 q3 q4 q5 q6 q7 q8 q9 q10 q11 q12;have q0:=R3.c0;have q1:=R3.c1;have q2:=R3.c2;have q3:=R3.c3;have q4:=R3.c4;have q5:=R3.c5;have q6:=R3.cell' (i:=6) rfl;have q7:=R3.cell' (i:=7) rfl;have q8:=R3.cell' (i:=8) rfl;have q9:=R3.cell' (i:=9) rfl;have q10:=R3.cell' (i:=10) rfl;have q11:=R3.cell' (i:=11) rfl;have q12:=R3.cell' (i:=12) rfl;have HI:=Lib.hid (fun (w:World) (v:Value) (F:List Nat) (h:SessIs idsI true w p v F)=>impl_ReadWord_c w h hp hpb);generalize readA p=d at *;obtain ⟨d0,d1,d2⟩:=d;dsimp only at HI ⊢;have hd1:(d1 != d1)=false:=by simp
 have hd2:(d2 != d2)=false:=by simp
 have hd3:(d0.toList != d0.toList)=false:=by simp
 have hd4:(d0.toList == d0.toList)=true:=by simp
 have hss:=sameSessB_refl p
 go_wp2_with fail
 refine (toSession_p _ h3 hp).mono ?_;rintro e w4 ⟨u4,G4,rfl,r4,f4,b4⟩;have c4:=bt c3 b4;obtain ⟨X0,Xk0,X1,Xk1,X2,Xk2,X3,Xk3,X4,Xk4,X5,Xk5,rfl⟩:=r4.shape
 go_wp2_with fail
 refine (HI.out _ _ _ (r4.alloc _)).mono ?_;rintro e w5 ⟨rfl,b5⟩;have h5:=((h3.below b4).alloc (.cells #[.int .i64 p.setup.band,.slice X0 p.setup.temps.length Xk0,.int .i64 p.setup.points,.int .i64 p.setup.most,.int .i64 p.setup.pen,.slice X1 p.setup.entries.length Xk1,.int .i64 p.setup.dflt,.slice X2 p.setup.bigrams.length Xk2,.int .i64 p.setup.pause,.slice X3 p.strokes.length Xk3,.slice X4 p.opn.length Xk4,.int .i64 p.time,.slice X5 p.words.length Xk5] 62)).below b5;have x5:=(r4.alloc (.cells #[.int .i64 p.setup.band,.slice X0 p.setup.temps.length Xk0,.int .i64 p.setup.points,.int .i64 p.setup.most,.int .i64 p.setup.pen,.slice X1 p.setup.entries.length Xk1,.int .i64 p.setup.dflt,.slice X2 p.setup.bigrams.length Xk2,.int .i64 p.setup.pause,.slice X3 p.strokes.length Xk3,.slice X4 p.opn.length Xk4,.int .i64 p.time,.slice X5 p.words.length Xk5] 62)).below b5;have R5:=((R3.later b4).alloc (.cells #[.int .i64 p.setup.band,.slice X0 p.setup.temps.length Xk0,.int .i64 p.setup.points,.int .i64 p.setup.most,.int .i64 p.setup.pen,.slice X1 p.setup.entries.length Xk1,.int .i64 p.setup.dflt,.slice X2 p.setup.bigrams.length Xk2,.int .i64 p.setup.pause,.slice X3 p.strokes.length Xk3,.slice X4 p.opn.length Xk4,.int .i64 p.time,.slice X5 p.words.length Xk5] 62)).later b5;have RX5:=(Row.new w4 62 #[.int .i64 p.setup.band,.slice X0 p.setup.temps.length Xk0,.int .i64 p.setup.points,.int .i64 p.setup.most,.int .i64 p.setup.pen,.slice X1 p.setup.entries.length Xk1,.int .i64 p.setup.dflt,.slice X2 p.setup.bigrams.length Xk2,.int .i64 p.setup.pause,.slice X3 p.strokes.length Xk3,.slice X4 p.opn.length Xk4,.int .i64 p.time,.slice X5 p.words.length Xk5]).later b5;have c5:Below w.heap.size w w5:=(c4.alloc c4.size _).trans (b5.mono (by have:=c4.size; simp; omega));clear q0 q1 q2 q3 q4 q5 q6 q7 q8 q9 q10 q11 q12;have y0:=R5.c0;have z0:=RX5.c0;have y1:=R5.c1;have z1:=RX5.c1;have y2:=R5.c2;have z2:=RX5.c2;have y3:=R5.c3;have z3:=RX5.c3;have y4:=R5.c4;have z4:=RX5.c4;have y5:=R5.c5;have z5:=RX5.c5;have y6:=R5.cell' (i:=6) rfl;have z6:=RX5.cell' (i:=6) rfl;have y7:=R5.cell' (i:=7) rfl;have z7:=RX5.cell' (i:=7) rfl;have y8:=R5.cell' (i:=8) rfl;have z8:=RX5.cell' (i:=8) rfl;have y9:=R5.cell' (i:=9) rfl;have z9:=RX5.cell' (i:=9) rfl;have y10:=R5.cell' (i:=10) rfl;have z10:=RX5.cell' (i:=10) rfl;have y11:=R5.cell' (i:=11) rfl;have z11:=RX5.cell' (i:=11) rfl;have y12:=R5.cell' (i:=12) rfl;have z12:=RX5.cell' (i:=12) rfl;have l1:=R5.lt;have l2:=RX5.lt
 go_wp2_with fail
 go_region_held3 (fun w'=>w'.cell? ⟨w.heap.size,0,none⟩=some (.int .i64 p.setup.band)∧w'.cell? ⟨w.heap.size,1,none⟩=some (.slice A0 p.setup.temps.length Ak0)∧w'.cell? ⟨w.heap.size,2,none⟩=some (.int .i64 p.setup.points)∧w'.cell? ⟨w.heap.size,3,none⟩=some (.int .i64 p.setup.most)∧w'.cell? ⟨w.heap.size,4,none⟩=some (.int .i64 p.setup.pen)∧w'.cell? ⟨w.heap.size,5,none⟩=some (.slice A1 p.setup.entries.length Ak1)∧w'.cell? ⟨w.heap.size,6,none⟩=some (.int .i64 p.setup.dflt)∧w'.cell? ⟨w.heap.size,7,none⟩=some (.slice A2 p.setup.bigrams.length Ak2)∧w'.cell? ⟨w.heap.size,8,none⟩=some (.int .i64 p.setup.pause)∧w'.cell? ⟨w.heap.size,9,none⟩=some (.slice A3 p.strokes.length Ak3)∧w'.cell? ⟨w.heap.size,10,none⟩=some (.slice A4 p.opn.length Ak4)∧w'.cell? ⟨w.heap.size,11,none⟩=some (.int .i64 p.time)∧w'.cell? ⟨w.heap.size,12,none⟩=some (.slice A5 p.words.length Ak5)∧w'.cell? ⟨w4.heap.size,0,none⟩=some (.int .i64 p.setup.band)∧w'.cell? ⟨w4.heap.size,1,none⟩=some (.slice X0 p.setup.temps.length Xk0)∧w'.cell? ⟨w4.heap.size,2,none⟩=some (.int .i64 p.setup.points)∧w'.cell? ⟨w4.heap.size,3,none⟩=some (.int .i64 p.setup.most)∧w'.cell? ⟨w4.heap.size,4,none⟩=some (.int .i64 p.setup.pen)∧w'.cell? ⟨w4.heap.size,5,none⟩=some (.slice X1 p.setup.entries.length Xk1)∧w'.cell? ⟨w4.heap.size,6,none⟩=some (.int .i64 p.setup.dflt)∧w'.cell? ⟨w4.heap.size,7,none⟩=some (.slice X2 p.setup.bigrams.length Xk2)∧w'.cell? ⟨w4.heap.size,8,none⟩=some (.int .i64 p.setup.pause)∧w'.cell? ⟨w4.heap.size,9,none⟩=some (.slice X3 p.strokes.length Xk3)∧w'.cell? ⟨w4.heap.size,10,none⟩=some (.slice X4 p.opn.length Xk4)∧w'.cell? ⟨w4.heap.size,11,none⟩=some (.int .i64 p.time)∧w'.cell? ⟨w4.heap.size,12,none⟩=some (.slice X5 p.words.length Xk5)) (first | exact ⟨y0,y1,y2,y3,y4,y5,y6,y7,y8,y9,y10,y11,y12,z0,z1,z2,z3,z4,z5,z6,z7,z8,z9,z10,z11,z12⟩ | exact ⟨kb b6 l1 y0,kb b6 l1 y1,kb b6 l1 y2,kb b6 l1 y3,kb b6 l1 y4,kb b6 l1 y5,kb b6 l1 y6,kb b6 l1 y7,kb b6 l1 y8,kb b6 l1 y9,kb b6 l1 y10,kb b6 l1 y11,kb b6 l1 y12,kb b6 l2 z0,kb b6 l2 z1,kb b6 l2 z2,kb b6 l2 z3,kb b6 l2 z4,kb b6 l2 z5,kb b6 l2 z6,kb b6 l2 z7,kb b6 l2 z8,kb b6 l2 z9,kb b6 l2 z10,kb b6 l2 z11,kb b6 l2 z12⟩ | exact ⟨kb b7 (Nat.lt_of_lt_of_le l1 b6.size) (kb b6 l1 y0),kb b7 (Nat.lt_of_lt_of_le l1 b6.size) (kb b6 l1 y1),kb b7 (Nat.lt_of_lt_of_le l1 b6.size) (kb b6 l1 y2),kb b7 (Nat.lt_of_lt_of_le l1 b6.size) (kb b6 l1 y3),kb b7 (Nat.lt_of_lt_of_le l1 b6.size) (kb b6 l1 y4),kb b7 (Nat.lt_of_lt_of_le l1 b6.size) (kb b6 l1 y5),kb b7 (Nat.lt_of_lt_of_le l1 b6.size) (kb b6 l1 y6),kb b7 (Nat.lt_of_lt_of_le l1 b6.size) (kb b6 l1 y7),kb b7 (Nat.lt_of_lt_of_le l1 b6.size) (kb b6 l1 y8),kb b7 (Nat.lt_of_lt_of_le l1 b6.size) (kb b6 l1 y9),kb b7 (Nat.lt_of_lt_of_le l1 b6.size) (kb b6 l1 y10),kb b7 (Nat.lt_of_lt_of_le l1 b6.size) (kb b6 l1 y11),kb b7 (Nat.lt_of_lt_of_le l1 b6.size) (kb b6 l1 y12),kb b7 (Nat.lt_of_lt_of_le l2 b6.size) (kb b6 l2 z0),kb b7 (Nat.lt_of_lt_of_le l2 b6.size) (kb b6 l2 z1),kb b7 (Nat.lt_of_lt_of_le l2 b6.size) (kb b6 l2 z2),kb b7 (Nat.lt_of_lt_of_le l2 b6.size) (kb b6 l2 z3),kb b7 (Nat.lt_of_lt_of_le l2 b6.size) (kb b6 l2 z4),kb b7 (Nat.lt_of_lt_of_le l2 b6.size) (kb b6 l2 z5),kb b7 (Nat.lt_of_lt_of_le l2 b6.size) (kb b6 l2 z6),kb b7 (Nat.lt_of_lt_of_le l2 b6.size) (kb b6 l2 z7),kb b7 (Nat.lt_of_lt_of_le l2 b6.size) (kb b6 l2 z8),kb b7 (Nat.lt_of_lt_of_le l2 b6.size) (kb b6 l2 z9),kb b7 (Nat.lt_of_lt_of_le l2 b6.size) (kb b6 l2 z10),kb b7 (Nat.lt_of_lt_of_le l2 b6.size) (kb b6 l2 z11),kb b7 (Nat.lt_of_lt_of_le l2 b6.size) (kb b6 l2 z12)⟩) (first | (go_at_call 8; refine (toSession_p _ h5.drew hp).mono ?_; rintro e w6 ⟨u6,G6,rfl,r6,f6,b6⟩) | (go_at_call 10; refine (eqSession_p _ (x5.drew.below b6) r6 hp hp).mono ?_; rintro e w7 ⟨rfl,b7⟩))
 go_wp2_with fail
 go_ret;exact ⟨rfl,bt (c5.drew.trans (b6.mono c5.size)) b7⟩
theorem opens_lpoint:Opens Tryz.prog 152 pPoint :=
 opens_via (opens_struct Tryz.underlying152 (by kernel_rfl) (fields_cons rfl (by kernel_rfl) (opens_int64 Tryz.underlying2) (fields_cons rfl (by kernel_rfl) (opens_int64 Tryz.underlying2) (fields_one rfl (by kernel_rfl) (opens_int64 Tryz.underlying2))))) _ (fun p=>⟨p.1,p.2.1,p.2.2⟩) (fun _=>rfl)
theorem opens_lpointS:Opens Tryz.prog 38 (pPoints 152) :=
 opens_slice Tryz.underlying38 (by kernel_rfl) (by decide) opens_lpoint
theorem opens_lstroke:Opens Tryz.prog 190 (pStroke 152) :=
 opens_struct Tryz.underlying190 (by kernel_rfl) (fields_one rfl (by kernel_rfl) opens_lpointS)
theorem opens_lstrokeS:Opens Tryz.prog 35 (pStrokes 152 190) :=
 opens_slice Tryz.underlying35 (by kernel_rfl) (by decide) opens_lstroke
theorem opens_link:Opens Tryz.prog 37 (pStrokes 152 190) :=
 opens_struct Tryz.underlying37 (by kernel_rfl) (fields_one rfl (by kernel_rfl) opens_lstrokeS)
abbrev idsL:Ids:=⟨358,251,253,255,152,190⟩
def aStore:Ty (Int × List PTemp):=int64.prod (pTemps 358 251)
def aModel:Ty (Int × List PBigram):=int64.prod (pBigrams 255)
def aSetup:Ty PSetup:=(aStore.prod (pSetting.prod ((pEntrys 253).prod (aModel.prod int64)))).via fun p=>((p.band,p.temps),(⟨p.points,p.most,p.pen⟩,(p.entries,((p.dflt,p.bigrams),p.pause))))
def aSess:Ty PSess:=(aSetup.prod ((pStrokes 152 190).prod ((pPoints 152).prod (int64.prod (strs 9))))).via fun p=>(p.setup,(p.strokes,(p.opn,(p.time,p.words))))
theorem slice_one {α:Type} {T:Ty α} {e:TypeId} {o:Bool} {w:World} {xs:List α} {cs:List Value} {F:List Nat} (h:(T.slice e).rep o w xs cs F):∃ v,cs=[v]:=by
 obtain ⟨A,c,ec,F0,F1,rfl,_⟩:=h;exact ⟨_,rfl⟩
theorem setup_cells {o:Bool} {w:World} {p:PSetup} {cs:List Value} {F:List Nat} (h:aSetup.rep o w p cs F):∃ a b c F0 F1 F2,cs=[.int .i64 p.band,a,.int .i64 p.points,.int .i64 p.most,.int .i64 p.pen,b,.int .i64 p.dflt,c,.int .i64 p.pause]∧F=F0++(F1++F2)∧(pTemps 358 251).rep o w p.temps [a] F0∧(pEntrys 253).rep o w p.entries [b] F1∧(pBigrams 255).rep o w p.bigrams [c] F2:=by
 obtain ⟨_,_,_,_,rfl,rfl,⟨_,_,_,_,rfl,rfl,⟨rfl,rfl,-⟩,h1⟩,_,_,_,_,rfl,rfl,hs,_,_,_,_,rfl,rfl,h2,_,_,_,_,rfl,rfl,⟨_,_,_,_,rfl,rfl,⟨rfl,rfl,-⟩,h3⟩,rfl,rfl,-⟩:=h;obtain ⟨rfl,rfl,-⟩:=pSetting_rep.1 hs;obtain ⟨a,rfl⟩:=slice_one h1;obtain ⟨b,rfl⟩:=slice_one h2;obtain ⟨c,rfl⟩:=slice_one h3;exact ⟨a,b,c,_,_,_,rfl,by simp,h1,h2,h3⟩
theorem SetupIs.of {o:Bool} {w:World} {p:PSetup} {cs:List Value} {F:List Nat} (h:aSetup.rep o w p cs F):SetupIs idsL o w p (.agg cs.toArray) F:=by
 obtain ⟨a,b,c,F0,F1,F2,rfl,rfl,h1,h2,h3⟩:=setup_cells h;exact ⟨a,b,c,F0,F1,F2,rfl,rfl,h1,h2,h3⟩
theorem sess_cells {o:Bool} {w:World} {p:PSess} {cs:List Value} {F:List Nat} (h:aSess.rep o w p cs F):∃ a b c d g x F0 F1 F2 F3 F4 F5,cs=[.int .i64 p.setup.band,a,.int .i64 p.setup.points,.int .i64 p.setup.most,.int .i64 p.setup.pen,b,.int .i64 p.setup.dflt,c,.int .i64 p.setup.pause,d,g,.int .i64 p.time,x]∧F=F0++(F1++(F2++(F3++(F4++F5))))∧(pTemps 358 251).rep o w p.setup.temps [a] F0∧(pEntrys 253).rep o w p.setup.entries [b] F1∧(pBigrams 255).rep o w p.setup.bigrams [c] F2∧(pStrokes 152 190).rep o w p.strokes [d] F3∧(pPoints 152).rep o w p.opn [g] F4∧(strs 9).rep o w p.words [x] F5:=by
 obtain ⟨_,_,_,_,rfl,rfl,hs,_,_,_,_,rfl,rfl,h4,_,_,_,_,rfl,rfl,h5,_,_,_,_,rfl,rfl,⟨rfl,rfl,-⟩,h6⟩:=h;obtain ⟨a,b,c,F0,F1,F2,rfl,rfl,h1,h2,h3⟩:=setup_cells hs;obtain ⟨d,rfl⟩:=slice_one h4;obtain ⟨g,rfl⟩:=slice_one h5;obtain ⟨x,rfl⟩:=slice_one h6;exact ⟨a,b,c,d,g,x,F0,F1,F2,_,_,_,rfl,by simp,h1,h2,h3,h4,h5,h6⟩
theorem SessIs.of {o:Bool} {w:World} {p:PSess} {cs:List Value} {F:List Nat} (h:aSess.rep o w p cs F):SessIs idsL o w p (.agg cs.toArray) F:=by
 obtain ⟨a,b,c,d,g,x,F0,F1,F2,F3,F4,F5,rfl,rfl,h1,h2,h3,h4,h5,h6⟩:=sess_cells h;exact ⟨a,b,c,d,g,x,F0,F1,F2,F3,F4,F5,rfl,rfl,h1,h2,h3,h4,h5,h6⟩
theorem opens_lfeat:Opens Tryz.prog 358 pFeat :=
 opens_via (opens_struct Tryz.underlying358 (by kernel_rfl) (fields_cons rfl (by kernel_rfl) (opens_int64 Tryz.underlying2) (fields_cons rfl (by kernel_rfl) (opens_int64 Tryz.underlying2) (fields_one rfl (by kernel_rfl) (opens_int64 Tryz.underlying2))))) _ (fun p=>⟨p.1,p.2.1,p.2.2⟩) (fun _=>rfl)
theorem opens_lfeatS:Opens Tryz.prog 249 (pFeats 358):=opens_slice Tryz.underlying249 (by kernel_rfl) (by decide) opens_lfeat
theorem opens_ltemp:Opens Tryz.prog 251 (pTemp 358) :=
 opens_via (opens_struct Tryz.underlying251 (by kernel_rfl) (fields_cons rfl (by kernel_rfl) (opens_str Tryz.underlying9) (fields_one rfl (by kernel_rfl) opens_lfeatS))) _ (fun p=>⟨p.1,p.2⟩) (fun _=>rfl)
theorem opens_ltempS:Opens Tryz.prog 22 (pTemps 358 251):=opens_slice Tryz.underlying22 (by kernel_rfl) (by decide) opens_ltemp
theorem opens_lentry:Opens Tryz.prog 253 pEntry :=
 opens_via (opens_struct Tryz.underlying253 (by kernel_rfl) (fields_cons rfl (by kernel_rfl) (opens_str Tryz.underlying9) (fields_one rfl (by kernel_rfl) (opens_int64 Tryz.underlying2)))) _ (fun p=>⟨p.1,p.2⟩) (fun _=>rfl)
theorem opens_lentryS:Opens Tryz.prog 27 (pEntrys 253):=opens_slice Tryz.underlying27 (by kernel_rfl) (by decide) opens_lentry
theorem opens_lbigram:Opens Tryz.prog 255 pBigram :=
 opens_via (opens_struct Tryz.underlying255 (by kernel_rfl) (fields_cons rfl (by kernel_rfl) (opens_str Tryz.underlying9) (fields_cons rfl (by kernel_rfl) (opens_str Tryz.underlying9) (fields_one rfl (by kernel_rfl) (opens_int64 Tryz.underlying2))))) _ (fun p=>⟨p.1,p.2.1,p.2.2⟩) (fun _=>rfl)
theorem opens_lbigramS:Opens Tryz.prog 30 (pBigrams 255):=opens_slice Tryz.underlying30 (by kernel_rfl) (by decide) opens_lbigram
theorem opens_lstore:Opens Tryz.prog 24 aStore :=
 opens_struct Tryz.underlying24 (by kernel_rfl) (fields_cons rfl (by kernel_rfl) (opens_int64 Tryz.underlying2) (fields_one rfl (by kernel_rfl) opens_ltempS))
theorem opens_lsetting:Opens Tryz.prog 26 pSetting :=
 opens_via (opens_struct Tryz.underlying26 (by kernel_rfl) (fields_cons rfl (by kernel_rfl) (opens_int64 Tryz.underlying2) (fields_cons rfl (by kernel_rfl) (opens_int64 Tryz.underlying2) (fields_one rfl (by kernel_rfl) (opens_int64 Tryz.underlying2))))) _ (fun p=>⟨p.1,p.2.1,p.2.2⟩) (fun _=>rfl)
theorem opens_llex:Opens Tryz.prog 29 (pEntrys 253):=opens_struct Tryz.underlying29 (by kernel_rfl) (fields_one rfl (by kernel_rfl) opens_lentryS)
theorem opens_lmodel:Opens Tryz.prog 32 aModel :=
 opens_struct Tryz.underlying32 (by kernel_rfl) (fields_cons rfl (by kernel_rfl) (opens_int64 Tryz.underlying2) (fields_one rfl (by kernel_rfl) opens_lbigramS))
theorem opens_lsetup:Opens Tryz.prog 34 aSetup :=
 opens_via (opens_struct Tryz.underlying34 (by kernel_rfl) (fields_cons rfl (by kernel_rfl) opens_lstore (fields_cons rfl (by kernel_rfl) opens_lsetting (fields_cons rfl (by kernel_rfl) opens_llex (fields_cons rfl (by kernel_rfl) opens_lmodel (fields_one rfl (by kernel_rfl) (opens_int64 Tryz.underlying2))))))) _ (fun p=>⟨p.1.1,p.1.2,p.2.1.points,p.2.1.most,p.2.1.pen,p.2.2.1,p.2.2.2.1.1,p.2.2.2.1.2,p.2.2.2.2⟩) (fun _=>rfl)
theorem opens_lwords:Opens Tryz.prog 39 (strs 9):=opens_slice Tryz.underlying39 (by kernel_rfl) (by decide) (opens_str Tryz.underlying9)
theorem opens_lsess:Opens Tryz.prog 41 aSess :=
 opens_via (opens_struct Tryz.underlying41 (by kernel_rfl) (fields_cons rfl (by kernel_rfl) opens_lsetup (fields_cons rfl (by kernel_rfl) opens_link (fields_cons rfl (by kernel_rfl) opens_lpointS (fields_cons rfl (by kernel_rfl) (opens_int64 Tryz.underlying2) (fields_one rfl (by kernel_rfl) opens_lwords)))))) _ (fun p=>⟨p.1,p.2.1,p.2.2.1,p.2.2.2.1,p.2.2.2.2⟩) (fun _=>rfl)
end Go.Proofs.YtalmeogjhmblhaaGreat

/- The costs of all templates that take part, in the program. Conditions: none. -/
import Derived.Test.YtalmeogjhmblhaaGreatRyJw
import Derived.Test.YtalmeogjhmblhaaGreatRwXw
import Derived.Test.YtalmeogjhmblhaaGreatTyEntryw
import Derived.Test.YtalmeogjhmblhaaGreatTkw
import Derived.Test.YtalmeogjhmblhaaGreatRAcw
namespace Go.Proofs.YtalmeogjhmblhaaGreat
open Go Go.RowKit
set_option maxHeartbeats 8000000
set_option maxRecDepth 100000
theorem impl_matchesOf_c {o of:Bool} {ft tm ef:TypeId} {p:PSetup} {fs:List PFeat} {vt vf:Value} {F Ff:List Nat} (w:World) (h:(pTemps ft tm).rep o w p.temps [vt] F) (hf:(pFeats ef).rep of w fs [vf] Ff) (hp:setupB p=true) (hfs:∀ f∈fs,featB f=true) (h1:1≤fs.length∧fs.length≤72) :
 Calls Tryz.prog 192 #[.agg #[.int .i64 p.band,vt],vf] w (GivesO (pMatch.slice 272) (matchK p fs p.temps.length) w):=by
 obtain ⟨hts,hbd,ht40,-⟩:=setup_parts hp;have CI:=Lib.hid (fun (wr:World) (k:Nat) (hk:k < p.temps.length)=>impl_isBand_c p.band (fs.length:Int) (p.temps[k].feats.length:Int) wr (by omega) (by have:=(tempB_parts (hts _ (List.getElem_mem hk))).2.2.2; omega))
 have CL:=Lib.hid (fun (wr:World) (k:Nat) (u:Value) (Fk:List Nat) (hk:k < p.temps.length) (r:(pFeats ft).rep o wr p.temps[k].feats [u] Fk) (rf:(pFeats ef).rep of wr fs [vf] Ff) (hb:bandB p.band fs.length (tmpAt p k).feats.length=true) =>
  have ht:=tempB_parts (hts _ (List.getElem_mem hk));have hm:=matchV_small hp hfs h1.1 h1.2 hk hb
  impl_elastic_c (v:=matchV p fs k) wr rf r hfs ht.2.1 h1 ⟨ht.2.2.1,ht.2.2.2⟩ hbd (by have:=hm.1; rw [tmpAt_get hk] at this; exact this))
 have MV:=Lib.hid (fun (k:Nat) (hk:k < p.temps.length) hb=>matchV_small hp hfs h1.1 h1.2 hk hb);have HBD:=Lib.hid hbd;obtain ⟨Af,cf,rfl,-,-,-⟩:=pFeats_open hf;obtain ⟨A,c,rfl,-,-,-⟩:=pTemps_open h;have H:=Lib.hid h;have HF:=Lib.hid hf;have R0:=Row.new w 47 #[.int .i64 p.band,.slice A p.temps.length c];have b0:Below w.heap.size w (w.alloc (.cells #[.int .i64 p.band,.slice A p.temps.length c] 47)):=(Below.refl _ _).alloc (Nat.le_refl _) _;have l0:w.heap.size < (w.alloc (.cells #[.int .i64 p.band,.slice A p.temps.length c] 47)).heap.size:=by simp
 clear h hf hp hfs hts
 go_enter Tryz.func192,Tryz.ntmps192
 go_upto_region 1 with fail
 generalize w.alloc (.cells #[.int .i64 p.band,.slice A p.temps.length c] 47)=w0 at R0 b0 l0 ⊢;have x1:=R0.c1;have HR0:=Lib.hid R0;have B0:=Lib.hid b0;clear R0 b0
 go_wp2_with fail
 clear x1
 go_loopw [5,11] (fun l i wr=>∃ (k:Nat) (v:Value) (G:List Nat),l=v∧i=.int .i64 k∧k≤p.temps.length∧Hid ((pMatch.slice 272).rep true wr (matchK p fs k) [v] G∧Fresh w0.heap.size G∧Below w0.heap.size w0 wr)) (fun _ i _=>p.temps.length - (intOf i).toNat)
 case atStart=>exact ⟨0,_,[],rfl,rfl,by omega,Lib.hid ⟨slice_nil pMatch _ _ _,⟨by simp,by simp⟩,Below.refl _ _⟩⟩
 case round =>
  obtain ⟨k,vk,G,rfl,rfl,hk,all⟩:=hrel;obtain ⟨rep,fr,hb⟩:=all.out;obtain ⟨U,un,uc2,rfl⟩:=slice_form rep;have FR:=Lib.hid fr
  by_cases hlt:k < p.temps.length
  · have hbw:Below w.heap.size w wr:=B0.out.trans (hb.mono B0.out.size)
    obtain ⟨A',c',he,-,-,hr⟩:=pTemps_open (H.out.below hbw);cases he;obtain ⟨bs,os,u1,F1,rfl,hbq,-,-,r1,-,c0,c1⟩:=hr k hlt;obtain ⟨A1,k1,rfl,-,-,-⟩:=pFeats_open r1;have gk:(k:Int) < (p.temps.length:Int):=by omega
    have gk0:(0:Int)≤(k:Int):=by omega
    have kw:=IntWalk.i64_in ((k:Int)+1) (by omega);have hal:Below wr.heap.size wr (wr.alloc (.cells #[.string p.temps[k].label,.slice A1 p.temps[k].feats.length k1] 260)):=(Below.refl _ _).alloc (Nat.le_refl _) _;have RT:=Row.new wr 260 #[.string p.temps[k].label,.slice A1 p.temps[k].feats.length k1];have hba:=hb.trans (hal.mono hb.size);have R2:=HR0.out.below hba l0;have C:=Lib.hid (fun wr=>CI.out wr k hlt);have HN:=Lib.hid (show matchK p fs (k+1)=if bandB p.band fs.length p.temps[k].feats.length=true then matchK p fs k++[(k,matchV p fs k)] else matchK p fs k by rw [matchK,tmpAt_get hlt]);have R1:=Lib.hid (r1.below hal);have RF:=Lib.hid (HF.out.below (hbw.trans (hal.mono hbw.size)));have CV:=Lib.hid (fun (wr:World) (r:(pFeats ft).rep o wr p.temps[k].feats [.slice A1 p.temps[k].feats.length k1] F1) (rf:(pFeats ef).rep of wr fs [.slice Af fs.length cf] Ff) (hb:bandB p.band fs.length p.temps[k].feats.length=true)=>CL.out wr k (.slice A1 p.temps[k].feats.length k1) F1 hlt r rf (by rw [tmpAt_get hlt]; exact hb));have MK:=Lib.hid (fun (hb:bandB p.band fs.length p.temps[k].feats.length=true)=>MV.out k hlt (by rw [tmpAt_get hlt]; exact hb));have LN:=Lib.hid (matchK_len p fs k);have REP:=Lib.hid (rep.below hal);have HBW:=Lib.hid hba;rw [bandZ_eq HBD.out] at C;clear hr r1 hb CI CL MV rep all fr hbw hba hal
    go_upto_region 5 with fail
    generalize wr.alloc (.cells #[.string p.temps[k].label,.slice A1 p.temps[k].feats.length k1] 260)=wq at RT R2 R1 RF REP HBW ⊢;have y1:=RT.c1;have x0:=R2.c0;clear RT R2 c0 c1 hbq;cases hbb:bandB p.band fs.length p.temps[k].feats.length
    · rw [hbb] at C
      have HN1:=Lib.hid (show matchK p fs (k+1)=matchK p fs k by rw [HN.out,if_neg (by rw [hbb]; decide)]);clear MK HN hbb CV
      go_wp2_with fail
      refine (C.out _).mono ?_;rintro e w2 ⟨rfl,rfl⟩
      go_wp2_with fail
      exact ⟨⟨k+1,_,G,rfl,by go_num,by omega,Lib.hid ⟨by rw [HN1.out]; exact REP.out,FR.out,HBW.out⟩⟩,by simp [intOf]; omega⟩
    · rw [hbb] at C
      have MK1:=MK.out hbb;have HN1:=Lib.hid (show matchK p fs (k+1)=matchK p fs k++[(k,matchV p fs k)] by rw [HN.out,if_pos hbb]);generalize matchV p fs k=mv at CV MK1 HN1;have C2:=Lib.hid (fun wr r rf=>CV.out wr r rf hbb);obtain ⟨-,hm0,hm1⟩:=MK1;clear MK HN hbb CV
      go_wp2_with fail
      refine (C.out _).mono ?_;rintro e w2 ⟨rfl,rfl⟩
      go_wp2_with fail
      refine (C2.out _ R1.out RF.out).mono ?_;rintro e w3 ⟨rfl,b3⟩;replace REP:=Lib.hid (REP.out.below b3);replace HBW:=Lib.hid (HBW.out.trans (b3.mono HBW.out.size));clear x0 y1 b3 R1 RF
      go_wp2_with (at_builtin; refine wpList_append_repX (T:=pMatch) (e:=272) (ys:=[(k,mv)]) (ec:=[.int .i64 (k:Int),.int .i64 mv]) rfl (.tmp 24) (.tmp 33) rfl Tryz.underlying268 infoMatch rfl (by decide) rfl (REP.out.alloc _) rfl (flat_repL _ (by intro z hz; simp only [List.mem_singleton] at hz; subst hz; exact ⟨by show k < 1048576; omega,by constructor <;> omega⟩)) (cellsAt_new _ _ _) trivial (by rw [List.append_nil]; exact FR.out.1) (by have:=LN.out; simp only [List.length_singleton,maxLen]; omega) (by have:=LN.out; simp only [List.length_singleton]; omega) ?_; intro v6 w6 F6 r6 o6 f6 x6)
      have hz:=HBW.out.size;have HB6:=(HBW.out.alloc hz (.cells #[.int .i64 (k:Int),.int .i64 mv] 272)).trans (o6.below (B:=w0.heap.size) (by simp only [World.size_alloc]; omega) FR.out.2);have f6':=f6 w0.heap.size (by rw [List.append_nil]; exact FR.out) (by simp only [World.size_alloc]; omega);exact ⟨⟨k+1,_,F6,rfl,by go_num,by omega,Lib.hid ⟨by rw [HN1.out]; exact r6,f6',HB6⟩⟩,by simp [intOf]; omega⟩
  · obtain rfl:k=p.temps.length:=by omega
    have gk:¬ (p.temps.length:Int) < (p.temps.length:Int):=by omega
    have REP:=Lib.hid rep;have HBW:=Lib.hid hb;clear CI CL MV hb rep fr all
    go_wp2_with fail
    go_ret;exact ⟨_,G,rfl,REP.out,⟨FR.out.1,fun b hb=>Nat.le_trans B0.out.size (FR.out.2 b hb)⟩,B0.out.trans (HBW.out.mono B0.out.size)⟩
theorem inkB_all {xs:List PStroke} (h:inkB xs=true):∀ s∈xs,strokeB s=true:=by
 intro s hs;obtain ⟨k,hk,rfl⟩:=List.getElem_of_mem hs;exact inkB_stroke h hk
theorem impl_FeatsOf_c {ob:Bool} {pe e:TypeId} {xs:List PStroke} {v:Value} {n:Nat} {F:List Nat} (w:World) (h:(pStrokes pe e).rep ob w xs [v] F) (hx:inkB xs=true) (h1:1≤xs.length) (hn:2≤n∧n≤24) :
 Calls Tryz.prog 191 #[.agg #[v],.int .i64 (n:Int)] w fun e w'=>∃ u F,e=.returned (.tuple #[u,.int .i64 0])∧(pFeats 347).rep true w' (featsInk xs n) [u] F∧Fresh w.heap.size F∧Below w.heap.size w w':=by
 have hs:=inkB_all hx;have h16:=inkB_few hx;have b0:Below w.heap.size w (w.alloc (.cells #[v] 59)):=(Below.refl _ _).alloc (Nat.le_refl _) _;have x0:=(Row.new w 59 #[v]).c0;have hw0:w.heap.size < (w.alloc (.cells #[v] 59)).heap.size:=by simp
 obtain ⟨A,c,rfl⟩:=slice_len h;have CV:=Lib.hid (impl_ValidInk_c _ (h.below b0) (by omega) (fun l hl=>by have:=strokeB_both (hs l hl); omega));have CBX:=Lib.hid (fun (w2:World) (b:Below w.heap.size w w2)=>impl_boxOfInk_c w2 (h.below b) hs h1);have CW:=Lib.hid (fun w=>impl_inR_c (n:Int) 2 24 w);have hbx:=boxAllZ_small hs h1;have CS:=Lib.hid (fun (wr:World) (s:PStroke) (hin:s∈xs) (u:Value) (Fk:List Nat) (r0:(pPoints pe).rep ob wr s [u] Fk)=>impl_featsOfStroke_c (n:=n) wr r0 (hs s hin) hn hbx (boxAllZ_in hin));have H:=Lib.hid h;have HX:=Lib.hid hx;have B0:=Lib.hid b0;clear h hbx hs b0
 go_enter Tryz.func191,Tryz.ntmps191
 go_wp2_with fail
 refine CV.out.mono ?_;rintro e w1 ⟨rfl,b1⟩;rw [HX.out];have B1:=Lib.hid (B0.out.trans (b1.mono B0.out.size));have X1:=Lib.hid ((b1.cell (p:=⟨w.heap.size,0,none⟩) hw0).trans x0);have hw1:=Nat.lt_of_lt_of_le hw0 b1.size;have hin:=show inR (n:Int) 2 24=true by simp only [inR,Bool.and_eq_true,decide_eq_true_eq]; omega
 rw [hin] at CW;have x1:=X1.out;have g1:¬ (xs.length:Int)=0:=by omega
 have g2:decide ((xs.length:Int)=0)=false:=decide_eq_false g1;have g3:((xs.length:Int) == 0)=false:=beq_false_of_ne g1;clear CV B0 x0 hw0 b1 hin
 go_wp2_with fail
 refine (CW.out _).mono ?_;rintro e w2 ⟨rfl,rfl⟩
 go_wp2_with fail
 refine (CBX.out w1 B1.out).mono ?_;rintro e w2 ⟨rfl,b2⟩;unfold boxVZ;generalize hbb:boxAllZ xs=bb at CS ⊢;have HBB:=Lib.hid hbb;have RX:=Row.new w2 310 #[.int .i64 bb.x1,.int .i64 bb.y1,.int .i64 bb.x2,.int .i64 bb.y2];have b3:=b2.alloc b2.size (.cells #[.int .i64 bb.x1,.int .i64 bb.y1,.int .i64 bb.x2,.int .i64 bb.y2] 310);have hz2:=Nat.lt_of_lt_of_le hw1 b2.size;replace x1:=(b3.cell (p:=⟨w.heap.size,0,none⟩) hw1).trans x1;have B3:=Lib.hid (B1.out.trans (b3.mono B1.out.size))
 go_upto_region 8 with fail
 have l1:w2.heap.size < (w2.alloc (.cells #[.int .i64 bb.x1,.int .i64 bb.y1,.int .i64 bb.x2,.int .i64 bb.y2] 310)).heap.size:=by simp
 generalize w2.alloc (.cells #[.int .i64 bb.x1,.int .i64 bb.y1,.int .i64 bb.x2,.int .i64 bb.y2] 310)=w3 at RX x1 B3 l1 ⊢;have HRX:=Lib.hid RX;clear RX b2 b3 hbb g1 g2 g3 CW CBX X1
 go_wp2_with fail
 clear x1
 go_loopw [7,28] (fun l i wr=>∃ (k:Nat) (v:Value) (G:List Nat),l=v∧i=.int .i64 k∧k≤xs.length∧Hid ((pFeats 347).rep true wr (featsU xs n k) [v] G∧Fresh w3.heap.size G∧Below w3.heap.size w3 wr)) (fun _ i _=>xs.length - (intOf i).toNat)
 case atStart=>exact ⟨0,_,[],rfl,rfl,by omega,Lib.hid ⟨slice_nil pFeat _ _ _,⟨by simp,by simp⟩,Below.refl _ _⟩⟩
 case round =>
  obtain ⟨k,vk,G,rfl,rfl,hk,all⟩:=hrel;obtain ⟨rep,fr,hb⟩:=all.out;have hbw:Below w.heap.size w wr:=B3.out.trans (hb.mono B3.out.size);obtain ⟨U,un,uc2,rfl⟩:=slice_form rep
  by_cases hlt:k < xs.length
  · obtain ⟨A',c',he,-,-,hr⟩:=pStrokes_open (H.out.below hbw)
    cases he;obtain ⟨bs,os,u1,F1,rfl,hbq,-,r1,-,c1⟩:=hr k hlt;obtain ⟨A1,n1,k1,rfl⟩:=slice_form r1;have gk:(k:Int) < (xs.length:Int):=by omega
    have gk0:(0:Int)≤(k:Int):=by omega
    have kw:=IntWalk.i64_in ((k:Int)+1) (by omega);have HN:=Lib.hid (featsU_succ (n:=n) hlt);have HL:=Lib.hid (featsU_len (n:=n) (k:=k) hk);have HIN:=Lib.hid (List.getElem_mem hlt);have hkn:k * n≤16 * 24:=Nat.mul_le_mul (by omega) hn.2;have hal:Below wr.heap.size wr (wr.alloc (.cells #[.slice A1 n1 k1] 124)):=(Below.refl _ _).alloc (Nat.le_refl _) _;have RS:=Row.new wr 124 #[.slice A1 n1 k1];have rx:=HRX.out.below (hb.trans (hal.mono hb.size)) l1;have y0:=rx.c0;have y1:=rx.c1;have y2:=rx.c2;have y3:=rx.c3;have y4:=RS.c0;have REP:=Lib.hid (rep.below hal);have HB:=Lib.hid (hb.trans (hal.mono hb.size));have R1:=Lib.hid (r1.below hal);have FR:=Lib.hid fr;clear hr r1 rx rep hb fr all hal RS hbw
    go_upto_region 12 with fail
    generalize wr.alloc (.cells #[.slice A1 n1 k1] 124)=wq at REP HB R1 y0 y1 y2 y3 y4 ⊢
    go_wp2_with fail
    refine (CS.out wq xs[k] HIN.out _ F1 R1.out).mono ?_;rintro e w4 ⟨u4,F4,rfl,r4,f4,b4⟩;replace HB:=Lib.hid (HB.out.trans (b4.mono HB.out.size));replace REP:=Lib.hid (REP.out.below b4);obtain ⟨A4,k4,ec,G0,G1,rfl,rfl,hel,hat⟩:=slice_elems r4;obtain ⟨-,hG1⟩:=repL_pFeat_inv hel;subst hG1;rw [featsZ_len] at *;have HEL:=Lib.hid hel;have HAT:=Lib.hid hat;clear b4 R1 y0 y1 y2 y3 y4 hel hat r4 f4
    go_wp2_with (at_builtin; refine wpList_append_repX (T:=pFeat) (e:=347) (ys:=featsZ xs[k] bb n) (ec:=ec) rfl (.tmp 32) (.tmp 36) rfl Tryz.underlying258 Tryz.infoFeatW rfl (by decide) rfl REP.out (by rw [featsZ_len]; rfl) HEL.out HAT.out trivial (by rw [List.append_nil]; exact FR.out.1) (by rw [HL.out,featsZ_len]; simp only [maxLen]; omega) (by rw [HL.out,featsZ_len]; omega) ?_; intro v6 w6 F6 r6 o6 f6 x6)
    have HB6:=HB.out.trans (o6.below (B:=w3.heap.size) HB.out.size FR.out.2);have f6':=f6 w3.heap.size (by rw [List.append_nil]; exact FR.out) HB.out.size;exact ⟨⟨k+1,_,F6,rfl,by go_num,by omega,Lib.hid ⟨by rw [HN.out,HBB.out]; exact r6,f6',HB6⟩⟩,by simp [intOf]; omega⟩
  · obtain rfl:k=xs.length:=by omega
    have gk:¬ (xs.length:Int) < (xs.length:Int):=by omega
    rw [featsU_all] at rep;have REP:=Lib.hid rep;have FR:=Lib.hid fr;have HB:=Lib.hid hb;clear all rep fr hb hbw
    go_wp2_with fail
    refine bodyPost_ret (v:=.tuple #[.slice U un uc2,.int .i64 0]) (by simp only [results,Tryz.results191]; go_simp) rfl ?_;exact ⟨_,rfl,G,REP.out,⟨FR.out.1,fun b hb=>Nat.le_trans B3.out.size (FR.out.2 b hb)⟩,B3.out.trans (HB.out.mono B3.out.size)⟩
theorem rawOf_take {p:PSetup} {pen:Int} {l:List (Nat × Int)} {k:Nat} (h:k < l.length):rawOf p pen (l.take (k+1))=rawOf p pen (l.take k)++[⟨(tmpAt p l[k].1).label,l[k].2+pen⟩]:=by
 rw [rawOf,List.take_succ_eq_append_getElem h,List.map_append]; rfl
theorem impl_recognized_c {o ox:Bool} {ft tm pe st:TypeId} {p:PSetup} {xs:List PStroke} {vt vx:Value} {F Fx:List Nat} (w:World)
 (h:(pTemps ft tm).rep o w p.temps [vt] F) (hx:(pStrokes pe st).rep ox w xs [vx] Fx) (hp:setupB p=true) (hi:inkB xs=true) (h1:1≤xs.length) (h72:(xs.length:Int) * p.points≤72) :
 Calls Tryz.prog 142 #[.agg #[.int .i64 p.band,vt],.agg #[vx],.agg #[.int .i64 p.points,.int .i64 p.most,.int .i64 p.pen]] w (GivesO (pHyp.slice 204) (hypsZ p xs) w):=by
 obtain ⟨hts,hbd,ht40,hpt,hmo,hpn,-⟩:=setup_parts hp;have hs:=inkB_all hi;have h16:=inkB_few hi;obtain ⟨n,hn⟩:∃ n:Nat,p.points=n:=⟨p.points.toNat,by omega⟩
 have hfb:=feats_both hpt h1 h72;have hfo:=featsInk_ok hs (n:=p.points.toNat) (by omega);have hpen:=pen_small hpn h1 h16;have CF:=Lib.hid (fun (wr:World) (b:Below w.heap.size w wr)=>impl_FeatsOf_c (n:=n) wr (hx.below b) hi h1 (by omega));have CM:=Lib.hid (fun (wr:World) (vf:Value) (Ff:List Nat) (b:Below w.heap.size w wr) (rf:(pFeats 347).rep true wr (featsInk xs p.points.toNat) [vf] Ff)=>impl_matchesOf_c wr (h.below b) rf hp hfo hfb);have MV:=Lib.hid (fun (m:Nat × Int) (hm:m∈matchK p (featsInk xs p.points.toNat) p.temps.length)=>have h5:=matchK_mem hm; (show m.1 < p.temps.length∧0≤m.2∧m.2≤82082 from ⟨h5.1,by rw [h5.2.2]; exact (matchV_small hp hfo hfb.1 hfb.2 h5.1 h5.2.1).2⟩))
 have HRES:=Lib.hid (show hypsZ p xs=((rawOf p (p.pen * ((xs.length:Int) - 1)) (matchK p (featsInk xs p.points.toNat) p.temps.length)).foldl (insK hypLt HypZ.label) []).take p.most.toNat by
  rw [hypsZ,rawHyps_match])
 have hmlen:=matchK_len p (featsInk xs p.points.toNat) p.temps.length;have htn:p.points.toNat=n:=by omega
 rw [htn] at CM MV HRES hmlen;have z1:=IntWalk.i64_in ((xs.length:Int) - 1) (by omega);obtain ⟨pen,hpe⟩:∃ q,p.pen * ((xs.length:Int) - 1)=q:=⟨_,rfl⟩
 have z2:IntKind.i64.wrap (p.pen * ((xs.length:Int) - 1))=pen:=by rw [hpe] at hpen ⊢; exact IntWalk.i64_in _ (by omega)
 rw [hpe] at hpen HRES;generalize hms:matchK p (featsInk xs n) p.temps.length=ms at CM MV HRES hmlen;obtain ⟨A,c,rfl,-,-,-⟩:=pTemps_open h;obtain ⟨Ax,cx,rfl,-,-,-⟩:=pStrokes_open hx;have H:=Lib.hid h;have HMO:=Lib.hid hmo;rw [hn];have q0:=((Row.new w 47 #[.int .i64 p.band,.slice A p.temps.length c]).alloc (.cells #[.slice Ax xs.length cx] 59)).alloc (.cells #[.int .i64 (n:Int),.int .i64 p.most,.int .i64 p.pen] 48);have q1:=(Row.new (w.alloc (.cells #[.int .i64 p.band,.slice A p.temps.length c] 47)) 59 #[.slice Ax xs.length cx]).alloc (.cells #[.int .i64 (n:Int),.int .i64 p.most,.int .i64 p.pen] 48);have q2:=Row.new ((w.alloc (.cells #[.int .i64 p.band,.slice A p.temps.length c] 47)).alloc (.cells #[.slice Ax xs.length cx] 59)) 48 #[.int .i64 (n:Int),.int .i64 p.most,.int .i64 p.pen];have b0:Below w.heap.size w (((w.alloc (.cells #[.int .i64 p.band,.slice A p.temps.length c] 47)).alloc (.cells #[.slice Ax xs.length cx] 59)).alloc (.cells #[.int .i64 (n:Int),.int .i64 p.most,.int .i64 p.pen] 48)):=(((Below.refl _ _).alloc (Nat.le_refl _) _).alloc (by simp) _).alloc (by simp; omega) _;simp only [World.size_alloc] at q1 q2;clear h hx hp hs hfb hfo hpe hms hts hbd htn hpt h72 hmo hn hpn hi
 go_enter Tryz.func142,Tryz.ntmps142
 go_upto_region 1 with fail
 generalize ((w.alloc (.cells #[.int .i64 p.band,.slice A p.temps.length c] 47)).alloc (.cells #[.slice Ax xs.length cx] 59)).alloc (.cells #[.int .i64 (n:Int),.int .i64 p.most,.int .i64 p.pen] 48)=w0 at q0 q1 q2 b0 ⊢;have Q:=Lib.hid (And.intro q0 (And.intro q1 q2));have B0:=Lib.hid b0;have x0:=q1.c0;have x1:=q2.c0;have l0:=q0.lt;have l1:=q1.lt;have l2:=q2.lt;clear q0 q1 q2 b0
 go_wp2_with fail
 refine (CF.out w0 B0.out).mono ?_;rintro e w1 ⟨vf,Ff,rfl,rf,ff,b1⟩;have q0:=Q.out.1.later b1;have q1:=Q.out.2.1.later b1;have q2:=Q.out.2.2.later b1;have Q1:=Lib.hid (And.intro q0 (And.intro q1 q2));have B1:=Lib.hid (B0.out.trans (b1.mono B0.out.size));have HRF:=Lib.hid rf;have hz1:=b1.size;clear x0 x1 CF b1 rf ff Q B0;have x0:=q0.c0;have x1:=q0.c1;have x2:=q1.c0;have x3:=q2.c2;clear q0 q1 q2
 go_wp2_with fail
 refine (CM.out w1 vf Ff B1.out HRF.out).mono ?_;rintro e w2 ⟨vm,Fm,rfl,rm,fm,b2⟩;have q0:=Q1.out.1.later b2;have q2:=Q1.out.2.2.later b2;have Q2:=Lib.hid (And.intro q0 q2);have B2:=Lib.hid (B1.out.trans (b2.mono B1.out.size));have HRM:=Lib.hid rm;have l20:=q0.lt;have l22:=q2.lt;obtain ⟨Am,cm,rfl,-,-,-⟩:=pMatchs_open rm;clear CM B1 HRF rm b2 x0 x1 x2 x3 q0 q2 Q1 fm
 go_wp2_with fail
 go_loopw [10,31] (fun l i wr=>∃ (k:Nat) (v:Value) (G:List Nat),l=v∧i=.int .i64 k∧k≤ms.length∧Hid ((pHyp.slice 204).rep true wr (rawOf p pen (ms.take k)) [v] G∧Fresh w2.heap.size G∧Below w2.heap.size w2 wr)) (fun _ i _=>ms.length - (intOf i).toNat)
 case atStart=>exact ⟨0,_,[],rfl,rfl,by omega,Lib.hid ⟨slice_nil pHyp _ _ _,⟨by simp,by simp⟩,Below.refl _ _⟩⟩
 case round =>
  obtain ⟨i,vk,G,rfl,rfl,hk,all⟩:=hrel;obtain ⟨rep,fr,hb⟩:=all.out;have hbw:=B2.out.trans (hb.mono B2.out.size);obtain ⟨U,un,uc2,rfl⟩:=slice_form rep;have FR:=Lib.hid fr
  by_cases hlt:i < ms.length
  · obtain ⟨Am',cm',he,-,-,hrm⟩:=pMatchs_open (HRM.out.below hb)
    cases he;obtain ⟨gm,om,rfl,hgm,-,m0,m1,mo1,mo2⟩:=hrm i hlt;have hmem:=MV.out _ (List.getElem_mem hlt);have HN:=Lib.hid (rawOf_take (p:=p) (pen:=pen) hlt);have LN:=Lib.hid (show (rawOf p pen (ms.take i)).length=i by rw [rawOf_len,List.length_take]; omega);generalize rawOf p pen (ms.take i)=us at HN LN rep;generalize ms[i]=mm at m0 m1 mo1 mo2 hmem HN;obtain ⟨j,mv⟩:=mm;obtain ⟨hj,hv0,hv1⟩:=hmem;obtain ⟨A',c',he,-,-,hr⟩:=pTemps_open H.out;cases he;obtain ⟨bs,os,u1,F1,rfl,hbq,-,hls,-,-,y0,-⟩:=hr j hj;rw [tmpAt_get hj] at HN;generalize p.temps[j].label=lab at y0 hls HN;dsimp only at m0 m1 hj hv0 hv1 HN;have gk:(i:Int) < (ms.length:Int):=by omega
    have gk0:(0:Int)≤(i:Int):=by omega
    have gj:(j:Int) < (p.temps.length:Int):=by omega
    have gj0:(0:Int)≤(j:Int):=by omega
    have kw:=IntWalk.i64_in ((i:Int)+1) (by omega);have z3:=IntWalk.i64_in (mv+pen) (by omega);have OKL:=Lib.hid (show lab.size≤maxLen∧I64 (mv+pen) from ⟨hls,by constructor <;> omega⟩);have hal:Below wr.heap.size wr (wr.alloc (.cells #[.int .i64 (j:Nat),.int .i64 mv] 272)):=(Below.refl _ _).alloc (Nat.le_refl _) _;have RQ:=Row.new wr 272 #[.int .i64 (j:Nat),.int .i64 mv];have lq:wr.heap.size < (wr.alloc (.cells #[.int .i64 (j:Nat),.int .i64 mv] 272)).heap.size:=by simp
    have hba:=hb.trans (hal.mono hb.size);have REP:=Lib.hid (rep.below hal);obtain ⟨gq,hgq⟩:∃ g,g=wr.heap.size:=⟨_,rfl⟩
    have hgw:w2.heap.size≤gq:=by rw [hgq]; exact hb.size
    have hGq:=Lib.hid (show ∀ b∈G,b < gq by rw [hgq]; exact rep.blocks);have y0':=(B2.out.cell (p:=⟨bs,_,none⟩) hbq).trans y0;have lb2:=Nat.lt_of_lt_of_le hbq B2.out.size;clear hr hrm rep fr all hb hbw mo1 mo2 hls hal y0
    go_upto_region 7 with fail
    rw [← hgq] at RQ lq ⊢;generalize wr.alloc (.cells #[.int .i64 (j:Nat),.int .i64 mv] 272)=wq at RQ lq hba REP ⊢;clear hgq m0 m1;have HS2:=Lib.hid (fun (w':World) (b:Below w2.heap.size w2 w') (r:Row w' gq 272 [.int .i64 (j:Nat),.int .i64 mv])=>show (fun w':World=>w'.cell? ⟨w.heap.size,1,none⟩=some (.slice (some ⟨bs,os,none⟩) p.temps.length c)∧w'.cell? ⟨gq,0,none⟩=some (.int .i64 (j:Nat))∧w'.cell? ⟨gq,1,none⟩=some (.int .i64 mv)∧w'.cell? ⟨bs,os+j * 2,none⟩=some (.string lab)) w' from ⟨(Q2.out.1.later b).c1,r.c0,r.c1,(b.cell (p:=⟨bs,_,none⟩) lb2).trans y0'⟩);have HBW:=Lib.hid hba.drew;have HRQ:=Lib.hid RQ.drew;have hS:(fun w':World=>w'.cell? ⟨w.heap.size,1,none⟩=some (.slice (some ⟨bs,os,none⟩) p.temps.length c)∧w'.cell? ⟨gq,0,none⟩=some (.int .i64 (j:Nat))∧w'.cell? ⟨gq,1,none⟩=some (.int .i64 mv)∧w'.cell? ⟨bs,os+j * 2,none⟩=some (.string lab)) wq.drew:=HS2.out _ HBW.out HRQ.out;refine wp_region_held_drew (S:=(fun w':World=>w'.cell? ⟨w.heap.size,1,none⟩=some (.slice (some ⟨bs,os,none⟩) p.temps.length c)∧w'.cell? ⟨gq,0,none⟩=some (.int .i64 (j:Nat))∧w'.cell? ⟨gq,1,none⟩=some (.int .i64 mv)∧w'.cell? ⟨bs,os+j * 2,none⟩=some (.string lab))) (by kernel_rfl) hS (fun _=>?_);replace REP:=Lib.hid REP.out.drew;clear hba RQ lq;generalize wq.drew=we at REP HBW HRQ hS ⊢;refine tJ 0 hS ?_;refine tJ 1 hS ?_;refine tJ 2 hS ?_;refine tJ 3 hS ?_;refine tJ 4 hS ?_;refine tJ 5 hS ?_;refine tJ 6 hS ?_;refine tJ 7 hS ?_;refine tJ 8 hS ?_;refine tJ 9 hS ?_;refine tJ 10 hS ?_;refine tJ 11 hS ?_;refine tJ 12 hS ?_;refine rJ 13 fun K hK=>?_
    go_simp
    replace HRQ:=Lib.hid (HRQ.out.alloc (.cells #[.string lab,.int .i64 (mv+pen)] 204));have hza:=HBW.out.size;replace HBW:=Lib.hid (HBW.out.alloc hza (.cells #[.string lab,.int .i64 (mv+pen)] 204));replace hS:=HS2.out _ HBW.out HRQ.out;refine bJ hK hS ?_;clear hK K;replace REP:=Lib.hid (REP.out.alloc (.cells #[.string lab,.int .i64 (mv+pen)] 204));have hat:CellsAt (we.alloc (.cells #[.string lab,.int .i64 (mv+pen)] 204)) (some ⟨we.heap.size,0,none⟩) [.string lab,.int .i64 (mv+pen)]:=cellsAt_new _ _ _;generalize we.alloc (.cells #[.string lab,.int .i64 (mv+pen)] 204)=w3 at hS REP HBW HRQ hat ⊢;refine rJ 14 fun K hK=>?_
    refine step_append_repX (T:=pHyp) (e:=204) (ys:=[⟨lab,mv+pen⟩]) (ec:=[.string lab,.int .i64 (mv+pen)]) rfl (.tmp 35) (.tmp 48) rfl Tryz.underlying200 infoHyp rfl (by decide) rfl REP.out rfl (flat_repL _ (by intro z hz; simp only [List.mem_singleton] at hz; subst hz; exact OKL.out)) hat (by rw [List.append_nil]; exact FR.out.1) (by have:=LN.out; simp only [List.length_singleton,maxLen]; omega) (by have:=LN.out; simp only [List.length_singleton]; omega) ?_;intro v6 w6 F6 r6 o6 f6 x6;have R6q:Row w6 gq 272 [.int .i64 (j:Nat),.int .i64 mv]:=(o6.block gq HRQ.out.lt (fun hin=>Nat.lt_irrefl _ (hGq.out _ hin))).trans HRQ.out;have HB6:=Lib.hid (HBW.out.trans (o6.below (B:=w2.heap.size) HBW.out.size FR.out.2));have f6':=Lib.hid (f6 w2.heap.size (by rw [List.append_nil]; exact FR.out) HBW.out.size);replace hS:=HS2.out w6 HB6.out R6q;refine bJ hK hS ?_;have R6:=Lib.hid r6;clear hK K r6 o6 f6 x6 hat REP HBW HRQ R6q;obtain ⟨V6,n6,c6,rfl⟩:=slice_form R6.out;refine tJ 15 hS ?_;refine wpAnyH_done (by kernel_rfl) ?_ _;clear hS
    go_wp2_with fail
    exact ⟨⟨i+1,_,F6,rfl,by go_num,by omega,Lib.hid ⟨by rw [HN.out]; exact R6.out,f6'.out,HB6.out⟩⟩,by simp [intOf]; omega⟩
  · obtain rfl:i=ms.length:=by omega
    have gk:¬ (ms.length:Int) < (ms.length:Int):=by omega
    rw [List.take_length] at rep;have C1:=Lib.hid (impl_hypsOf_c (most:=p.most) wr rep (by rw [rawOf_len]; omega) (by have:=HMO.out; omega));have x0:=(Q2.out.2.later hb).c1;have HBW:=Lib.hid hb;clear rep fr all hb
    go_wp2_with fail
    refine C1.out.mono ?_;rintro e w3 ⟨u3,F3,rfl,r3,f3,b3⟩
    go_wp2_with fail
    go_ret;exact ⟨_,F3,rfl,by rw [HRES.out]; exact r3,f3.mono (Nat.le_trans B2.out.size HBW.out.size),(B2.out.trans (HBW.out.mono B2.out.size)).trans (b3.mono (Nat.le_trans B2.out.size HBW.out.size))⟩
end Go.Proofs.YtalmeogjhmblhaaGreat

/- A session is drawn, in the reference: the walk. Conditions: none. -/
import Derived.Test.YtafgknkcjohjeaaGreatDoorPoss2e
namespace Go.Proofs.YtafgknkcjohjeaaGreatDoor
open Go Go.RowKit
set_option maxRecDepth 100000 in
set_option maxHeartbeats 16000000 in
theorem spec_l26Draw_c {B g m:Nat} {code:List UInt8} (w:World) (h:SrcIs B g code m w) (hB:B≤w.heap.size) (hm:m≤700000) :
 Calls Tryz.prog 15 #[.pointer (some ⟨g,0,none⟩)] w (DrawsSess B g code (m+600) w):=by
 have lg:=h.low;have R0:=Row.new w 45 #[.int .i64 0,.slice none 0 0,.int .i64 0,.int .i64 0,.int .i64 0,.slice none 0 0,.int .i64 0,.slice none 0 0,.int .i64 0,.slice none 0 0,.slice none 0 0,.int .i64 0,.slice none 0 0];have b0:Below w.heap.size w (w.alloc (.cells #[.int .i64 0,.slice none 0 0,.int .i64 0,.int .i64 0,.int .i64 0,.slice none 0 0,.int .i64 0,.slice none 0 0,.int .i64 0,.slice none 0 0,.slice none 0 0,.int .i64 0,.slice none 0 0] 45)):=(Below.refl _ _).alloc (Nat.le_refl _) _;have S0:=h.below b0;clear h
 go_enter Tryz.func15,Tryz.ntmps15
 go_upto_region 1 with fail
 generalize w.alloc (.cells #[.int .i64 0,.slice none 0 0,.int .i64 0,.int .i64 0,.int .i64 0,.slice none 0 0,.int .i64 0,.slice none 0 0,.int .i64 0,.slice none 0 0,.slice none 0 0,.int .i64 0,.slice none 0 0] 45)=w0 at R0 b0 S0 ⊢;have C:=Lib.hid (spec_l26DrawSetup_c w0 S0 (by have:=R0.lt; omega) (by omega));have HR0:=Lib.hid R0;have HO:=Lib.hid (show Only [g] w w0 from Only.of_below b0);have hz0:w.heap.size < w0.heap.size:=R0.lt;clear R0 b0 S0
 go_wp2_with fail
 refine C.out.mono ?_;rintro e w1 ⟨p,v,F,rfl,hp,hset,fr,S1,O1⟩;obtain ⟨a0,a1,a2,F0,F1,F2,rfl,rfl,h0,h1,h2⟩:=hset;obtain ⟨A0,k0,rfl⟩:=slice_len h0;obtain ⟨A1,k1,rfl⟩:=slice_len h1;obtain ⟨A2,k2,rfl⟩:=slice_len h2;have z1:w0.heap.size≤w1.heap.size:=O1.size;have bA:Below w1.heap.size w1 (w1.alloc (.cells #[.int .i64 p.band,.slice A0 p.temps.length k0,.int .i64 p.points,.int .i64 p.most,.int .i64 p.pen,.slice A1 p.entries.length k1,.int .i64 p.dflt,.slice A2 p.bigrams.length k2,.int .i64 p.pause,.slice none 0 0,.slice none 0 0,.int .i64 0,.slice none 0 0] 45)):=(Below.refl _ _).alloc (Nat.le_refl _) _
 have hst:DwSt B g (w.heap.size+1) w1.heap.size (m+400) code w (w1.alloc (.cells #[.int .i64 p.band,.slice A0 p.temps.length k0,.int .i64 p.points,.int .i64 p.most,.int .i64 p.pen,.slice A1 p.entries.length k1,.int .i64 p.dflt,.slice A2 p.bigrams.length k2,.int .i64 p.pause,.slice none 0 0,.slice none 0 0,.int .i64 0,.slice none 0 0] 45)) ⟨p,[],[],0,[]⟩:=by
  refine ⟨SeAt.of (F:=F0++(F1++(F2++([]++([]++[]))))) ⟨_,_,_,_,_,_,F0,F1,F2,[],[],[],rfl,rfl,h0.below bA,h1.below bA,h2.below bA,slice_nil _ _ _ _,slice_nil _ _ _ _,slice_nil _ _ _ _⟩ (by have:=fr.mono (show w.heap.size+1≤w0.heap.size by omega); simpa using this) (Row.new w1 _ _) ?_,S1.below bA,(HO.out.trans O1).trans (Only.of_below bA),(HR0.out.onl O1 (by simp only [List.mem_singleton]; omega)).later bA⟩;intro hin;simp only [List.append_nil,List.mem_append] at hin;rcases hin with hh | hh | hh
  · have:=h0.blocks _ hh; omega
  · have:=h1.blocks _ hh; omega
  · have:=h2.blocks _ hh; omega
 have HST:=Lib.hid hst;have HQ:=Lib.hid (sess_start hp.setupB);clear C h0 h1 h2 S1 O1 hst bA HR0 HO fr hp
 go_upto_region 2 with fail
 generalize w1.alloc (.cells #[.int .i64 p.band,.slice A0 p.temps.length k0,.int .i64 p.points,.int .i64 p.most,.int .i64 p.pen,.slice A1 p.entries.length k1,.int .i64 p.dflt,.slice A2 p.bigrams.length k2,.int .i64 p.pause,.slice none 0 0,.slice none 0 0,.int .i64 0,.slice none 0 0] 45)=w2 at HST ⊢;have hgx:w.heap.size < w1.heap.size:=by omega
 generalize w1.heap.size=gx at HST hgx z1 ⊢;generalize (⟨p,[],[],0,[]⟩:PSess)=q0 at HST HQ;have C:=Lib.hid (src_pick_c w2 HST.out.src (by omega) 16 (by omega))
 go_wp2_with fail
 refine C.out.mono ?_;rintro e w3 ⟨⟨r,r0,r1,rfl⟩,S3,O3⟩;obtain ⟨kk,rfl⟩:=Int.eq_ofNat_of_zero_le r0;have HS3:=Lib.hid (HST.out.on O3 S3 (by omega) hgx (by omega));clear C S3 O3 HST r0
 go_wp2_with fail
 go_loopw [4] (fun vk wr=>∃ (k j:Nat) (q:PSess),vk=.int .i64 (k:Int)∧j+k=kk∧Hid (sessB q=true∧DwSt B g (w.heap.size+1) gx (m+401+11 * j) code w wr q)) (fun i _=>(intOf i).toNat)
 case atStart=>exact ⟨kk,0,q0,rfl,by omega,Lib.hid ⟨HQ.out,HS3.out⟩⟩
 case round =>
  obtain ⟨k,j,q,rfl,hjk,all⟩:=hrel;have HQ1:=Lib.hid all.out.1;have HST:=Lib.hid all.out.2;have HF:=Lib.hid (all.out.2.onl.size);clear all HS3 HQ;cases k with
  | succ i1 =>
    have gk2:(0:Int) < ((i1+1:Nat):Int):=by omega
    have km:IntKind.i64.wrap (((i1+1:Nat):Int) - 1)=(i1:Int):=(IntWalk.i64_in _ (by omega)).trans (by omega);generalize hkk:((i1+1:Nat):Int)=kv at gk2 km ⊢;have gk3:decide (0 < kv)=true:=decide_eq_true gk2;have HKK:=Lib.hid hkk;have C:=Lib.hid (ev_at wr HST.out.ss HST.out.src (by have:=HF.out; omega) (by omega) (by omega) HQ1.out);clear hkk
    go_wp2_with fail
    refine C.out.mono ?_;rintro e w4 ⟨ek,ex,ey,et,rfl,hI,S4,O4⟩;have bE:Below w4.heap.size w4 (w4.alloc (.cells #[.int .i64 ek,.int .i64 ex,.int .i64 ey,.int .i64 et] 48)):=(Below.refl _ _).alloc (Nat.le_refl _) _;have HRE:=Lib.hid (Row.new w4 48 #[.int .i64 ek,.int .i64 ex,.int .i64 ey,.int .i64 et]);replace HST:=Lib.hid ((HST.out.on O4 S4 (by omega) hgx (by omega)).later bE);clear C S4 O4 bE
    go_upto_region 6 with fail
    generalize w4.alloc (.cells #[.int .i64 ek,.int .i64 ex,.int .i64 ey,.int .i64 et] 48)=w5 at HRE HST ⊢;generalize w4.heap.size=gE at HRE ⊢;obtain ⟨ev,hev⟩:∃ ev:PEvent,ev=⟨ek,ex,ey,et⟩:=⟨_,rfl⟩
    have HRV:=Lib.hid (show Row w5 gE 48 [.int .i64 ev.kind,.int .i64 ev.x,.int .i64 ev.y,.int .i64 ev.t] from by rw [hev]; exact HRE.out);clear hev HRE;have C:=Lib.hid (spec_l26Possible_c ev w5 HRV.out)
    go_wp2_with fail
    refine C.out.mono ?_;rintro e w6 ⟨rfl,b6⟩;replace HRV:=Lib.hid (HRV.out.later b6);replace HST:=Lib.hid (HST.out.later b6);clear C b6;cases hpo:possB ev with
    | false =>
      clear hpo
      go_wp2_with fail
      exact ⟨⟨i1,j+1,q,by first | rfl | go_num,by omega,Lib.hid ⟨HQ1.out,HST.out.more (by omega)⟩⟩,by simp [intOf]; have:=HKK.out; omega⟩
    | true =>
      have HPO:=Lib.hid hpo;have C0:=do_at w6 HST.out.ss HRV.out HQ1.out hpo;obtain ⟨q2,tx,cc,HV⟩:∃ q2 tx cc,Hid (doR q ev=(q2,tx,cc)):=⟨_,_,_,Lib.hid rfl⟩
      rw [HV.out] at C0;have C:=Lib.hid C0;clear hpo C0
      go_wp2_with fail
      refine C.out.mono ?_;rintro en w7 ⟨v7,F7,rfl,is7,fr7,b7⟩;obtain ⟨M0,n0,M1,n1,M2,n2,M3,n3,M4,n4,M5,n5,rfl⟩:=is7.form13;have RN:=Lib.hid (Row.new w7 45 #[.int .i64 q2.setup.band,.slice M0 q2.setup.temps.length n0,.int .i64 q2.setup.points,.int .i64 q2.setup.most,.int .i64 q2.setup.pen,.slice M1 q2.setup.entries.length n1,.int .i64 q2.setup.dflt,.slice M2 q2.setup.bigrams.length n2,.int .i64 q2.setup.pause,.slice M3 q2.strokes.length n3,.slice M4 q2.opn.length n4,.int .i64 q2.time,.slice M5 q2.words.length n5]);have bN:Below w7.heap.size w7 (w7.alloc (.cells #[.int .i64 q2.setup.band,.slice M0 q2.setup.temps.length n0,.int .i64 q2.setup.points,.int .i64 q2.setup.most,.int .i64 q2.setup.pen,.slice M1 q2.setup.entries.length n1,.int .i64 q2.setup.dflt,.slice M2 q2.setup.bigrams.length n2,.int .i64 q2.setup.pause,.slice M3 q2.strokes.length n3,.slice M4 q2.opn.length n4,.int .i64 q2.time,.slice M5 q2.words.length n5] 45)):=(Below.refl _ _).alloc (Nat.le_refl _) _;have hg6:gx < w6.heap.size:=HST.out.ss.lt;replace HST:=Lib.hid ((HST.out.later b7).later bN);have HIS:=Lib.hid (is7.below bN);have HFR:=Lib.hid (fr7.mono (show w.heap.size+1≤w6.heap.size by omega));have HGX:=Lib.hid (show gx∉F7 from fun hin=>by have:=fr7.2 _ hin; omega);clear C is7 fr7 b7 bN hg6
      go_upto_region 8 with fail
      generalize w7.alloc (.cells #[.int .i64 q2.setup.band,.slice M0 q2.setup.temps.length n0,.int .i64 q2.setup.points,.int .i64 q2.setup.most,.int .i64 q2.setup.pen,.slice M1 q2.setup.entries.length n1,.int .i64 q2.setup.dflt,.slice M2 q2.setup.bigrams.length n2,.int .i64 q2.setup.pause,.slice M3 q2.strokes.length n3,.slice M4 q2.opn.length n4,.int .i64 q2.time,.slice M5 q2.words.length n5] 45)=w8 at RN HST HIS ⊢;generalize w7.heap.size=gN at RN ⊢
      by_cases hc:cc=0
      · subst hc
        have g1:((0:Int) == 0)=true:=rfl;have HS2:=Lib.hid (show sessB q2=true from by have:=doR_sess HQ1.out HPO.out (by rw [HV.out]); rwa [HV.out] at this);obtain ⟨a0,a1,a2,a3,a4,a5,F0,F1,F2,F3,F4,F5,ow,fr⟩:=HST.out.ss;have NEW:=Lib.hid (HST.out.put13 HIS.out HFR.out ow.row HGX.out hgx hB);have d0:=ow.row.c0;have d1:=ow.row.c1;have d2:=ow.row.c2;have d3:=ow.row.c3;have d4:=ow.row.c4;have d5:=ow.row.c5;have d6:=ow.row.cell' (i:=6) rfl;have d7:=ow.row.cell' (i:=7) rfl;have d8:=ow.row.cell' (i:=8) rfl;have d9:=ow.row.cell' (i:=9) rfl;have d10:=ow.row.cell' (i:=10) rfl;have d11:=ow.row.cell' (i:=11) rfl;have d12:=ow.row.cell' (i:=12) rfl;have dF:=ow.row.frozen;have r0:=RN.out.c0;have r1:=RN.out.c1;have r2:=RN.out.c2;have r3:=RN.out.c3;have r4:=RN.out.c4;have r5:=RN.out.c5;have r6:=RN.out.cell' (i:=6) rfl;have r7:=RN.out.cell' (i:=7) rfl;have r8:=RN.out.cell' (i:=8) rfl;have r9:=RN.out.cell' (i:=9) rfl;have r10:=RN.out.cell' (i:=10) rfl;have r11:=RN.out.cell' (i:=11) rfl;have r12:=RN.out.cell' (i:=12) rfl;clear ow fr
        go_wp2_with fail
        exact ⟨⟨i1,j+1,q2,by first | rfl | go_num,by omega,Lib.hid ⟨HS2.out,NEW.out.more (by omega)⟩⟩,by simp [intOf]; have:=HKK.out; omega⟩
      · have g1:(cc == 0)=false:=beqE_false _ _ hc
        clear hc
        go_wp2_with fail
        exact ⟨⟨i1,j+1,q,by first | rfl | go_num,by omega,Lib.hid ⟨HQ1.out,HST.out.more (by omega)⟩⟩,by simp [intOf]; have:=HKK.out; omega⟩
  | zero =>
    have z0:decide ((0:Int) < 0)=false:=rfl;have C:=Lib.hid (src_pick_c wr HST.out.src (by omega) 20 (by omega))
    go_wp2_with fail
    refine C.out.mono ?_;rintro e w4 ⟨⟨z,zz0,zz1,rfl⟩,S4,O4⟩;replace HST:=Lib.hid ((HST.out.on O4 S4 (by omega) hgx (by omega)).more (show m+401+11 * j+1≤m+600 by omega));clear C S4 O4 HF;obtain ⟨wo,hwo⟩:∃ x,x=wr:=⟨_,rfl⟩
    subst hwo
    go_upto_block 2 with fail
    go_cut [34] from 9 to 82 (fun _ wx=>∃ q':PSess,Hid (sessB q'=true∧DwSt B g (w.heap.size+1) gx (m+600) code w wx q'))
    case first =>
     by_cases h0:z=0
     · obtain rfl:=h0
       have k0:((0:Int) == 0)=true:=rfl
       go_wp2_with fail
       go_loopw [] (fun wr=>∃ q':PSess,Hid (sessB q'=true∧DwSt B g (w.heap.size+1) gx (m+600) code w wr q')) (fun wr=>60 - lenC (wr.cell? ⟨gx,12,none⟩))
       case atStart=>exact ⟨q,Lib.hid ⟨HQ1.out,HST.out⟩⟩
       case round =>
        obtain ⟨q',all⟩:=hrel;obtain ⟨a0,a1,a2,a3,a4,a5,F0,F1,F2,F3,F4,F5,ow,fr⟩:=all.out.2.ss;obtain ⟨A5,k5,rfl⟩:=slice_len ow.r5;have y12:=ow.row.cell' (i:=12) rfl
        by_cases hl:q'.words.length < 60
        · have g4:decide ((q'.words.length:Int) < 60)=true:=decide_eq_true (by omega)
          have HOW:=Lib.hid ow;have HFR:=Lib.hid fr;have HALL:=Lib.hid all.out;have HL:=Lib.hid hl;have HND0:=Lib.hid (List.nodup_append.1 (List.nodup_append.1 ow.tail_nd).2.1).2.1;clear all ow fr hl
          go_wp2_with (at_builtin; refine wpList_append_repX (T:=str) (e:=9) (ys:=[teaT]) (ec:=[.string teaT]) rfl (.tmp 41) (.tmp 42) rfl Tryz.underlying43 Tryz.infoStr rfl (by decide) rfl (HOW.out.r5.alloc _) rfl (repL_single.2 ⟨rfl,rfl,by unfold maxLen; decide⟩) (cellsAt_new _ _ _) trivial (by rw [List.append_nil]; exact HND0.out) (by have:=HL.out; simp only [List.length_singleton,maxLen]; omega) (by have:=HL.out; simp only [List.length_singleton]; omega) ?_; intro v6 w8 F6 r6 o6 f6 x6; obtain ⟨V6,n6,c6,rfl⟩:=slice_form r6; have R6:=Lib.hid (show (strs 9).rep true w8 (q'.words++[teaT]) [.slice V6 n6 c6] F6 from r6); have HX6:=Lib.hid x6.1; have O6:=Lib.hid (show Only F5 wr w8 from (Only.of_below ((Below.refl _ _).alloc (Nat.le_refl _) _)).trans o6); have HND:=Lib.hid (show F6.Nodup from (f6 0 ⟨by rw [List.append_nil]; exact HND0.out,fun x hx=>Nat.zero_le x⟩ (Nat.zero_le _)).1); clear y12 r6 o6 f6 x6; have v12:=(HOW.out.row.onl O6.out (fun hin=>HOW.out.far (by simp [hin]))).cell' (i:=12) rfl; have vF:=(HOW.out.row.onl O6.out (fun hin=>HOW.out.far (by simp [hin]))).frozen)
          have HS6:=Lib.hid (show ∀ x∈F6,x∈F5∨wr.heap.size≤x from fun x hx=>by rcases HX6.out x hx with h | h; (exact .inl (by simpa using h)); (exact .inr (by simp only [World.size_alloc] at h; omega)));have HP:=HOW.out.putWords O6.out R6.out HS6.out HND.out;have hz:=HALL.out.2.onl.size;have hr:=HALL.out.2.res.lt
          have hn6:n6=q'.words.length+1:=by
           obtain ⟨A',c',e'⟩:=slice_len R6.out;injection e' with _ e2 _
           rw [e2,List.length_append]; rfl
          refine ⟨⟨{ q' with words:=q'.words++[teaT] },Lib.hid ⟨sess_tea HALL.out.1 HL.out,HALL.out.2.put (D:=gx :: F5) ((O6.out.mono (fun x hx=>List.mem_cons_of_mem _ hx)).set (p:=⟨gx,12,none⟩) (by simp) _) (fun x hx=>?_) hB ⟨_,_,_,_,_,_,_,_,_,_,_,_,HP,fun x hx=>?_⟩⟩⟩,?_⟩
          · rcases List.mem_cons.1 hx with h | h
            · omega
            · have:=HFR.out x (by simp [h]); omega
          · simp only [List.mem_append] at hx
            rcases hx with h | h | h | h | h | h
            · exact HFR.out x (by simp [h])
            · exact HFR.out x (by simp [h])
            · exact HFR.out x (by simp [h])
            · exact HFR.out x (by simp [h])
            · exact HFR.out x (by simp [h])
            · rcases HS6.out x h with h | h
              · exact HFR.out x (by simp [h])
              · omega
          · have e1:=HOW.out.row.cell' (i:=12) rfl
            have e2:=HP.row.cell' (i:=12) rfl;rw [e1,e2];have:=HL.out
            show 60 - n6 < 60 - q'.words.length
            omega
        · have g4:decide ((q'.words.length:Int) < 60)=false:=decide_eq_false (by omega)
          have HALL:=Lib.hid all.out;clear all ow fr hl
          go_wp2_with fail
          go_meet
          case rel=>exact ⟨q',HALL⟩
     · have k0:(z == 0)=false:=beqE_false _ _ h0
       by_cases h1:z=1
       · obtain rfl:=h1
         have k1:((1:Int) == 1)=true:=rfl;clear k0;have k0:((1:Int) == 0)=false:=rfl;obtain ⟨a0,a1,a2,a3,a4,a5,F0,F1,F2,F3,F4,F5,ow,fr⟩:=HST.out.ss;obtain ⟨A4,k4,rfl⟩:=slice_len ow.r4;have y10:=ow.row.cell' (i:=10) rfl
         by_cases ho:q.opn.length=0
         · have g4:((q.opn.length:Int) == 0)=true:=by simp [ho]
           have y9:=ow.row.cell' (i:=9) rfl;have yF:=ow.row.frozen;have HOW:=Lib.hid ow.noInk;have HFR:=Lib.hid fr;have hr:=HST.out.res.lt;have hzw:=HST.out.onl.size;clear ow fr ho
           go_upto_region 17 with fail
           clear y9 yF y10;have hst:DwSt B g (w.heap.size+1) gx (m+600) code w (w4.setCell ⟨gx,9,none⟩ (.slice none 0 0)) { q with strokes:=fullK 0 }:=HST.out.put (D:=[gx]) ((Only.refl [gx] w4).set (p:=⟨gx,9,none⟩) (by simp) _) (fun x hx=>by simp only [List.mem_singleton] at hx; omega) hB ⟨_,_,_,_,_,_,_,_,_,_,_,_,HOW.out,fun x hx=>HFR.out x (by simp only [List.mem_append,List.not_mem_nil,false_or] at hx ⊢; rcases hx with h | h | h | h | h <;> simp [h])⟩;have HS5:=Lib.hid hst;clear hst HOW HFR HST;generalize w4.setCell ⟨gx,9,none⟩ (.slice none 0 0)=w5 at HS5 ⊢
           go_wp2_with fail
           go_loopw [9] (fun vk wr=>∃ k:Nat,vk=.int .i64 (k:Int)∧k≤16∧Hid (DwSt B g (w.heap.size+1) gx (m+600) code w wr { q with strokes:=fullK k })) (fun i _=>16 - (intOf i).toNat)
           case atStart=>exact ⟨0,rfl,by omega,HS5⟩
           case round =>
            obtain ⟨k,rfl,hk,all⟩:=hrel;clear HS5;obtain ⟨a0,a1,a2,a3,a4,a5,F0,F1,F2,F3,F4,F5,ow,fr⟩:=all.out.ss;obtain ⟨A3,k3,rfl⟩:=slice_len ow.r3;have HOW:=Lib.hid ow;have HFR:=Lib.hid fr;have HALL:=Lib.hid all.out;have hr:=all.out.res.lt;have hzw:=all.out.onl.size;have hlt:=ow.row.lt;clear all
            by_cases hk16:k < 16
            · have gk:decide ((k:Int) < 16)=true:=decide_eq_true (by omega)
              have e1:=IntWalk.i64_in (9 * (k:Int)) (by omega);have e2:=IntWalk.i64_in ((k:Int)+1) (by omega);have HLN:=Lib.hid (fullK_len k);have HOP:=Lib.hid (drawn_i64 (x:=9 * (k:Int)) (y:=5) (t:=(k:Int)) (by omega) (by omega) (by omega));have y9:=ow.row.cell' (i:=9) rfl;have HND0:=Lib.hid (List.nodup_append.1 ow.tail_nd).1;have HB3:=Lib.hid ow.r3.blocks;clear ow fr
              go_wp2_with (at_builtin; refine wpList_append_repX (T:=pStroke 85) (e:=89) (ys:=[[(⟨9 * (k:Int),5,(k:Int)⟩:PPoint)]]) (ec:=[.slice (some ⟨wr.heap.size,0,none⟩) 1 1]) rfl (.tmp 59) (.tmp 66) rfl Tryz.underlying39 Tryz.infoStrokeR rfl (by decide) rfl (show ((pStroke 85).slice 89).rep true _ (fullK k) [.slice A3 (fullK k).length k3] F3 from (HOW.out.r3.alloc _).alloc _) rfl (repL_single.2 (slice_of_row (T:=pPoint) (xs:=[(⟨9 * (k:Int),5,(k:Int)⟩:PPoint)]) ((Row.new wr 85 #[.int .i64 (9 * (k:Int)),.int .i64 5,.int .i64 (k:Int)]).alloc _) (repL_pPoint [(⟨9 * (k:Int),5,(k:Int)⟩:PPoint)] HOP.out) (by simp [maxLen]))) (by have:=cellsAt_new (wr.alloc (.cells #[.int .i64 (9 * (k:Int)),.int .i64 5,.int .i64 (k:Int)] 85)) 89 [.slice (some ⟨wr.heap.size,0,none⟩) 1 1]; rw [World.size_alloc] at this; exact this) trivial (List.nodup_append.2 ⟨HND0.out,by simp,fun x hx y hy e=>by simp at hy; have:=HB3.out x hx; omega⟩) (by have:=HLN.out; simp only [List.length_singleton,maxLen]; omega) (by have:=HLN.out; simp only [List.length_singleton]; omega) ?_; intro v6 w8 F6 r6 o6 f6 x6; obtain ⟨V6,n6,c6,rfl⟩:=slice_form r6; have R6:=Lib.hid (show (pStrokes 85 89).rep true w8 (fullK k++[[(⟨9 * (k:Int),5,(k:Int)⟩:PPoint)]]) [.slice V6 n6 c6] F6 from r6); have HX6:=Lib.hid x6.1; have O6:=Lib.hid (show Only F3 wr w8 from (Only.of_below (((Below.refl wr.heap.size wr).alloc (Nat.le_refl _) _).alloc (by simp) _)).trans o6); have HND:=Lib.hid (show F6.Nodup from (f6 0 ⟨List.nodup_append.2 ⟨HND0.out,by simp,fun x hx y hy e=>by simp at hy; have:=HB3.out x hx; omega⟩,fun x hx=>Nat.zero_le x⟩ (Nat.zero_le _)).1); clear y9 r6 o6 f6 x6; have v9:=(HOW.out.row.onl O6.out (fun hin=>HOW.out.far (by simp [hin]))).cell' (i:=9) rfl; have vF:=(HOW.out.row.onl O6.out (fun hin=>HOW.out.far (by simp [hin]))).frozen)
              have HS6:=Lib.hid (show ∀ x∈F6,x∈F3∨wr.heap.size≤x from fun x hx=>by
               rcases HX6.out x hx with h | h
               · rcases List.mem_append.1 h with h | h
                 · exact .inl h
                 · simp at h; exact .inr (by omega)
               · exact .inr (by simp only [World.size_alloc] at h; omega))
              have HP:=HOW.out.putStrokes O6.out (by rw [← fullK_succ] at R6; exact R6.out) HS6.out HND.out;refine ⟨⟨k+1,by first | rfl | go_num,by omega,Lib.hid (HALL.out.put (D:=gx :: F3) ((O6.out.mono (fun x hx=>List.mem_cons_of_mem _ hx)).set (p:=⟨gx,9,none⟩) (by simp) _) (fun x hx=>?_) hB ⟨_,_,_,_,_,_,_,_,_,_,_,_,HP,fun x hx=>?_⟩)⟩,by simp [intOf]; omega⟩
              · rcases List.mem_cons.1 hx with h | h
                · omega
                · have:=HFR.out x (by simp [h]); omega
              · simp only [List.mem_append] at hx
                rcases hx with h | h | h | h | h | h
                · exact HFR.out x (by simp [h])
                · exact HFR.out x (by simp [h])
                · exact HFR.out x (by simp [h])
                · rcases HS6.out x h with h | h
                  · exact HFR.out x (by simp [h])
                  · omega
                · exact HFR.out x (by simp [h])
                · exact HFR.out x (by simp [h])
            · obtain rfl:k=16:=by omega
              have gk:decide (((16:Nat):Int) < 16)=false:=rfl;have y11:=ow.row.cell' (i:=11) rfl;have yF:=ow.row.frozen;clear ow fr hk16
              go_upto_region 22 with fail
              clear y11 yF;have HT:=Lib.hid (HOW.out.time 100);have ON:=Lib.hid ((Only.refl [gx] wr).set (p:=⟨gx,11,none⟩) (by simp) (.int .i64 100));have hsz:(wr.setCell ⟨gx,11,none⟩ (.int .i64 100)).heap.size=wr.heap.size:=World.size_setCell ..;have HSZ:=Lib.hid hsz;clear hsz;generalize wr.setCell ⟨gx,11,none⟩ (.int .i64 100)=ws at HT ON HSZ ⊢;have RP:=Lib.hid (slice_of_row (T:=pPoint) (xs:=[(⟨1,1,90⟩:PPoint)]) (Row.new ws 85 #[.int .i64 1,.int .i64 1,.int .i64 90]) (repL_pPoint [(⟨1,1,90⟩:PPoint)] (drawn_i64 (by omega) (by omega) (by omega))) (by simp [maxLen]));have bW:Below ws.heap.size ws (ws.alloc (.cells #[.int .i64 1,.int .i64 1,.int .i64 90] 85)):=(Below.refl _ _).alloc (Nat.le_refl _) _;have HP:=Lib.hid (HT.out.putOpen (Only.of_below bW) RP.out (fun x hx=>by simp at hx; exact .inr (by omega)) (by simp));have OW:=Lib.hid ((ON.out.trans (Only.of_below bW)).set (p:=⟨gx,10,none⟩) (by simp) (.slice (some ⟨ws.heap.size,0,none⟩) 1 1));have y10:=(HT.out.row.later bW).cell' (i:=10) rfl;have yF:=(HT.out.row.later bW).frozen;clear bW
              go_wp2_with fail
              go_meet
              case rel =>
               refine ⟨{ q with strokes:=fullK 16,time:=100,opn:=[⟨1,1,90⟩] },Lib.hid ⟨sess_full HQ1.out,HALL.out.put (D:=[gx]) OW.out (fun x hx=>by simp only [List.mem_singleton] at hx; omega) hB ⟨_,_,_,_,_,_,_,_,_,_,_,_,HP.out,fun x hx=>?_⟩⟩⟩;simp only [List.mem_append,List.mem_singleton] at hx;rcases hx with h | h | h | h | h | h
               · exact HFR.out x (by simp [h])
               · exact HFR.out x (by simp [h])
               · exact HFR.out x (by simp [h])
               · exact HFR.out x (by simp [h])
               · have:=HSZ.out; omega
               · exact HFR.out x (by simp [h])
         · have g4:((q.opn.length:Int) == 0)=false:=beqE_false _ _ (by omega)
           clear ow fr ho
           go_wp2_with fail
           go_meet
           case rel=>exact ⟨q,Lib.hid ⟨HQ1.out,HST.out⟩⟩
       · have k1:(z == 1)=false:=beqE_false _ _ h1
         by_cases h2:z=2
         · obtain rfl:=h2
           have k2:((2:Int) == 2)=true:=rfl;clear k0 k1;have k0:((2:Int) == 0)=false:=rfl;have k1:((2:Int) == 1)=false:=rfl;have C:=Lib.hid (spec_l02Long_c w4)
           go_wp2_with fail
           refine C.out.mono ?_;rintro e w5 ⟨u,G,rfl,rl,fl,b5⟩;obtain ⟨U,un,uc,rfl⟩:=slice_form rl;have bS:Below w5.heap.size w5 (w5.alloc (.cells #[.slice U un uc] 89)):=(Below.refl _ _).alloc (Nat.le_refl _) _;have RS:=Row.new w5 89 #[.slice U un uc];have b6:Below w4.heap.size w4 (w5.alloc (.cells #[.slice U un uc] 89)):=b5.alloc b5.size _;have RL:=Lib.hid (rl.below bS);have hg4:gx < w4.heap.size:=HST.out.ss.lt;have hg5:w4.heap.size≤w5.heap.size:=b5.size;have HFL:=Lib.hid fl;clear C b5 bS rl fl
           go_upto_region 25 with fail
           generalize w5.alloc (.cells #[.slice U un uc] 89)=w6 at RS b6 RL ⊢;generalize w5.heap.size=gT at RS hg5 ⊢;obtain ⟨a0,a1,a2,a3,a4,a5,F0,F1,F2,F3,F4,F5,ow,fr⟩:=HST.out.ss;have R6:=ow.row.later b6;have y9:=R6.cell' (i:=9) rfl;have yF:=R6.frozen
           go_upto_region 26 with fail
           clear y9 yF;have R7:=R6.set 9 (.slice none 0 0);have y10:=R7.cell' (i:=10) rfl;have yF:=R7.frozen;have t0:=(RS.far (p:=⟨gx,9,none⟩) (by show gT≠gx; omega) (.slice none 0 0)).c0
           go_upto_region 27 with fail
           clear y10 yF t0;have R8:=R7.set 10 (.slice U un uc);have y11:=R8.cell' (i:=11) rfl;have yF:=R8.frozen;have OW:=Lib.hid ((((((Only.of_below (F:=[gx]) b6)).set (p:=⟨gx,9,none⟩) (by simp) (.slice none 0 0)).set (p:=⟨gx,10,none⟩) (by simp) (.slice U un uc)).set (p:=⟨gx,11,none⟩) (by simp) (.int .i64 500)));have R9:=R8.set 11 (.int .i64 500);have hxG:gx∉G:=fun hin=>by have:=HFL.out.2 _ hin; omega
           have RL9:=Lib.hid (Ty.rep.setCell (T:=pPoints _) (Ty.rep.setCell (T:=pPoints _) (Ty.rep.setCell (T:=pPoints _) RL.out (p:=⟨gx,9,none⟩) hxG (.slice none 0 0)) (p:=⟨gx,10,none⟩) hxG (.slice U un uc)) (p:=⟨gx,11,none⟩) hxG (.int .i64 500));have hf:=ow.far;have hlt:=ow.lt;have hnd:=ow.tail_nd;simp only [List.mem_append,not_or] at hf;have hw5:=ow.r5.only OW.out (fun x hx hin=>by simp only [List.mem_singleton] at hin; subst hin; exact hf.2.2 hx)
           have HP:=Lib.hid (ow.step (q':={ q with strokes:=[],opn:=longK 60,time:=500 }) (D:=[gx]) OW.out rfl R9 (slice_nil _ _ _ _) RL9.out hw5 (ow.apart (by simp)) (by
            rw [List.nil_append];exact List.nodup_append.2 ⟨HFL.out.1,(List.nodup_append.1 (List.nodup_append.1 hnd).2.1).2.1,fun x hx y hy e=>by subst e; have h1:=HFL.out.2 x hx; have h2:=hlt x (by simp [hy]); omega⟩) (fun x hx=>by
            rw [List.nil_append] at hx;rcases List.mem_append.1 hx with h | h
            · exact .inr (HFL.out.2 x h)
            · exact .inl (by simp [h])))
           have HFR:=Lib.hid fr;have hr:=HST.out.res.lt;have hzw:=HST.out.onl.size;have hrx:=b6.size;clear ow fr R6 R7 R8 R9 RS hf hlt hnd hw5 b6
           go_wp2_with fail
           go_meet
           case rel =>
            refine ⟨{ q with strokes:=[],opn:=longK 60,time:=500 },Lib.hid ⟨sess_long HQ1.out,HST.out.put (D:=[gx]) OW.out (fun x hx=>by simp only [List.mem_singleton] at hx; omega) hB ⟨_,_,_,_,_,_,_,_,_,_,_,_,HP.out,fun x hx=>?_⟩⟩⟩;simp only [List.nil_append,List.mem_append] at hx;rcases hx with h | h | h | h | h
            · exact HFR.out x (by simp [h])
            · exact HFR.out x (by simp [h])
            · exact HFR.out x (by simp [h])
            · have:=HFL.out.2 x h; omega
            · exact HFR.out x (by simp [h])
         · have k2:(z == 2)=false:=beqE_false _ _ h2
           go_wp2_with fail
           go_meet
           case rel=>exact ⟨q,Lib.hid ⟨HQ1.out,HST.out⟩⟩
    case rest =>
     obtain ⟨q',all⟩:=hcut;obtain ⟨a0,a1,a2,a3,a4,a5,F0,F1,F2,F3,F4,F5,ow,fr⟩:=all.out.2.ss;obtain ⟨A0,k0,rfl⟩:=slice_len ow.r0;obtain ⟨A1,k1,rfl⟩:=slice_len ow.r1;obtain ⟨A2,k2,rfl⟩:=slice_len ow.r2;obtain ⟨A3,k3,rfl⟩:=slice_len ow.r3;obtain ⟨A4,k4,rfl⟩:=slice_len ow.r4;obtain ⟨A5,k5,rfl⟩:=slice_len ow.r5;have y0:=ow.row.c0;have y1:=ow.row.c1;have y2:=ow.row.c2;have y3:=ow.row.c3;have y4:=ow.row.c4;have y5:=ow.row.c5;have y6:=ow.row.cell' (i:=6) rfl;have y7:=ow.row.cell' (i:=7) rfl;have y8:=ow.row.cell' (i:=8) rfl;have y9:=ow.row.cell' (i:=9) rfl;have y10:=ow.row.cell' (i:=10) rfl;have y11:=ow.row.cell' (i:=11) rfl;have y12:=ow.row.cell' (i:=12) rfl;have v0:=all.out.2.res.c0;have v1:=all.out.2.res.c1;have v2:=all.out.2.res.c2;have v3:=all.out.2.res.c3;have v4:=all.out.2.res.c4;have v5:=all.out.2.res.c5;have v6:=all.out.2.res.cell' (i:=6) rfl;have v7:=all.out.2.res.cell' (i:=7) rfl;have v8:=all.out.2.res.cell' (i:=8) rfl;have v9:=all.out.2.res.cell' (i:=9) rfl;have v10:=all.out.2.res.cell' (i:=10) rfl;have v11:=all.out.2.res.cell' (i:=11) rfl;have v12:=all.out.2.res.cell' (i:=12) rfl;have vF:=all.out.2.res.frozen;have RES:=row_set13 (c0:=.int .i64 q'.setup.band) (c1:=.slice A0 q'.setup.temps.length k0) (c2:=.int .i64 q'.setup.points) (c3:=.int .i64 q'.setup.most) (c4:=.int .i64 q'.setup.pen) (c5:=.slice A1 q'.setup.entries.length k1) (c6:=.int .i64 q'.setup.dflt) (c7:=.slice A2 q'.setup.bigrams.length k2) (c8:=.int .i64 q'.setup.pause) (c9:=.slice A3 q'.strokes.length k3) (c10:=.slice A4 q'.opn.length k4) (c11:=.int .i64 q'.time) (c12:=.slice A5 q'.words.length k5) all.out.2.res;have hoff:w.heap.size∉F0++(F1++(F2++(F3++(F4++F5)))):=fun hin=>by have:=fr _ hin; omega
     have FIN:=Lib.hid (And.intro (ow.is.only (only_set13 (g:=w.heap.size) (c0:=.int .i64 q'.setup.band) (c1:=.slice A0 q'.setup.temps.length k0) (c2:=.int .i64 q'.setup.points) (c3:=.int .i64 q'.setup.most) (c4:=.int .i64 q'.setup.pen) (c5:=.slice A1 q'.setup.entries.length k1) (c6:=.int .i64 q'.setup.dflt) (c7:=.slice A2 q'.setup.bigrams.length k2) (c8:=.int .i64 q'.setup.pause) (c9:=.slice A3 q'.strokes.length k3) (c10:=.slice A4 q'.opn.length k4) (c11:=.int .i64 q'.time) (c12:=.slice A5 q'.words.length k5)) (fun x hx hin=>by simp only [List.mem_singleton] at hin; exact hoff (hin ▸ hx))) (And.intro (all.out.2.src.only (only_set13 (g:=w.heap.size) (c0:=.int .i64 q'.setup.band) (c1:=.slice A0 q'.setup.temps.length k0) (c2:=.int .i64 q'.setup.points) (c3:=.int .i64 q'.setup.most) (c4:=.int .i64 q'.setup.pen) (c5:=.slice A1 q'.setup.entries.length k1) (c6:=.int .i64 q'.setup.dflt) (c7:=.slice A2 q'.setup.bigrams.length k2) (c8:=.int .i64 q'.setup.pause) (c9:=.slice A3 q'.strokes.length k3) (c10:=.slice A4 q'.opn.length k4) (c11:=.int .i64 q'.time) (c12:=.slice A5 q'.words.length k5)) (by simpa using hB)) (only_ownE all.out.2.onl (only_set13 (g:=w.heap.size) (c0:=.int .i64 q'.setup.band) (c1:=.slice A0 q'.setup.temps.length k0) (c2:=.int .i64 q'.setup.points) (c3:=.int .i64 q'.setup.most) (c4:=.int .i64 q'.setup.pen) (c5:=.slice A1 q'.setup.entries.length k1) (c6:=.int .i64 q'.setup.dflt) (c7:=.slice A2 q'.setup.bigrams.length k2) (c8:=.int .i64 q'.setup.pause) (c9:=.slice A3 q'.strokes.length k3) (c10:=.slice A4 q'.opn.length k4) (c11:=.int .i64 q'.time) (c12:=.slice A5 q'.words.length k5)) (by simp))));have HND:=Lib.hid ow.nd;have HFR:=Lib.hid fr;have HS:=Lib.hid all.out.1;unfold set13 at RES;have e0:=RES.c0;have e1:=RES.c1;have e2:=RES.c2;have e3:=RES.c3;have e4:=RES.c4;have e5:=RES.c5;have e6:=RES.cell' (i:=6) rfl;have e7:=RES.cell' (i:=7) rfl;have e8:=RES.cell' (i:=8) rfl;have e9:=RES.cell' (i:=9) rfl;have e10:=RES.cell' (i:=10) rfl;have e11:=RES.cell' (i:=11) rfl;have e12:=RES.cell' (i:=12) rfl;clear RES ow fr all hoff HST
     go_wp2_with fail
     refine bodyPost_ret (v:=.agg #[.int .i64 q'.setup.band,.slice A0 q'.setup.temps.length k0,.int .i64 q'.setup.points,.int .i64 q'.setup.most,.int .i64 q'.setup.pen,.slice A1 q'.setup.entries.length k1,.int .i64 q'.setup.dflt,.slice A2 q'.setup.bigrams.length k2,.int .i64 q'.setup.pause,.slice A3 q'.strokes.length k3,.slice A4 q'.opn.length k4,.int .i64 q'.time,.slice A5 q'.words.length k5]) (by simp only [results,Tryz.results15]; go_simp) rfl ?_;exact ⟨q',_,_,rfl,HS.out,FIN.out.1,⟨HND.out,fun x hx=>by have:=HFR.out x hx; omega⟩,FIN.out.2.1,FIN.out.2.2⟩
end Go.Proofs.YtafgknkcjohjeaaGreatDoor

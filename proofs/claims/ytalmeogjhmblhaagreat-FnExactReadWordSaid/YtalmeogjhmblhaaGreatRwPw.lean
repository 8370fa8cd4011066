/- A place at a part of the length of a stroke, in the program. Conditions: none. -/
import Derived.Test.YtalmeogjhmblhaaGreatTkw
import Derived.Test.YtalmeogjhmblhaaGreatRwLw
import Derived.Deep.Cut
import Derived.Deep.CutRange
import Derived.Test.YtalmeogjhmblhaaGreatRwQw
import Derived.Test.YtalmeogjhmblhaaGreatAppendw
import Derived.Laws.StructEq
namespace Go.Proofs.YtalmeogjhmblhaaGreat
open Go Go.RowKit
set_option maxHeartbeats 8000000
set_option maxRecDepth 100000
theorem impl_spotAt_c {ob oa:Bool} {e:TypeId} {s:PStroke} {v:Value} {F Fa:List Nat} {va:Value} {part parts:Int} (w:World) (h:(pPoints e).rep ob w s [v] F) (ha:(nums 2).rep oa w (arcs s s.length) [va] Fa) (hs:strokeB s=true) (hp:0≤part∧part≤1000) (hq:1≤parts∧parts≤1000) :
 Calls Tryz.prog 313 #[.agg #[v],va,.int .i64 part,.int .i64 parts] w fun e w'=>e=.returned (.agg #[.int .i64 (spotZ s part parts).1,.int .i64 (spotZ s part parts).2])∧Below w.heap.size w w':=by
 obtain ⟨hl60,hl1,hpt⟩:=stroke_pts hs;obtain ⟨A,c,rfl⟩:=slice_len h;obtain ⟨m,hm⟩:∃ m,s.length=m+1:=⟨s.length - 1,by omega⟩
 obtain ⟨Au,uc,rfl,-,-,hu⟩:=nums_open ha;obtain ⟨ub,uo,rfl,hub,-,um,-⟩:=hu m (by rw [arcs_len]; omega);rw [arcs_get] at um;rw [arcs_len];have HA:=Lib.hid ha;have H:=Lib.hid h;have HUB:=Lib.hid hub;have kl:IntKind.i64.wrap ((s.length:Int) - 1)=(m:Int):=(IntWalk.i64_in _ (by omega)).trans (by omega);have gm:(m:Int) < (s.length:Int):=by omega
 have gm0:(0:Int)≤(m:Int):=by omega
 have hap:=arc_prod hs (i:=m) (by omega) hp.1 hp.2;obtain ⟨G,hG⟩:∃ G,arcZ s m * part=G:=⟨_,rfl⟩
 rw [hG] at hap;have kG:IntKind.i64.wrap (arcZ s m * part)=G:=by rw [hG]; exact IntWalk.i64_in _ (by omega)
 have hGl:arcZ s (s.length - 1) * part=G:=by rw [hm,Nat.add_sub_cancel]; exact hG
 have R0:=Row.new (w.alloc (.cells #[.slice A s.length c] 124)) 355 #[.int .i64 0,.int .i64 0];simp only [World.size_alloc] at R0;have RG:=(Row.new w 124 #[.slice A s.length c]).alloc (.cells #[.int .i64 0,.int .i64 0] 355);have bb:Below w.heap.size w ((w.alloc (.cells #[.slice A s.length c] 124)).alloc (.cells #[.int .i64 0,.int .i64 0] 355)):=((Below.refl _ _).alloc (Nat.le_refl _) _).alloc (by simp) _;have ST:=Lib.hid (And.intro R0 (And.intro bb RG.c0));have HM:=Lib.hid hm;have HP:=Lib.hid hp;have HQ:=Lib.hid hq;have HPT:=Lib.hid hpt;have HGL:=Lib.hid hGl;have HAP:=Lib.hid hap;clear R0 RG bb hu ha h hm hp hq hpt hGl hG hap
 go_enter Tryz.func313,Tryz.ntmps313
 go_wp2_with fail
 clear um kl gm gm0 kG hub
 go_loopw [10] (fun i wr=>∃ k:Nat,i=.int .i64 k∧1≤k∧k≤s.length∧Hid (Row wr (w.heap.size+1) 355 [.int .i64 0,.int .i64 0]∧Below w.heap.size w wr∧wr.cell? ⟨w.heap.size,0,none⟩=some (.slice A s.length c)∧∀ i,i < k→hitZ s part parts i=false)) (fun i _=>s.length - (intOf i).toNat)
 case atStart=>exact ⟨1,rfl,by omega,hl1,Lib.hid ⟨ST.out.1,ST.out.2.1,ST.out.2.2,fun i hi=>by rw [show i=0 by omega]; rfl⟩⟩
 case round =>
  obtain ⟨k,rfl,hk1,hk,all⟩:=hrel;obtain ⟨R0,hb,x0,hno⟩:=all.out;have hsz:=R0.lt;clear all ST
  by_cases hlt:k < s.length
  · obtain ⟨k1,rfl⟩:∃ k1,k=k1+1:=⟨k - 1,by omega⟩
    obtain ⟨A',c',he,-,-,hu⟩:=nums_open (HA.out.below hb);simp only [Value.slice.injEq,arcs_len] at he;obtain ⟨hA1,-,hA2⟩:=he;obtain ⟨ub',uo',e8,hub,-,u0,-⟩:=hu k1 (by rw [arcs_len]; omega);obtain ⟨ub'',uo'',e9,-,-,u1,-⟩:=hu (k1+1) (by rw [arcs_len]; omega);subst hA1;subst hA2;cases e8;cases e9;rw [arcs_get] at u0 u1
    have hn1:hitZ s part parts (k1+1)=(decide (arcZ s (k1+1)≠arcZ s k1) && decide (G≤arcZ s (k1+1) * parts)):=by
     rw [hitZ,HGL.out,Nat.add_sub_cancel,show decide (0 < k1+1)=true by simp,Bool.true_and]
    have nx:hitZ s part parts (k1+1)=false→∀ i,i < k1+1+1→hitZ s part parts i=false:=fun hf i hi=>by
     by_cases hik:i=k1+1
     · rw [hik]; exact hf
     · exact hno i (by omega)
    have hsm:=hit_small hs HP.out.1 HP.out.2 HQ.out.1 HQ.out.2 hlt hno;have hsp:=hit_some hlt hno;rw [HGL.out] at hsm;have R1:=Lib.hid (fun n=>And.intro (R0.drewN n) (And.intro (below_drewN hb n) (show (wr.drewN n).cell? ⟨w.heap.size,0,none⟩=some (.slice A s.length c) from x0)));have hpr:=arc_prod hs hlt (m:=parts) (by have:=HQ.out; omega) HQ.out.2;have hpr0:=arc_prod hs (i:=k1) (by omega) (m:=parts) (by have:=HQ.out; omega) HQ.out.2;have kP:=IntWalk.i64_in (arcZ s (k1+1) * parts) (by omega);have kP0:=IntWalk.i64_in (arcZ s k1 * parts) (by omega);have kL:IntKind.i64.wrap (arcZ s (k1+1) - arcZ s k1)=arcZ s (k1+1) - arcZ s k1:=IntWalk.i64_in _ (by have:=arcZ_small hs k1 (by omega); have:=arcZ_small hs (k1+1) hlt; omega);have HPR:=Lib.hid (And.intro hpr hpr0);have kw:=IntWalk.i64_in (((k1+1:Nat):Int)+1) (by omega);have km:IntKind.i64.wrap (((k1+1:Nat):Int) - 1)=(k1:Int):=by rw [IntWalk.i64_in _ (by omega)]; omega
    have g1:((k1+1:Nat):Int) < (s.length:Int):=by omega
    have g2:(k1:Int) < (s.length:Int):=by omega
    have g3:(0:Int)≤(k1:Int):=by omega
    have HN1:=Lib.hid hn1;have NX:=Lib.hid nx;have HSM:=Lib.hid hsm;have HSP:=Lib.hid hsp;have HB:=Lib.hid hb;clear hu nx hsm hsp hno hn1 hb hpr hpr0 R0;generalize hkk:((k1+1:Nat):Int)=kk at kw km g1 ⊢;have gk:kk.toNat=k1+1:=by omega
    have g5:0≤kk:=by omega
    have HKK:=Lib.hid hkk;clear hkk
    by_cases hz:arcZ s (k1+1)=arcZ s k1
    · have hf:hitZ s part parts (k1+1)=false:=by rw [HN1.out]; simp [hz]
      have HF:=Lib.hid (NX.out hf);have kz:IntKind.i64.wrap (arcZ s k1 - arcZ s k1)=0:=by rw [Int.sub_self]; rfl
      rw [hz] at u1;clear hf hz HN1 NX HSM HSP kP kL
      go_wp2_with fail
      go_quiet (fail)
      go_wp2_with fail
      obtain ⟨q1,q2,q3⟩:=R1.out nq;refine ⟨⟨k1+1+1,?_,by omega,by omega,Lib.hid ⟨q1,q2,q3,HF.out⟩⟩,?_⟩
      · rw [← HKK.out]; go_num
      · rw [← HKK.out]; simp [intOf]; omega
    · have hzd:decide (arcZ s (k1+1) - arcZ s k1=0)=false:=by simp; omega
      have hzb:(arcZ s (k1+1) - arcZ s k1 == 0)=false:=by simp; omega
      by_cases hgp:arcZ s (k1+1) * parts < G
      · have hf:hitZ s part parts (k1+1)=false:=by rw [HN1.out]; simp; omega
        have HF:=Lib.hid (NX.out hf);clear hf HN1 NX HSM HSP
        go_wp2_with fail
        go_quiet (fail)
        go_wp2_with fail
        obtain ⟨q1,q2,q3⟩:=R1.out nq;refine ⟨⟨k1+1+1,?_,by omega,by omega,Lib.hid ⟨q1,q2,q3,HF.out⟩⟩,?_⟩
        · rw [← HKK.out]; go_num
        · rw [← HKK.out]; simp [intOf]; omega
      · have hf:hitZ s part parts (k1+1)=true:=by rw [HN1.out]; simp; omega
        obtain ⟨m1,m2,m3,m4,m5,m6⟩:=HSM.out hf;have hsp:=HSP.out hf;have hin:=spotZ_in (s:=s) (part:=part) (parts:=parts) (xl:=0) (xh:=4095) (yl:=0) (yh:=4095) hs HP.out.1 (by have:=HQ.out; omega) (fun j hj=>by have:=(HPT.out j hj).1; rw [(HPT.out j hj).2] at this; simp only [pointB,inR,Bool.and_eq_true,decide_eq_true_eq] at this; omega) (fun j hj=>by have:=(HPT.out j hj).1; rw [(HPT.out j hj).2] at this; simp only [pointB,inR,Bool.and_eq_true,decide_eq_true_eq] at this; omega);rw [hsp,placeZ] at hin;rw [placeZ] at hsp;simp only [Nat.add_sub_cancel] at hsp hin;rw [HGL.out,← (HPT.out k1 (by omega)).2,← (HPT.out (k1+1) hlt).2] at hsp hin;have pa:=(HPT.out k1 (by omega)).1;have pb:=(HPT.out (k1+1) hlt).1;simp only [pointB,inR,Bool.and_eq_true,decide_eq_true_eq] at pa pb;obtain ⟨rs,hrs⟩:∃ r,G - arcZ s k1 * parts=r:=⟨_,rfl⟩
        obtain ⟨al,hal⟩:∃ r,(arcZ s (k1+1) - arcZ s k1) * parts=r:=⟨_,rfl⟩
        rw [hrs,hal] at hsp hin;rw [hal] at m3 m4 m6;rw [hrs] at m5 m6;obtain ⟨b1,b2⟩:=mul_small (d:=s[k1+1].x - s[k1].x) (r:=rs) (by omega) (by omega);obtain ⟨b3,b4⟩:=mul_small (d:=s[k1+1].y - s[k1].y) (r:=rs) (by omega) (by omega);have CX:=Lib.hid (fun w=>impl_nearestDiv_c ((s[k1+1].x - s[k1].x) * rs) al w m3 (by omega) (by omega));have CY:=Lib.hid (fun w=>impl_nearestDiv_c ((s[k1+1].y - s[k1].y) * rs) al w m3 (by omega) (by omega));have z1:IntKind.i64.wrap (G - arcZ s k1 * parts)=rs:=by rw [hrs]; exact IntWalk.i64_in _ (by omega)
        have z3:IntKind.i64.wrap ((arcZ s (k1+1) - arcZ s k1) * parts)=al:=by rw [hal]; exact IntWalk.i64_in _ (by omega)
        have z4:=IntWalk.i64_in (s[k1+1].x - s[k1].x) (by omega);have z5:=IntWalk.i64_in (s[k1+1].y - s[k1].y) (by omega);have z6:=IntWalk.i64_in ((s[k1+1].x - s[k1].x) * rs) (by omega);have z7:=IntWalk.i64_in ((s[k1+1].y - s[k1].y) * rs) (by omega);have z8:=IntWalk.i64_in (s[k1].x+nearZ ((s[k1+1].x - s[k1].x) * rs) al) (by omega);have z9:=IntWalk.i64_in (s[k1].y+nearZ ((s[k1+1].y - s[k1].y) * rs) al) (by omega);obtain ⟨A',c',he,-,-,hr⟩:=pPoints_open (H.out.below HB.out);cases he;obtain ⟨bp,op,rfl,hbp,-,p0,p1,p2,-⟩:=hr k1 (by omega);obtain ⟨bp',op',e8,-,-,q0,q1,q2,-⟩:=hr (k1+1) hlt;cases e8;have g6:¬ kk=(s.length:Int):=by omega
        have HSP2:=Lib.hid hsp;have hd:decide (arcZ s (k1+1) * parts < G)=false:=by simp; omega
        clear hgp;clear hr hf hsp hin hrs hal m1 m2 m3 m4 m5 m6 pa pb b1 b2 b3 b4 HN1 NX HSM HSP HPT HGL HAP HM HP HQ HPR H
        go_wp2_with fail
        go_quiet (fail)
        obtain ⟨m9,rfl⟩:∃ n:Nat,n=nq:=⟨_,rfl⟩
        obtain ⟨S0,sb,-⟩:=R1.out m9;replace x0:(wr.drewN m9).cell? _=_:=x0;replace u0:(wr.drewN m9).cell? _=_:=u0;replace u1:(wr.drewN m9).cell? _=_:=u1;replace p0:(wr.drewN m9).cell? _=_:=p0;replace p1:(wr.drewN m9).cell? _=_:=p1;replace p2:(wr.drewN m9).cell? _=_:=p2;replace q0:(wr.drewN m9).cell? _=_:=q0;replace q1:(wr.drewN m9).cell? _=_:=q1;replace q2:(wr.drewN m9).cell? _=_:=q2;replace hub:ub < (wr.drewN m9).heap.size:=hub;replace hbp:bp < (wr.drewN m9).heap.size:=hbp;replace hsz:w.heap.size+1 < (wr.drewN m9).heap.size:=hsz;clear R1 HB;generalize wr.drewN m9=wd at *;have hg0:w.heap.size < wd.heap.size:=by omega
        go_upto_region 7 with fail
        go_cut [12,13] from 52 to 62 (fun s12 s13 wx=>∃ PA PB,s12=.pointer (some ⟨PA,0,none⟩)∧s13=.pointer (some ⟨PB,0,none⟩)∧w.heap.size+1 < PA∧w.heap.size+1 < PB∧Row wx PA 128 [.int .i64 s[k1].x,.int .i64 s[k1].y,.int .i64 s[k1].t]∧Row wx PB 128 [.int .i64 s[k1+1].x,.int .i64 s[k1+1].y,.int .i64 s[k1+1].t]∧Row wx (w.heap.size+1) 355 [.int .i64 0,.int .i64 0]∧Below w.heap.size w wx∧wx.cell? ⟨ub,uo+k1,none⟩=some (.int .i64 (arcZ s k1)))
        case first =>
         go_region
         all_goals go_wp2_with fail
         all_goals go_meet
         all_goals trace_state
         · have R2:=Row.new (wd.alloc (.cells #[.int .i64 s[k1].x,.int .i64 s[k1].y,.int .i64 s[k1].t] 128)) 128 #[.int .i64 s[k1+1].x,.int .i64 s[k1+1].y,.int .i64 s[k1+1].t]
           simp only [World.size_alloc] at R2;exact ⟨wd.heap.size,wd.heap.size+1,rfl,rfl,by omega,by omega,((Row.new wd 128 #[.int .i64 s[k1].x,.int .i64 s[k1].y,.int .i64 s[k1].t]).alloc (.cells #[.int .i64 s[k1+1].x,.int .i64 s[k1+1].y,.int .i64 s[k1+1].t] 128)).drew,R2.drew,((S0.alloc (.cells #[.int .i64 s[k1].x,.int .i64 s[k1].y,.int .i64 s[k1].t] 128)).alloc (.cells #[.int .i64 s[k1+1].x,.int .i64 s[k1+1].y,.int .i64 s[k1+1].t] 128)).drew,((sb.alloc sb.size (.cells #[.int .i64 s[k1].x,.int .i64 s[k1].y,.int .i64 s[k1].t] 128)).alloc (by simp; omega) (.cells #[.int .i64 s[k1+1].x,.int .i64 s[k1+1].y,.int .i64 s[k1+1].t] 128)).drew,(World.cell?_alloc_past (w:=wd.alloc (.cells #[.int .i64 s[k1].x,.int .i64 s[k1].y,.int .i64 s[k1].t] 128)) _ _ _ (by simp; omega)).trans ((World.cell?_alloc_past (w:=wd) _ _ _ hub).trans u0)⟩
         · have R2:=Row.new (wd.alloc (.cells #[.int .i64 s[k1+1].x,.int .i64 s[k1+1].y,.int .i64 s[k1+1].t] 128)) 128 #[.int .i64 s[k1].x,.int .i64 s[k1].y,.int .i64 s[k1].t]
           simp only [World.size_alloc] at R2;exact ⟨wd.heap.size+1,wd.heap.size,rfl,rfl,by omega,by omega,R2.drew,((Row.new wd 128 #[.int .i64 s[k1+1].x,.int .i64 s[k1+1].y,.int .i64 s[k1+1].t]).alloc (.cells #[.int .i64 s[k1].x,.int .i64 s[k1].y,.int .i64 s[k1].t] 128)).drew,((S0.alloc (.cells #[.int .i64 s[k1+1].x,.int .i64 s[k1+1].y,.int .i64 s[k1+1].t] 128)).alloc (.cells #[.int .i64 s[k1].x,.int .i64 s[k1].y,.int .i64 s[k1].t] 128)).drew,((sb.alloc sb.size (.cells #[.int .i64 s[k1+1].x,.int .i64 s[k1+1].y,.int .i64 s[k1+1].t] 128)).alloc (by simp; omega) (.cells #[.int .i64 s[k1].x,.int .i64 s[k1].y,.int .i64 s[k1].t] 128)).drew,(World.cell?_alloc_past (w:=wd.alloc (.cells #[.int .i64 s[k1+1].x,.int .i64 s[k1+1].y,.int .i64 s[k1+1].t] 128)) _ _ _ (by simp; omega)).trans ((World.cell?_alloc_past (w:=wd) _ _ _ hub).trans u0)⟩
        case rest =>
         obtain ⟨we,hWe⟩:∃ W,W=wc:=⟨_,rfl⟩
         subst hWe;obtain ⟨PA,PB,rfl,rfl,lA,lB,RA,RB,RR,BB,u0⟩:=hcut;clear S0 sb u1 p0 p1 p2 q0 q1 q2 x0 hg0
         go_upto_region 9 with fail
         replace RA:=RA.drew;replace RB:=RB.drew;replace RR:=RR.drew;replace BB:=BB.drew;have hS:=And.intro (RA.c0) (And.intro (RA.c1) (And.intro (RB.c0) (RB.c1)));refine wp_region_held_drew (S:=(fun w':World=>w'.cell? ⟨PA,0,none⟩=some (.int .i64 s[k1].x)∧w'.cell? ⟨PA,1,none⟩=some (.int .i64 s[k1].y)∧w'.cell? ⟨PB,0,none⟩=some (.int .i64 s[k1+1].x)∧w'.cell? ⟨PB,1,none⟩=some (.int .i64 s[k1+1].y))) (by kernel_rfl) hS (fun _=>?_);generalize World.drew _=we at RA RB RR BB hS ⊢;refine tJ 0 hS ?_;refine tJ 1 hS ?_;refine tJ 2 hS ?_;refine tJ 3 hS ?_;refine tJ 4 hS ?_;refine tJ 5 hS ?_;refine tJ 6 hS ?_;refine tJ 7 hS ?_;refine tJ 8 hS ?_;refine tJ 9 hS ?_;refine tJ 12 hS ?_;refine tJ 13 hS ?_;refine tJ 14 hS ?_;refine tJ 15 hS ?_;refine tJ 16 hS ?_;refine tJ 17 hS ?_;refine tJ 18 hS ?_;refine tJ 19 hS ?_;refine tJ 20 hS ?_;refine tJ 21 hS ?_;refine tC (i:=10) 315 #[Go.Operand.tmp 83,Go.Operand.tmp 84] #[.int .i64 ((s[k1+1].x - s[k1].x) * rs),.int .i64 al] Tryz.call315 CX.out hS ?_;simp only [Act.put,pA,pB,pC];refine tC (i:=22) 315 #[Go.Operand.tmp 95,Go.Operand.tmp 96] #[.int .i64 ((s[k1+1].y - s[k1].y) * rs),.int .i64 al] Tryz.call315 CY.out hS ?_;simp only [Act.put,pA,pB,pC];refine tJ 11 hS ?_;refine tJ 23 hS ?_;refine tJ 24 hS ?_;generalize s[k1].x+nearZ ((s[k1+1].x - s[k1].x) * rs) al=nx at *;generalize s[k1].y+nearZ ((s[k1+1].y - s[k1].y) * rs) al=ny at *;have RR':=(RR.set 0 (.int .i64 nx)).set 1 (.int .i64 ny);have v0:=RR.c0;have v1:=RR.c1;have vF:=RR.frozen
         have far:∀ {g i:Nat} {u:Value},g≠w.heap.size+1→we.cell? ⟨g,i,none⟩=some u→((we.setCell ⟨w.heap.size+1,0,none⟩ (.int .i64 nx)).setCell ⟨w.heap.size+1,1,none⟩ (.int .i64 ny)).cell? ⟨g,i,none⟩=some u:=fun hg hc =>
          (World.cell?_of_block ((Below.heap_setCell _ ⟨w.heap.size+1,1,none⟩ _ _ hg).trans (Below.heap_setCell _ ⟨w.heap.size+1,0,none⟩ _ _ hg))).trans hc
         have bb2:=(BB.setCell (p:=⟨w.heap.size+1,0,none⟩) (by show w.heap.size≤w.heap.size+1; omega) (.int .i64 nx)).setCell (p:=⟨w.heap.size+1,1,none⟩) (by show w.heap.size≤w.heap.size+1; omega) (.int .i64 ny);have hS2:=And.intro (far (by omega) hS.1) (And.intro (far (by omega) hS.2.1) (And.intro (far (by omega) hS.2.2.1) (far (by omega) hS.2.2.2)));refine rJ 25 fun K hK=>?_
         clear hS
         go_simp
         refine bJ hK hS2 ?_;clear hK K hS2 far v0 v1 vF;refine wpAnyH_done (by kernel_rfl) ?_ _;have e0:=RR'.c0;have e3:=RR'.c1
         go_wp2_with fail
         rw [HSP2.out];refine bodyPost_ret (v:=.agg #[.int .i64 nx,.int .i64 ny]) (by simp only [results,Tryz.results313]; go_simp) rfl ⟨rfl,bb2⟩
  · have hke:k=s.length:=by omega
    subst hke;have gk:¬ (s.length:Int) < (s.length:Int):=by omega
    have hsp:=hit_none rfl hno;have HSP:=Lib.hid hsp;have CF:=Lib.hid (impl_firstOf_c wr (H.out.below hb) (by omega));have CS:=Lib.hid (fun w=>impl_spotOf_c (pt s 0) w);have sb:=Lib.hid hb;have S0:=R0;clear hno H hsp hb R0 hlt HPT HGL HAP HM HP HQ hk hk1 HA
    go_wp2_with fail
    refine CF.out.mono ?_;rintro e w1 ⟨rfl,b1⟩;replace S0:=S0.later b1;have sb1:=Lib.hid (sb.out.trans (b1.mono sb.out.size));clear b1
    go_wp2_with fail
    refine (CS.out _).mono ?_;rintro e w2 ⟨rfl,b2⟩;replace S0:=S0.later b2;have sb2:=sb1.out.trans (b2.mono sb1.out.size);generalize pt s 0=p at *;have v0:=S0.c0;have v1:=S0.c1;have vF:=S0.frozen;have T0:=(S0.set 0 (.int .i64 p.x)).set 1 (.int .i64 p.y);have TB:=(sb2.setCell (p:=⟨w.heap.size+1,0,none⟩) (by show w.heap.size≤w.heap.size+1; omega) (.int .i64 p.x)).setCell (p:=⟨w.heap.size+1,1,none⟩) (by show w.heap.size≤w.heap.size+1; omega) (.int .i64 p.y);have e0:=T0.c0;have e1:=T0.c1;clear x0 b2 sb2 S0 T0
    go_wp2_with fail
    rw [HSP.out];refine bodyPost_ret (v:=.agg #[.int .i64 p.x,.int .i64 p.y]) (by simp only [results,Tryz.results313]; go_simp) rfl ⟨rfl,TB⟩
theorem impl_resample_c {ob:Bool} {e:TypeId} {s:PStroke} {v:Value} {n:Nat} {F:List Nat} (w:World) (h:(pPoints e).rep ob w s [v] F) (hs:strokeB s=true) (hn:2≤n∧n≤24) :
 Calls Tryz.prog 275 #[.agg #[v],.int .i64 (n:Int)] w (GivesO (pSpots 355) (spots s n n) w):=by
 obtain ⟨A,c,rfl⟩:=slice_len h;have b0:Below w.heap.size w (w.alloc (.cells #[.slice A s.length c] 124)):=(Below.refl _ _).alloc (Nat.le_refl _) _;have CA:=Lib.hid (impl_arcsOf_c (w.alloc (.cells #[.slice A s.length c] 124)) (h.below b0) hs);have CT:=Lib.hid (fun (wr w1:World) (va:Value) (Fa:List Nat) (k:Nat) (hk:k < n) (b:Below w.heap.size w wr) (ra:(nums 2).rep true wr (arcs s s.length) [va] Fa)=>impl_spotAt_c (part:=(k:Int)) (parts:=(n:Int) - 1) wr (h.below b) ra hs (by omega) (by omega));have x0:=(Row.new w 124 #[.slice A s.length c]).c0;have X0:=Lib.hid x0;have l0:w.heap.size < (w.alloc (.cells #[.slice A s.length c] 124)).heap.size:=by simp
 have B0:=Lib.hid b0;have kn:=IntWalk.i64_in ((n:Int) - 1) (by omega);clear h b0
 go_enter Tryz.func275,Tryz.ntmps275
 go_wp2_with fail
 refine CA.out.mono ?_;rintro e w1 ⟨va,Fa,rfl,ra,fa,b1⟩;have RA:=Lib.hid ra;have B1:=Lib.hid (B0.out.trans (b1.mono B0.out.size));have x1:=(b1.cell (p:=⟨w.heap.size,0,none⟩) l0).trans X0.out;have X1:=Lib.hid x1;have l1:w.heap.size < w1.heap.size:=Nat.lt_of_lt_of_le l0 b1.size;clear ra fa b1 CA x0
 go_wp2_with fail
 go_loopw [6,7] (fun l i wr=>∃ (k:Nat) (v:Value) (G:List Nat),l=v∧i=.int .i64 k∧k≤n∧Hid ((pSpots 355).rep true wr (spots s n k) [v] G∧Fresh w1.heap.size G∧Below w1.heap.size w1 wr)) (fun _ i _=>n - (intOf i).toNat)
 case atStart =>
  exact ⟨0,_,[],rfl,rfl,by omega,Lib.hid ⟨slice_nil pSpot _ _ _,⟨by simp,by simp⟩,Below.refl _ _⟩⟩
 case round =>
  obtain ⟨k,vk,G,rfl,rfl,hk,all⟩:=hrel;obtain ⟨rep,fr,hb⟩:=all.out;have REP:=Lib.hid rep;have FR:=Lib.hid fr;have HB:=Lib.hid hb;have x2:=(hb.cell (p:=⟨w.heap.size,0,none⟩) l1).trans X1.out;clear all;obtain ⟨U,un,uc,rfl⟩:=slice_form rep;clear rep fr hb
  by_cases hlt:k < n
  · have gk:(k:Int) < (n:Int):=by omega
    have kw:=IntWalk.i64_in ((k:Int)+1) (by omega);have hwr:=B1.out.trans (HB.out.mono B1.out.size);have C:=Lib.hid (CT.out wr w1 va Fa k hlt hwr (RA.out.below HB.out));have hsn:spotZ s (k:Int) ((n:Int) - 1)=spotN s n k:=rfl;rw [hsn] at C;have hin:=spotN_in hs hn.1 (k:=k);have OKS:=Lib.hid (show ∀ z∈[spotN s n k],I64 z.1∧I64 z.2 by intro z hz; simp only [List.mem_singleton] at hz; subst hz; constructor <;> constructor <;> omega);have SU:=Lib.hid (spots_succ s n k);have SL:=Lib.hid (spots_len s n k);clear hwr hsn hin CT;generalize hsp:spotN s n k=sp at *;obtain ⟨px,py⟩:=sp;dsimp only at C;clear hsp;obtain ⟨UA,ua,uac,rfl⟩:=slice_form RA.out
    go_wp2_with fail
    refine C.out.mono ?_;rintro e w2 ⟨rfl,b2⟩;clear x2;replace REP:=Lib.hid (REP.out.below b2);replace HB:=Lib.hid (HB.out.trans (b2.mono HB.out.size));clear b2
    go_wp2_with (at_builtin; refine wpList_append_repX (T:=pSpot) (e:=355) (ys:=[(px,py)]) (ec:=[.int .i64 px,.int .i64 py]) rfl (.tmp 15) (.tmp 22) rfl Tryz.underlying352 infoSpot rfl (by decide) rfl (REP.out.alloc _) rfl (repL_pSpot _ OKS.out) (cellsAt_new _ _ _) trivial (by rw [List.append_nil]; exact FR.out.1) (by have:=SL.out; simp only [List.length_singleton,maxLen]; omega) (by have:=SL.out; simp only [List.length_singleton]; omega) ?_; intro v6 w6 F6 r6 o6 q6 x6)
    have hz6:=HB.out.size;have f6:Fresh w1.heap.size F6:=q6 w1.heap.size (by rw [List.append_nil]; exact FR.out) (by simp only [World.size_alloc]; omega);have b6:=(HB.out.alloc hz6 (.cells #[.int .i64 px,.int .i64 py] 355)).trans (o6.below (B:=w1.heap.size) (by simp only [World.size_alloc]; omega) FR.out.2);refine ⟨⟨k+1,v6,F6,rfl,by go_num,by omega,Lib.hid ⟨?_,f6,b6⟩⟩,by simp [intOf]; omega⟩;rw [SU.out];exact r6
  · obtain rfl:k=n:=by omega
    have gk:¬ (k:Int) < (k:Int):=by omega
    clear CT
    go_wp2_with fail
    go_ret;exact ⟨_,G,rfl,REP.out,⟨FR.out.1,fun b hb=>Nat.le_trans B1.out.size (FR.out.2 b hb)⟩,B1.out.trans (HB.out.mono B1.out.size)⟩
theorem Spot_neq (s t:Int × Int) (w:World):(binOp .neq 355 (.agg #[.int .i64 s.1,.int .i64 s.2]) (.agg #[.int .i64 t.1,.int .i64 t.2])).run Tryz.prog w=.ok (.bool (!decide (s=t))) w:=by
 have hS:Tryz.prog.underlying 355=some (.struct (Tryz.prog.fieldsOf 355)):=by kernel_rfl
 have hp:Tryz.prog.stoodInHeld 355=false:=by kernel_rfl
 rw [run_neq_struct,show (10000:Nat)=9999+1 from rfl,run_equalIn_agg w 9999 355 _ _ hS hp];simp only [Program.fieldsOf,Tryz.underlying355]
 go_simp
 obtain ⟨x0,x1⟩:=s;obtain ⟨y0,y1⟩:=t;simp only [Prod.mk.injEq]
 by_cases h0:x0=y0 <;> by_cases h1:x1=y1 <;> simp [h0,h1]
theorem featD_same {s:PStroke} {n k:Nat} (h:spotN s n (k+1)=spotN s n k):featD s n k=dirK s n k:=featD_stay (by rw [h]; omega) (by rw [h]; omega)
theorem featD_other {s:PStroke} {n k:Nat} (h:k+1 < n) (hd:¬ spotN s n (k+1)=spotN s n k):featD s n k=dirZ ((spotN s n (k+1)).1 - (spotN s n k).1) ((spotN s n (k+1)).2 - (spotN s n k).2) :=
 featD_move h (fun g=>hd (Prod.ext (by omega) (by omega)))
theorem impl_featsOfStroke_c {ob:Bool} {e:TypeId} {s:PStroke} {v:Value} {n:Nat} {F:List Nat} {b:BoxZ} (w:World) (h:(pPoints e).rep ob w s [v] F) (hs:strokeB s=true) (hn:2≤n∧n≤24) (hb:BoxInZ b) (hin:InZ (boxOfZ s) b) :
 Calls Tryz.prog 226 #[.agg #[v],.agg #[.int .i64 b.x1,.int .i64 b.y1,.int .i64 b.x2,.int .i64 b.y2],.int .i64 (n:Int)] w (GivesO (pFeats 347) (featsZ s b n) w):=by
 have b1:Below w.heap.size w (w.alloc (.cells #[v] 124)):=(Below.refl _ _).alloc (Nat.le_refl _) _;have b0:Below w.heap.size w ((w.alloc (.cells #[v] 124)).alloc (.cells #[.int .i64 b.x1,.int .i64 b.y1,.int .i64 b.x2,.int .i64 b.y2] 310)):=b1.alloc b1.size _;have CA:=Lib.hid (impl_resample_c ((w.alloc (.cells #[v] 124)).alloc (.cells #[.int .i64 b.x1,.int .i64 b.y1,.int .i64 b.x2,.int .i64 b.y2] 310)) (h.below b0) hs hn);have RX:=Row.new (w.alloc (.cells #[v] 124)) 310 #[.int .i64 b.x1,.int .i64 b.y1,.int .i64 b.x2,.int .i64 b.y2];have y0:=((Row.new w 124 #[v]).alloc (.cells #[.int .i64 b.x1,.int .i64 b.y1,.int .i64 b.x2,.int .i64 b.y2] 310)).c0;rw [World.size_alloc] at RX;have l0:w.heap.size+1 < ((w.alloc (.cells #[v] 124)).alloc (.cells #[.int .i64 b.x1,.int .i64 b.y1,.int .i64 b.x2,.int .i64 b.y2] 310)).heap.size:=by simp
 have ST:=Lib.hid (And.intro RX (And.intro l0 b0));have CN:=Lib.hid (fun (w:World) (k:Nat)=>impl_normalSpot_c (spotN s n k) b w hb (spotN_box hs hin hn.1 (k:=k)).1 (spotN_box hs hin hn.1 (k:=k)).2);have FO:=Lib.hid (fun k=>featZ_ok hs hin hn.1 (k:=k));have SI:=Lib.hid (fun k=>spotN_in hs hn.1 (k:=k));obtain ⟨Av,nv,cv,rfl⟩:=slice_form h;clear h RX l0 b0 hb hin hs b1
 go_enter Tryz.func226,Tryz.ntmps226
 go_wp2_with fail
 refine CA.out.mono ?_;rintro e w1 ⟨va,Fa,rfl,ra,fa,b1⟩;obtain ⟨RX,l0,b0⟩:=ST.out;have RX1:=Lib.hid (RX.later b1);have B1:=Lib.hid (b0.trans (b1.mono b0.size));have L1:=Nat.lt_of_lt_of_le l0 b1.size;have RA:=Lib.hid ra;clear fa b1 CA ST RX l0 b0 ra y0;obtain ⟨Au,uc,rfl,-,-,-⟩:=pSpots_open RA.out;rw [spots_len] at RA ⊢
 go_wp2_with fail
 go_loopw [8,9,18] (fun l d i wr=>∃ (k:Nat) (v:Value) (G:List Nat),l=v∧d=.int .i64 (dirK s n k)∧i=.int .i64 k∧k≤n∧Hid ((pFeats 347).rep true wr (featsK s b n k) [v] G∧Fresh w1.heap.size G∧Below w1.heap.size w1 wr)) (fun _ _ i _=>n - (intOf i).toNat)
 case atStart =>
  exact ⟨0,_,[],rfl,rfl,rfl,by omega,Lib.hid ⟨slice_nil pFeat _ _ _,⟨by simp,by simp⟩,Below.refl _ _⟩⟩
 case round =>
  obtain ⟨k,vk,G,rfl,rfl,rfl,hk,all⟩:=hrel;obtain ⟨rep,fr,hb⟩:=all.out;have REP:=Lib.hid rep;have FR:=Lib.hid fr;have HB:=Lib.hid hb;clear all;obtain ⟨U,un,uc2,rfl⟩:=slice_form rep;clear rep fr
  by_cases hlt:k < n
  · obtain ⟨A',c',he,-,-,hu⟩:=pSpots_open (RA.out.below hb)
    simp only [Value.slice.injEq,spots_len] at he;obtain ⟨hA1,-,hA2⟩:=he;subst hA1;subst hA2;obtain ⟨sb,so,rfl,hsb,-,a0,a1,-⟩:=hu k (by rw [spots_len]; omega);rw [spots_get] at a0 a1;have RX2:=RX1.out.below hb L1;have hbx:=Nat.lt_of_lt_of_le L1 hb.size;have hsi:=SI.out k;have gk:(k:Int) < (n:Int):=by omega
    have gk0:(0:Int)≤(k:Int):=by omega
    have kw:=IntWalk.i64_in ((k:Int)+1) (by omega);have FD:=Lib.hid (⟨_,rfl⟩:∃ d,featD s n k=d);have HU:=Lib.hid hu;have HBX:=Lib.hid RX2;clear hu hb RX2
    go_upto_region 7 with fail
    generalize hsp:spotN s n k=sp at a0 a1 hsi ⊢;have HSP:=Lib.hid hsp;clear hsp;have RP:=Row.new wr 355 #[.int .i64 sp.1,.int .i64 sp.2];have hal:Below wr.heap.size wr (wr.alloc (.cells #[.int .i64 sp.1,.int .i64 sp.2] 355)):=(Below.refl _ _).alloc (Nat.le_refl _) _;have HAL:=Lib.hid hal;generalize hwp:wr.alloc (.cells #[.int .i64 sp.1,.int .i64 sp.2] 355)=wp at RP hal HAL ⊢;have p0:=RP.c0;have p1:=RP.c1;have HRP:=Lib.hid RP;clear hwp RP a0 a1
    have HP2:=Lib.hid (fun k' (hk':k' < n)=>show wp.cell? ⟨sb,so+k' * 2,none⟩=some (.int .i64 (spotN s n k').1)∧wp.cell? ⟨sb,so+k' * 2+1,none⟩=some (.int .i64 (spotN s n k').2) by
     obtain ⟨sb',so',e8,-,-,c0,c1,-⟩:=HU.out k' (by rw [spots_len]; exact hk');cases e8;rw [spots_get] at c0 c1;exact ⟨(hal.cell (p:=⟨sb,_,none⟩) hsb).trans c0,(hal.cell (p:=⟨sb,_,none⟩) hsb).trans c1⟩)
    clear hal HU
    go_cut [36] from 23 to 67 (fun s36 wx=>s36=.bool (decide (k+1 < n∧¬ spotN s n (k+1)=spotN s n k))∧∃ m,wx=wp.drewN m)
    case first =>
     by_cases hl2:k+1 < n
     · obtain ⟨c0,c1⟩:=HP2.out (k+1) hl2
       have g1:(k:Int)+1 < (n:Int):=by omega
       have k1:((k:Int)+1).toNat=k+1:=by omega
       have k0:(0:Int)≤(k:Int)+1:=by omega
       have HL2:=Lib.hid hl2;have hm:Tryz.prog.eqGuardType Tryz.prog.depth 355=false:=by kernel_rfl
       have hq:=fun w=>Spot_neq (spotN s n (k+1)) sp w
       rw [← HSP.out] at p0 p1 hq;clear hl2 HP2 FD CN FO SI HRP HAL HBX
       by_cases heq:spotN s n (k+1)=spotN s n k
       · simp only [decide_eq_true heq,Bool.not_true] at hq
         have HE:=Lib.hid heq;clear heq
         go_quiet (fail)
         go_wp2_with fail
         go_meet
         case rel=>exact ⟨by rw [decide_eq_false (fun g=>g.2 HE.out)],_,rfl⟩
       · simp only [decide_eq_false heq,Bool.not_false] at hq
         have HE:=Lib.hid heq;clear heq
         go_quiet (fail)
         go_wp2_with fail
         go_meet
         case rel=>exact ⟨by rw [decide_eq_true ⟨HL2.out,HE.out⟩],_,rfl⟩
     · have g1:¬ (k:Int)+1 < (n:Int):=by omega
       have g2:decide ((k:Int)+1 < (n:Int))=false:=decide_eq_false g1;have HD:=Lib.hid hl2;clear FD CN FO SI hl2 HP2
       go_quiet (fail)
       go_wp2_with fail
       go_meet
       case rel=>exact ⟨by rw [decide_eq_false (fun g=>HD.out g.1)],_,rfl⟩
    case rest =>
     obtain ⟨wq,hwq⟩:∃ W,W=wc:=⟨_,rfl⟩
     subst hwq;obtain ⟨rfl,m,hm⟩:=hcut;have HP3:=Lib.hid (fun k' (hk':k' < n)=>show wq.cell? ⟨sb,so+k' * 2,none⟩=some (.int .i64 (spotN s n k').1)∧wq.cell? ⟨sb,so+k' * 2+1,none⟩=some (.int .i64 (spotN s n k').2) by rw [hm]; exact HP2.out k' hk');have RQ:Row wq wr.heap.size 355 [.int .i64 sp.1,.int .i64 sp.2]:=by rw [hm]; exact HRP.out
     have BQ:Below wr.heap.size wr wq:=by rw [hm]; exact below_drewN HAL.out m
     clear HP2 HRP HAL hm m p0 p1 wp FD;have p0:=RQ.c0;have p1:=RQ.c1;have HRQ:=Lib.hid RQ;have HBQ:=Lib.hid BQ;clear RQ BQ
     go_upto_if 36 with fail
     go_cut [9] from 36 to 67 (fun d wx=>d=.int .i64 (featD s n k)∧∃ m,wx=wq.drewN m)
     case first =>
      by_cases hc:k+1 < n∧¬ spotN s n (k+1)=spotN s n k
      · obtain ⟨hl2,hne⟩:=hc
        have HD:=Lib.hid (featD_other (s:=s) hl2 hne);obtain ⟨c0,c1⟩:=HP3.out (k+1) hl2;have hsj:=SI.out (k+1);have g1:(k:Int)+1 < (n:Int):=by omega
        have k1:((k:Int)+1).toNat=k+1:=by omega
        have k0:(0:Int)≤(k:Int)+1:=by omega
        have hd:decide (k+1 < n∧¬ spotN s n (k+1)=spotN s n k)=true:=decide_eq_true ⟨hl2,hne⟩;rw [HSP.out] at HD;obtain ⟨dx,hdx⟩:∃ d,(spotN s n (k+1)).1 - sp.1=d:=⟨_,rfl⟩
        obtain ⟨dy,hdy⟩:∃ d,(spotN s n (k+1)).2 - sp.2=d:=⟨_,rfl⟩
        rw [hdx,hdy] at HD;have kx:IntKind.i64.wrap ((spotN s n (k+1)).1 - sp.1)=dx:=by rw [hdx]; exact IntWalk.i64_in _ (by omega)
        have ky:IntKind.i64.wrap ((spotN s n (k+1)).2 - sp.2)=dy:=by rw [hdy]; exact IntWalk.i64_in _ (by omega)
        have CS:=Lib.hid (fun w=>impl_directionOf_c dx dy w (by omega) (by omega));clear hsi hsj hdx hdy HP3 CN FO SI hl2 hne HRQ HBQ HBX;rw [hd];clear hd
        go_wp2_with fail
        go_quiet ((go_at_call 276; exact Calls.quiet_of_same (CS.out _)))
        go_wp2_with fail
        go_meet
        case rel=>exact ⟨by rw [HD.out],_,rfl⟩
      · have hd:decide (k+1 < n∧¬ spotN s n (k+1)=spotN s n k)=false:=decide_eq_false hc
        have HD:=Lib.hid (show featD s n k=dirK s n k by
         by_cases hl2:k+1 < n
         · exact featD_same (Classical.not_not.1 fun g=>hc ⟨hl2,g⟩)
         · exact featD_last hl2)
        clear hc HP3 CN FO SI HRQ HBQ HBX;rw [hd];clear hd
        go_wp2_with fail
        go_meet
        case rel=>exact ⟨by rw [HD.out],0,rfl⟩
     case rest =>
      obtain ⟨wx,hwx⟩:∃ W,W=wc:=⟨_,rfl⟩
      subst hwx;obtain ⟨rfl,m,hm⟩:=hcut;have BX:Below wq.heap.size wq wx:=by rw [hm]; exact below_drewN (Below.refl _ _) m
      have BW:=HBQ.out.trans (BX.mono HBQ.out.size);have RQ:=HRQ.out.later BX;have p0:=RQ.c0;have p1:=RQ.c1;have RX:=HBX.out.later BW;have x0:=RX.c0;have x1:=RX.c1;have x2:=RX.c2;have x3:=RX.c3;have REP1:=Lib.hid (REP.out.below BW);have HB1:=Lib.hid (HB.out.trans (BW.mono HB.out.size));clear BX BW RQ RX hm HRQ HBQ HBX HP3;have FZ:=Lib.hid (show featZ s b n k=⟨(normZ (spotN s n k) b).1,(normZ (spotN s n k) b).2,featD s n k⟩ from rfl);have OKS:=Lib.hid (FO.out k);have SU:=Lib.hid (featsK_succ s b n k);have SL:=Lib.hid (featsK_len s b n k);have C:=Lib.hid (fun w=>CN.out w k);rw [HSP.out] at C FZ;generalize normZ sp b=np at C FZ;obtain ⟨nx,ny⟩:=np;dsimp only at C FZ;generalize hfd:featD s n k=fd at FZ ⊢;have HFD:=Lib.hid hfd;clear hfd CN FO SI hsi
      go_wp2_with fail
      refine (C.out _).mono ?_;rintro e w3 ⟨rfl,b3⟩;replace REP1:=Lib.hid (REP1.out.below b3);replace HB1:=Lib.hid (HB1.out.trans (b3.mono HB1.out.size));clear p0 p1 x0 x1 x2 x3 b3;have REP2:=Lib.hid (REP1.out.alloc (.cells #[.int .i64 nx,.int .i64 ny] 355));have HB2:=Lib.hid (HB1.out.alloc HB1.out.size (.cells #[.int .i64 nx,.int .i64 ny] 355));have RN:=Row.new w3 355 #[.int .i64 nx,.int .i64 ny];have y0:=RN.c0;have y1:=RN.c1
      go_upto_region 10 with fail
      generalize w3.alloc (.cells #[.int .i64 nx,.int .i64 ny] 355)=w4 at REP2 HB2 y0 y1 ⊢;clear RN
      go_wp2_with (at_builtin; (refine wpList_append_repX (T:=pFeat) (e:=347) (ys:=[⟨nx,ny,fd⟩]) (ec:=[.int .i64 nx,.int .i64 ny,.int .i64 fd]) rfl (.tmp 59) (.tmp 66) rfl Tryz.underlying258 Tryz.infoFeatW rfl (by decide) rfl (REP2.out.alloc _) rfl (repL_pFeat [⟨nx,ny,fd⟩] (by intro z hz; simp only [List.mem_singleton] at hz; subst hz; rw [← FZ.out]; exact OKS.out)) (cellsAt_new _ _ _) trivial (by rw [List.append_nil]; exact FR.out.1) (by have:=SL.out; simp only [List.length_singleton,maxLen]; omega) (by have:=SL.out; simp only [List.length_singleton]; omega) ?_; intro v6 w6 F6 r6 o6 q6 x6))
      have hz6:=HB2.out.size;have f6:Fresh w1.heap.size F6:=q6 w1.heap.size (by rw [List.append_nil]; exact FR.out) (by simp only [World.size_alloc] at hz6 ⊢; omega);have b6:=(HB2.out.alloc hz6 (.cells #[.int .i64 nx,.int .i64 ny,.int .i64 fd] 347)).trans (o6.below (B:=w1.heap.size) (by simp only [World.size_alloc] at hz6 ⊢; omega) FR.out.2);refine ⟨⟨k+1,v6,F6,rfl,by rw [← HFD.out]; rfl,by go_num,by omega,Lib.hid ⟨?_,f6,b6⟩⟩,by simp [intOf]; omega⟩;rw [SU.out,FZ.out];exact r6
  · obtain rfl:k=n:=by omega
    have gk:¬ (k:Int) < (k:Int):=by omega
    clear CN FO SI hb
    go_wp2_with fail
    go_ret;exact ⟨_,G,rfl,REP.out,⟨FR.out.1,fun b hb=>Nat.le_trans B1.out.size (FR.out.2 b hb)⟩,B1.out.trans (HB.out.mono B1.out.size)⟩
end Go.Proofs.YtalmeogjhmblhaaGreat

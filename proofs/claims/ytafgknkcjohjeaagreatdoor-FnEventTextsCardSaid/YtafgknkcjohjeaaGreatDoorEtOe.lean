/- The law FnEventTexts walked. Conditions: none. -/
import Derived.Test.YtafgknkcjohjeaaGreatDoorSrc2e
import Derived.Test.YtafgknkcjohjeaaGreatDoorEvRd2e
import Derived.Test.YtafgknkcjohjeaaGreatDoorShelfItoae
import Derived.Test.YtafgknkcjohjeaaGreatDoorTyFeate
import Derived.Laws.StructEq
namespace Go.Proofs.YtafgknkcjohjeaaGreatDoor
open Go Go.RowKit
theorem event_neq (s t:PEvent) (w:World):(binOp .neq 48 (.agg #[.int .i64 s.kind,.int .i64 s.x,.int .i64 s.y,.int .i64 s.t]) (.agg #[.int .i64 t.kind,.int .i64 t.x,.int .i64 t.y,.int .i64 t.t])).run Tryz.prog w=.ok (.bool (!decide (s=t))) w:=by
 have hS:Tryz.prog.underlying 48=some (.struct (Tryz.prog.fieldsOf 48)):=by kernel_rfl
 have hp:Tryz.prog.stoodInHeld 48=false:=by kernel_rfl
 rw [run_neq_struct,show (10000:Nat)=9999+1 from rfl,run_equalIn_agg w 9999 48 _ _ hS hp];simp only [Program.fieldsOf,Tryz.underlying48]
 go_simp
 obtain ⟨a,b,c,d⟩:=s;obtain ⟨a',b',c',d'⟩:=t;simp only [PEvent.mk.injEq]
 by_cases h1:a=a' <;> by_cases h2:b=b' <;> by_cases h3:c=c' <;> by_cases h4:d=d' <;> simp [h1,h2,h3,h4]
theorem evText_short {e:PEvent} (h:possB e=true):(evText e).size≤1048576:=by
 have ht:=possB_t h;have hxy:=possB_xy h;have s1:(decB e.x.toNat).size≤19:=decB_size (by omega);have s2:(decB e.y.toNat).size≤19:=decB_size (by omega);have s3:(decB e.t.toNat).size≤19:=decB_size (by omega)
 have s0:(nameB e.kind).size≤5:=by
  unfold nameB
  repeat' split
  all_goals decide
 have s4:(⟨#[32]⟩:ByteArray).size=1:=rfl;rw [evText,if_pos h]
 split <;> simp only [ByteArray.size_append] <;> omega
theorem read_back {e:PEvent} (h:possB e=true):readOk (evText e)=true∧implE (evText e).data.toList=e:=by
 have h1:implE (evText e).data.toList=e:=by rw [evText_list h,implE_evL h]
 refine ⟨?_,h1⟩;rw [readOk,h1,h];simp
theorem a2Long_E {e e2:TypeId} {code more:List UInt8} {v v2:Value} {F F2:List Nat} {w:World} (h:(byte.slice e).rep false w code [v] F) (h2:(byte.slice e2).rep false w more [v2] F2) :
 Calls Tryz.prog 4 #[v,v2] w fun e' w'=>e'=.returned (.bool (decide (3000 < code.length) || decide (3000 < more.length)))∧w=w':=by
 obtain ⟨A,c,rfl⟩:=slice_len h;obtain ⟨A2,c2,rfl⟩:=slice_len h2;clear h h2
 by_cases hb:3000 < code.length
 · have g:(3000:Int) < (code.length:Int):=by omega
   rw [decide_eq_true hb]
   go_enter Tryz.func4,Tryz.ntmps4
   go_wp2_with fail
   go_ret;exact ⟨congrArg (fun b=>Ending.returned (.bool b)) (by simp),rfl⟩
 · have g:¬ ((3000:Int) < (code.length:Int)):=by omega
   rw [decide_eq_false hb]
   by_cases hb2:3000 < more.length
   · have g2:(3000:Int) < (more.length:Int):=by omega
     rw [decide_eq_true hb2]
     go_enter Tryz.func4,Tryz.ntmps4
     go_wp2_with fail
     go_ret;exact ⟨congrArg (fun b=>Ending.returned (.bool b)) (by simp),rfl⟩
   · have g2:¬ ((3000:Int) < (more.length:Int)):=by omega
     rw [decide_eq_false hb2]
     go_enter Tryz.func4,Tryz.ntmps4
     go_wp2_with fail
     go_ret;exact ⟨congrArg (fun b=>Ending.returned (.bool b)) (by simp),rfl⟩
set_option maxRecDepth 100000 in
set_option maxHeartbeats 8000000 in
theorem law_FnEventTexts {e e2:TypeId} {code more:List UInt8} {v v2:Value} {F F2:List Nat} (w:World) (hE:Env w) (h:(byte.slice e).rep false w code [v] F) (h2:(byte.slice e2).rep false w more [v2] F2) :
 Calls Tryz.prog 3 #[v,v2] w fun e' w'=>e'=.returned (.bool true)∧Below w.heap.size w w':=by
 have hv:=h;have hv2:=h2;obtain ⟨A,c,rfl⟩:=slice_len h;obtain ⟨A',c',rfl⟩:=slice_len h2;have cb:=a2Long_E (w:=w) h h2
 by_cases hbig:(decide (3000 < code.length) || decide (3000 < more.length))=true
 · rw [hbig] at cb
   have CB:=Lib.hid cb;clear cb hbig
   go_enter Tryz.func3,Tryz.ntmps3
   go_wp2_with fail
   refine CB.out.mono ?_;rintro e w1 ⟨rfl,rfl⟩
   go_wp2_with fail
   go_ret;exact ⟨rfl,Below.refl _ _⟩
 · rw [Bool.not_eq_true] at hbig
   rw [hbig] at cb;have CB:=Lib.hid cb;simp only [Bool.or_eq_false_iff,decide_eq_false_iff_not] at hbig;obtain ⟨hb1,hb2⟩:=hbig;have CA:=Lib.hid (spec_A2Session_c w h (by omega));have CM:=Lib.hid (fun w' (b:Below w.heap.size w w')=>(h2.below b:(byte.slice e2).rep false w' more [.slice A' more.length c'] F2));clear cb h hv h2 hv2
   go_enter Tryz.func3,Tryz.ntmps3
   go_wp2_with fail
   refine CB.out.mono ?_;rintro e w1 ⟨rfl,rfl⟩
   go_wp2_with fail
   refine CA.out.mono ?_;rintro e w1 ⟨q,u,G,rfl,hs,is,-,b1⟩;obtain ⟨A0,k0,A1,k1,A2,k2,A3,k3,A4,k4,A5,k5,eu⟩:=is.form13;have C:=Lib.hid (spec_A2Events_c w1 (CM.out w1 b1) (by omega) is hs);have HB:=Lib.hid b1;clear CA CB is b1;subst eu
   go_wp2_with fail
   refine C.out.mono ?_;rintro e w2 ⟨es,x,G2,rfl,hp,hl,rep,b2⟩;obtain ⟨Ax,nx,cx,rfl⟩:=slice_form rep;have HB2:=Lib.hid (HB.out.trans (b2.mono HB.out.size));have HREP:=Lib.hid rep;have HPS:=Lib.hid hp
   have hnx:nx=es.length:=by
    obtain ⟨B',d',e'⟩:=slice_len rep;injection e' with _ e2 _
   subst hnx;clear C HB b2 rep hp hs
   go_wp2_with fail
   go_loopw [6] (fun vi wr=>∃ i:Nat,vi=.int .i64 (i:Int)∧i≤es.length∧Hid (Below w.heap.size w wr∧(pEvents 48).rep true wr es [.slice Ax es.length cx] G2)) (fun i _=>es.length - (intOf i).toNat)
   case atStart=>exact ⟨0,rfl,Nat.zero_le _,Lib.hid ⟨HB2.out,HREP.out⟩⟩
   case round =>
    obtain ⟨i,rfl,hi,all⟩:=hrel;have HBR:=Lib.hid all.out.1;have HRR:=Lib.hid all.out.2;clear all HB2 HREP
    by_cases hlt:i < es.length
    · obtain ⟨A'',c'',eA,-,-,hr⟩:=pEvents_open HRR.out
      injection eA with e1 _ e3
      subst e1; subst e3
      obtain ⟨b,off,rfl,hbb,hbG,c0,c1,c2,c3,-⟩:=hr i hlt;have HC:=Lib.hid (And.intro c0 (And.intro c1 (And.intro c2 c3)));have HPO:=Lib.hid (HPS.out _ (List.getElem_mem hlt));have hi0:(0:Int)≤(i:Int):=by omega
      have hi1:(i:Int) < (es.length:Int):=by omega
      have kw:=IntWalk.i64_in ((i:Int)+1) (by omega);have CE:=Lib.hid (impl_EventText_c es[i] wr (hE.below HBR.out).tab);obtain ⟨hok,hback⟩:=read_back HPO.out;clear hr
      go_wp2_with fail
      refine CE.out.mono ?_;rintro e w3 ⟨rfl,b3⟩;have hb3:=HBR.out.trans (b3.mono HBR.out.size);have CR0:=impl_ReadEvent_c (evText es[i]) w3 (evText_short HPO.out) (hE.below hb3);rw [hok,hback,if_pos rfl] at CR0;have CR:=Lib.hid CR0;clear CE CR0 hok hback c0 c1 c2 c3
      go_wp2_with fail
      refine CR.out.mono ?_;rintro e w4 ⟨rfl,b4⟩;have hbw:Below wr.heap.size wr w4:=b3.trans (b4.mono b3.size);have R5:=Row.new w4 48 #[.int .i64 es[i].kind,.int .i64 es[i].x,.int .i64 es[i].y,.int .i64 es[i].t];have bA:Below wr.heap.size wr (w4.alloc (.cells #[.int .i64 es[i].kind,.int .i64 es[i].x,.int .i64 es[i].y,.int .i64 es[i].t] 48)):=hbw.alloc hbw.size _;have HNB:=Lib.hid (HBR.out.trans (bA.mono HBR.out.size));have HNR:=Lib.hid (HRR.out.below bA);clear CR b3 b4 hb3 hbw HBR HRR
      go_upto_region 8 with fail
      generalize w4.alloc (.cells #[.int .i64 es[i].kind,.int .i64 es[i].x,.int .i64 es[i].y,.int .i64 es[i].t] 48)=w5 at R5 bA HNB HNR ⊢;have g0:=kb bA hbb HC.out.1;have g1:=kb bA hbb HC.out.2.1;have g2:=kb bA hbb HC.out.2.2.1;have g3:=kb bA hbb HC.out.2.2.2;have r0:=R5.c0;have r1:=R5.c1;have r2:=R5.c2;have r3:=R5.c3;generalize w4.heap.size=g5 at R5 r0 r1 r2 r3 ⊢;have hm:Tryz.prog.eqGuardType Tryz.prog.depth 48=false:=by kernel_rfl
      have hq:=fun w=>event_neq es[i] es[i] w
      simp only [decide_true,Bool.not_true] at hq;clear bA R5 hbb hbG
      go_quiet (fail)
      go_wp2_with fail
      go_roundw
      case rel=>exact ⟨i+1,by go_num,by omega,Lib.hid ⟨below_drewN HNB.out _,HNR.out.below (below_drewN (Below.refl _ _) _)⟩⟩
      case measure=>simp [intOf]; omega
    · obtain rfl:i=es.length:=by omega
      go_wp2_with fail
      go_ret;exact ⟨rfl,HBR.out⟩
end Go.Proofs.YtafgknkcjohjeaaGreatDoor

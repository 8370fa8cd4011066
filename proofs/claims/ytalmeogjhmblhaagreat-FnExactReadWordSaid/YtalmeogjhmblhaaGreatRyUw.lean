/- Hypotheses in order, in the program. Conditions: none. -/
import Derived.Test.YtalmeogjhmblhaaGreatRyTw
import Derived.Test.YtalmeogjhmblhaaGreatRyKw
import Derived.Test.YtalmeogjhmblhaaGreatRyPw
import Derived.Test.YtalmeogjhmblhaaGreatRcRead2w
import Derived.Test.YtalmeogjhmblhaaGreatRyAw
import Derived.Test.YtalmeogjhmblhaaGreatRwDw
namespace Go.Proofs.YtalmeogjhmblhaaGreat
open Go Go.RowKit Go.Shelf
set_option maxHeartbeats 8000000
set_option maxRecDepth 100000
instance:Inhabited HypZ:=⟨⟨.empty,0⟩⟩
theorem orL_two (a b:Int):orL [a,b]=if a≠0 then a else b:=by
 unfold orL
 by_cases h:a=0
 · rw [List.find?_cons_of_neg (by simp [h]),if_neg (by simp [h])]
   by_cases h2:b=0
   · rw [List.find?_cons_of_neg (by simp [h2])]; simp [h2]
   · rw [List.find?_cons_of_pos (by simpa using h2)]; rfl
 · rw [List.find?_cons_of_pos (by simpa using h),if_pos h]; rfl
theorem orL_cons (a:Int) (l:List Int):orL (a :: l)=if a≠0 then a else orL l:=by
 unfold orL
 by_cases h:a=0
 · rw [List.find?_cons_of_neg (by simp [h]),if_neg (by simp [h])]
 · rw [List.find?_cons_of_pos (by simpa using h),if_pos h]; rfl
theorem cmpI_neg (a b:Int):decide (cmpI a b < 0)=decide (a < b):=by
 unfold cmpI; by_cases h:a < b
 · simp [h]
 · by_cases h2:b < a <;> simp [h,h2]
theorem cmpI_zero {a b:Int}:cmpI a b=0↔a=b:=by
 unfold cmpI; by_cases h:a < b
 · rw [if_pos h]; omega
 · rw [if_neg h]; by_cases h2:b < a
   · rw [if_pos h2]; omega
   · rw [if_neg h2]; omega
theorem cmpF_lt (a b:ByteArray):decide (cmpF a b < 0)=bLess a b:=by
 unfold cmpF;cases h:bLess a b
 · cases h2:bLess b a <;> simp
 · simp
theorem ltOf_cfHyp (x y:HypZ):ltOf cfHyp x y=hypLt x y:=by
 show decide (cfHyp x y < 0)=hypLt x y
 rw [cfHyp,orL_two]
 by_cases h:x.cost=y.cost
 · rw [if_neg (by rw [Classical.not_not,cmpI_zero]; exact h),cmpF_lt,hypLt]
   simp [h]
 · rw [if_pos (fun g=>h (cmpI_zero.1 g)),cmpI_neg,hypLt]
   simp [h]
theorem keepM_len {most:Nat} {out:List HypZ} {h:HypZ}:(keepM HypZ.label most out h).length≤out.length+1:=by
 unfold keepM; split <;> simp
theorem keepAll_len {most:Nat}:∀ (l:List HypZ) (out:List HypZ),(l.foldl (keepM HypZ.label most) out).length≤out.length+l.length
 | [],out=>by simp
 | h :: l,out=>by
   have:=keepAll_len (most:=most) l (keepM HypZ.label most out h);have h2:=keepM_len (most:=most) (out:=out) (h:=h);rw [List.foldl_cons,List.length_cons]; omega
theorem sort_Hyp {e:TypeId} {xs:List HypZ} {v:Value} {F:List Nat} (w:World) (h:(pHyp.slice e).rep true w xs [v] F) (hx:xs.length≤1048576) :
 Calls Tryz.prog 230 #[v,.func (.func 231) #[] #[]] w fun en w'=>en=.returned (.tuple #[])∧∃ ys,ys.Perm xs∧ys.Pairwise (fun x y=>hypLt y x=false)∧(pHyp.slice e).rep true w' ys [v] F∧Only F w w' :=
 sort_flat laysHyp (by decide) Tryz.isAgg204 Tryz.sizeOf204 hypLt_sto (fun h=>h) cfHyp ltOf_cfHyp 231 (enters_of Tryz.func231 (by kernel_rfl) rfl) (fun x y w=>impl_compareHyps_c x y w) w h hx
end Go.Proofs.YtalmeogjhmblhaaGreat
namespace Go.Proofs.YtalmeogjhmblhaaGreat
open Go Go.RowKit
set_option maxHeartbeats 8000000
set_option maxRecDepth 100000
def ordE (x y:LEdge):Int:=if x.src=y.src then (if x.dst=y.dst then cmpF x.lab y.lab else cmpI x.dst y.dst) else cmpI x.src y.src
theorem cmpI_pos (a b:Nat):decide (0 < cmpI a b)=decide (b < a):=by
 unfold cmpI
 by_cases h:(a:Int) < b
 · rw [if_pos h,decide_eq_false (by omega),decide_eq_false (by omega)]
 · rw [if_neg h]
   by_cases h2:(b:Int) < a
   · rw [if_pos h2,decide_eq_true (by omega),decide_eq_true (by omega)]
   · rw [if_neg h2,decide_eq_false (by omega),decide_eq_false (by omega)]
theorem cmpF_pos (a b:ByteArray):decide (0 < cmpF a b)=bLess b a:=by
 unfold cmpF;rcases bLess_sto.cases a b with ⟨h1,h2,-,-⟩ | rfl | ⟨h1,h2,-,-⟩
 · rw [h1,h2]; simp
 · rw [bLess_sto.irr]; simp
 · rw [h1,h2]; simp
theorem ordE_pos {x y:LEdge} (h:¬ SameKey x y):decide (0 < ordE x y)=edgeLt y x:=by
 unfold ordE
 by_cases h1:x.src=y.src
 · simp only [if_pos h1]
   by_cases h2:x.dst=y.dst
   · simp only [if_pos h2,cmpF_pos]
     have h3:¬ y.lab=x.lab:=fun e=>h ⟨h1,h2,e.symm⟩
     simp [edgeLt,h1,h2,h3]
   · simp only [if_neg h2,cmpI_pos]
     have h3:¬ y.dst=x.dst:=fun e=>h2 e.symm
     simp [edgeLt,h1,h3]
 · simp only [if_neg h1,cmpI_pos]
   have h3:¬ y.src=x.src:=fun e=>h1 e.symm
   simp [edgeLt,h3]
theorem spec_l15Sign_c (a b:Int) (w:World):Calls Tryz.prog 220 #[.int .i64 a,.int .i64 b] w fun e w'=>e=.returned (.int .i64 (cmpI a b))∧w'=w:=by
 by_cases h1:a < b
 · have e1:decide (a < b)=true:=decide_eq_true h1
   have HE:=Lib.hid (show cmpI a b=-1 by unfold cmpI; rw [if_pos h1])
   go_enter Tryz.func220,Tryz.ntmps220
   go_wp2_with fail
   go_ret;exact ⟨by rw [HE.out]; rfl,rfl⟩
 · have e1:decide (a < b)=false:=decide_eq_false h1
   by_cases h2:b < a
   · have e2:decide (b < a)=true:=decide_eq_true h2
     have HE:=Lib.hid (show cmpI a b=1 by unfold cmpI; rw [if_neg h1,if_pos h2])
     go_enter Tryz.func220,Tryz.ntmps220
     go_wp2_with fail
     go_ret;exact ⟨by rw [HE.out]; rfl,rfl⟩
   · have e2:decide (b < a)=false:=decide_eq_false h2
     have HE:=Lib.hid (show cmpI a b=0 by unfold cmpI; rw [if_neg h1,if_neg h2])
     go_enter Tryz.func220,Tryz.ntmps220
     go_wp2_with fail
     go_ret;exact ⟨by rw [HE.out]; rfl,rfl⟩
theorem spec_l15Order_c {x y:LEdge} {ga oa gb ob:Nat} (w:World) (a0:w.cell? ⟨ga,oa,none⟩=some (.int .i64 x.src)) (a1:w.cell? ⟨ga,oa+1,none⟩=some (.int .i64 x.dst)) (a2:w.cell? ⟨ga,oa+2,none⟩=some (.string x.lab))
 (b0:w.cell? ⟨gb,ob,none⟩=some (.int .i64 y.src)) (b1:w.cell? ⟨gb,ob+1,none⟩=some (.int .i64 y.dst)) (b2:w.cell? ⟨gb,ob+2,none⟩=some (.string y.lab)) :
 Calls Tryz.prog 181 #[.pointer (some ⟨ga,oa,none⟩),.pointer (some ⟨gb,ob,none⟩)] w fun e w'=>e=.returned (.int .i64 (ordE x y))∧Below w.heap.size w w':=by
 obtain ⟨xs,xd,xl,xc⟩:=x;obtain ⟨ys,yd,yl,yc⟩:=y;dsimp only at a0 a1 a2 b0 b1 b2;have CS:=Lib.hid (fun (a b:Int) (w:World)=>spec_l15Sign_c a b w);generalize hxs:(xs:Int)=xi at *;generalize hys:(ys:Int)=yi at *;generalize hxd:(xd:Int)=xj at *;generalize hyd:(yd:Int)=yj at *
 by_cases h1:xi=yi
 · have e1:(xi == yi)=true:=by rw [h1]; simp
   have e1':(xi != yi)=false:=by rw [h1]; simp
   by_cases h2:xj=yj
   · have e2:(xj == yj)=true:=by rw [h2]; simp
     have e2':(xj != yj)=false:=by rw [h2]; simp
     have HE:=Lib.hid (show ordE ⟨xs,xd,xl,xc⟩ ⟨ys,yd,yl,yc⟩=cmpF xl yl by unfold ordE; rw [if_pos (show xs=ys by omega),if_pos (show xd=yd by omega)]);clear hxs hys hxd hyd h1 h2 CS;have hcs:=bLess_sto.cases xl yl;unfold bLess at hcs;rcases hcs with ⟨h3,h4,h5,-⟩ | h5 | ⟨h3,h4,h5,-⟩
     · have HE2:=Lib.hid (show cmpF xl yl=-1 by unfold cmpF bLess; rw [h3]; rfl)
       go_enter Tryz.func181,Tryz.ntmps181
       go_wp2_with fail
       go_quiet (fail)
       go_wp2_with fail
       go_quiet (fail)
       go_wp2_with fail
       go_quiet (fail)
       go_wp2_with fail
       go_ret;exact ⟨by rw [HE.out,HE2.out]; rfl,by simp only [World.drewN_drewN]; exact below_drewN (Below.refl _ _) _⟩
     · subst h5
       have h3:=bl_irr xl.toList;have HE2:=Lib.hid (show cmpF xl xl=0 by unfold cmpF bLess; rw [h3]; rfl)
       go_enter Tryz.func181,Tryz.ntmps181
       go_wp2_with fail
       go_quiet (fail)
       go_wp2_with fail
       go_quiet (fail)
       go_wp2_with fail
       go_quiet (fail)
       go_wp2_with fail
       go_quiet (fail)
       go_wp2_with fail
       go_ret;exact ⟨by rw [HE.out,HE2.out]; rfl,by simp only [World.drewN_drewN]; exact below_drewN (Below.refl _ _) _⟩
     · have HE2:=Lib.hid (show cmpF xl yl=1 by unfold cmpF bLess; rw [h3,h4]; rfl)
       obtain ⟨q1,q2⟩:=str_neB h5;clear h5
       go_enter Tryz.func181,Tryz.ntmps181
       go_wp2_with fail
       go_quiet (fail)
       go_wp2_with fail
       go_quiet (fail)
       go_wp2_with fail
       go_quiet (fail)
       go_wp2_with fail
       go_quiet (fail)
       go_wp2_with fail
       go_ret;exact ⟨by rw [HE.out,HE2.out]; rfl,by simp only [World.drewN_drewN]; exact below_drewN (Below.refl _ _) _⟩
   · have e2:(xj == yj)=false:=beq_false_of_ne h2
     have e2':(xj != yj)=true:=by simp [bne,e2]
     have HE:=Lib.hid (show ordE ⟨xs,xd,xl,xc⟩ ⟨ys,yd,yl,yc⟩=cmpI xj yj by unfold ordE; rw [if_pos (show xs=ys by omega),if_neg (show ¬ xd=yd by omega),hxd,hyd]);clear hxs hys hxd hyd h1 h2
     go_enter Tryz.func181,Tryz.ntmps181
     go_wp2_with fail
     go_quiet (fail)
     obtain ⟨n1,hn1⟩:∃ n:Nat,n=nq:=⟨_,rfl⟩
     subst hn1
     go_wp2_with fail
     go_quiet (fail)
     obtain ⟨wq,hwq,HQ,x0,x1,y0,y1⟩:∃ W,W=World.drewN (World.drewN w n1) nq∧Hid (Below w.heap.size w W)∧W.cell? ⟨ga,oa,none⟩=some (.int .i64 xi)∧W.cell? ⟨ga,oa+1,none⟩=some (.int .i64 xj)∧W.cell? ⟨gb,ob,none⟩=some (.int .i64 yi)∧W.cell? ⟨gb,ob+1,none⟩=some (.int .i64 yj):=⟨_,rfl,Lib.hid (by simp only [World.drewN_drewN]; exact below_drewN (Below.refl _ _) _),a0,a1,b0,b1⟩
     rw [← hwq];clear hwq a0 a1 b0 b1
     go_wp2_with fail
     go_quiet ((go_at_call 220; exact Calls.quiet_of_same (CS.out _ _ _)))
     go_wp2_with fail
     go_ret;exact ⟨by rw [HE.out]; rfl,below_drewN HQ.out _⟩
 · have e1:(xi == yi)=false:=beq_false_of_ne h1
   have e1':(xi != yi)=true:=by simp [bne,e1]
   have HE:=Lib.hid (show ordE ⟨xs,xd,xl,xc⟩ ⟨ys,yd,yl,yc⟩=cmpI xi yi by unfold ordE; rw [if_neg (show ¬ xs=ys by omega),hxs,hys]);clear hxs hys hxd hyd h1
   go_enter Tryz.func181,Tryz.ntmps181
   go_wp2_with fail
   go_quiet (fail)
   obtain ⟨wq,hwq,HQ,x0,x1,y0,y1⟩:∃ W,W=World.drewN w nq∧Hid (Below w.heap.size w W)∧W.cell? ⟨ga,oa,none⟩=some (.int .i64 xi)∧W.cell? ⟨ga,oa+1,none⟩=some (.int .i64 xj)∧W.cell? ⟨gb,ob,none⟩=some (.int .i64 yi)∧W.cell? ⟨gb,ob+1,none⟩=some (.int .i64 yj):=⟨_,rfl,Lib.hid (below_drewN (Below.refl _ _) _),a0,a1,b0,b1⟩
   rw [← hwq];clear hwq a0 a1 b0 b1
   go_wp2_with fail
   go_quiet ((go_at_call 220; exact Calls.quiet_of_same (CS.out _ _ _)))
   go_wp2_with fail
   go_ret;exact ⟨by rw [HE.out]; rfl,below_drewN HQ.out _⟩
end Go.Proofs.YtalmeogjhmblhaaGreat
namespace Go.Proofs.YtalmeogjhmblhaaGreat
open Go Go.RowKit
set_option maxHeartbeats 8000000
set_option maxRecDepth 100000
theorem spec_l15Put_c {ys:List LEdge} {h:LEdge} {v:Value} {F:List Nat} (w:World) (r:(pEdge.slice 206).rep true w ys [v] F) (hx:ys.length≤100000) (hso:ys.Pairwise (fun x y=>edgeLt x y=true)) (hok:h.src < 1048576∧h.dst < 1048576∧h.lab.size≤maxLen∧I64 h.cost) (hdis:∀ x∈ys,¬ SameKey x h) :
 Calls Tryz.prog 127 #[v,.agg #[.int .i64 (h.src:Nat),.int .i64 (h.dst:Nat),.string h.lab,.int .i64 h.cost]] w fun e w'=>∃ u F',e=.returned u∧(pEdge.slice 206).rep true w' (insS edgeLt h ys) [u] F'∧Fresh w.heap.size F'∧Below w.heap.size w w':=by
 obtain ⟨A,c,rfl,hc1,hc2,-⟩:=pEdges_open r;have R:=Lib.hid r;have R0:=Row.new w 206 #[.int .i64 (h.src:Nat),.int .i64 (h.dst:Nat),.string h.lab,.int .i64 h.cost];have b0:Below w.heap.size w (w.alloc (.cells #[.int .i64 (h.src:Nat),.int .i64 (h.dst:Nat),.string h.lab,.int .i64 h.cost] 206)):=(Below.refl _ _).alloc (Nat.le_refl _) _;have l0:w.heap.size < (w.alloc (.cells #[.int .i64 (h.src:Nat),.int .i64 (h.dst:Nat),.string h.lab,.int .i64 h.cost] 206)).heap.size:=by simp
 have OK:=Lib.hid hok;have SO:=Lib.hid hso;have DI:=Lib.hid hdis;clear r hok hso hdis
 go_enter Tryz.func127,Tryz.ntmps127
 go_upto_region 1 with fail
 generalize w.alloc (.cells #[.int .i64 (h.src:Nat),.int .i64 (h.dst:Nat),.string h.lab,.int .i64 h.cost] 206)=w0 at R0 b0 l0 ⊢;have HR0:=Lib.hid R0;have B0:=Lib.hid b0;clear R0 b0
 go_upto_block 0 with fail
 go_cut [5] from 9 to 20 (fun s wx=>∃ k:Nat,s=.int .i64 k∧k≤ys.length∧(∀ j (hj:j < ys.length),k≤j→edgeLt h ys[j]=true)∧(∀ (h0:0 < k) (hk:k≤ys.length),edgeLt h (ys[k - 1]'(by omega))=false)∧Below w0.heap.size w0 wx)
 case first =>
  go_wp2_with fail
  go_loopw [5] (fun s wr=>∃ k:Nat,s=.int .i64 k∧k≤ys.length∧Hid ((∀ j (hj:j < ys.length),k≤j→edgeLt h ys[j]=true)∧Below w0.heap.size w0 wr)) (fun s _=>(intOf s).toNat)
  case atStart=>exact ⟨ys.length,rfl,Nat.le_refl _,Lib.hid ⟨fun j hj h=>by omega,Below.refl _ _⟩⟩
  case round =>
   obtain ⟨k,rfl,hk,all⟩:=hrel;have ALL:=Lib.hid all.out;clear all;cases k with
   | zero =>
     go_wp2_with fail
     go_meet
     case rel=>exact ⟨0,rfl,Nat.zero_le _,ALL.out.1,fun h0=>absurd h0 (by decide),ALL.out.2⟩
   | succ k1 =>
     obtain ⟨A2,c2,he,-,-,hry⟩:=pEdges_open (R.out.below (B0.out.trans (ALL.out.2.mono B0.out.size)));cases he;have hk':k1 < ys.length:=hk;obtain ⟨g,off,rfl,hg,-,c0,c1,c2,c3,-⟩:=hry k1 hk';have rx:=HR0.out.later ALL.out.2;have hdk:=DI.out _ (List.getElem_mem hk');generalize hy:ys[k1]'hk'=y at c0 c1 c2 c3 hdk;have HYK:=Lib.hid hy;have HK1:=Lib.hid hk';have HPOS:=Lib.hid (ordE_pos (x:=y) (y:=h) hdk);have gk0:(0:Int)≤(k1:Int):=by omega
     have gk1:(k1:Int) < (ys.length:Int):=by omega
     have gk2:(0:Int) < ((k1+1:Nat):Int):=by omega
     have km:IntKind.i64.wrap (((k1+1:Nat):Int) - 1)=(k1:Int):=(IntWalk.i64_in _ (by omega)).trans (by omega);have CO:=Lib.hid (spec_l15Order_c (x:=y) (y:=h) wr c0 c1 c2 rx.c0 rx.c1 rx.c2);generalize hkk:((k1+1:Nat):Int)=kk at gk2 km ⊢;have HKK:=Lib.hid hkk;have gk3:decide (0 < kk)=true:=decide_eq_true gk2;clear hry rx c0 c1 c2 c3 hk hg hkk hdk
     go_wp2_with fail
     refine CO.out.mono ?_;rintro e w2 ⟨rfl,b2⟩;have BW:=Lib.hid (ALL.out.2.trans (b2.mono ALL.out.2.size));generalize ordE y h=od at HPOS ⊢;cases hq:edgeLt h y
     · rw [hq] at HPOS
       have e1:=HPOS.out
       go_wp2_with fail
       go_meet
       case rel=>exact ⟨k1+1,by rw [HKK.out],HK1.out,ALL.out.1,fun _ _=>by simp only [Nat.add_sub_cancel]; rw [HYK.out]; exact hq,BW.out⟩
     · rw [hq] at HPOS
       have e1:=HPOS.out
       go_wp2_with fail
       refine ⟨⟨k1,by first | rfl | go_num,Nat.le_of_lt HK1.out,Lib.hid ⟨fun j hj hkj=>?_,BW.out⟩⟩,?_⟩
       · by_cases e:j=k1
         · subst e; rw [HYK.out]; exact hq
         · exact ALL.out.1 j hj (by omega)
       · simp [intOf]; have:=HKK.out; omega
 case rest =>
  obtain ⟨wp,hwp⟩:∃ W,W=wc:=⟨_,rfl⟩
  subst hwp;obtain ⟨k,rfl,hk,hafter,hbefore,bp⟩:=hcut;have REP2:=Lib.hid (R.out.below (B0.out.trans (bp.mono B0.out.size)));have HINS:=Lib.hid (ins_at edgeLt_sto SO.out hk hafter (fun h0=>hbefore h0 hk));have HB2:=Lib.hid (B0.out.trans (bp.mono B0.out.size));have rx:=HR0.out.later bp;have x0:=rx.c0;have x1:=rx.c1;have x2:=rx.c2;have x3:=rx.c3;have hl0:w.heap.size < wp.heap.size:=rx.lt;have hl1:=hl0;have gk0:(0:Int)≤(k:Int):=by omega
  have gk1:(k:Int)≤(ys.length:Int):=by omega
  have HK:=Lib.hid hk;clear hafter hbefore bp rx hk;have hyok:=flat_ok REP2.out;have HOKT:=Lib.hid (fun z (hz:z∈ys.take k)=>hyok z (List.mem_of_mem_take hz));have HOKD:=Lib.hid (fun z (hz:z∈ys.drop k)=>hyok z (List.mem_of_mem_drop hz));have HNT:=Lib.hid (show (ys.take k).length=k by rw [List.length_take]; have:=HK.out; omega);have HND:=Lib.hid (show (ys.drop k).length=ys.length - k by rw [List.length_drop]);clear hyok;rcases flat_parts REP2.out HK.out with ⟨hv,hyn⟩ | ⟨g,cc,AD,hv,h1,h2,hF,hg,ht,hif,hd⟩
  case' inl =>
   have hk0:k=0:=by have:=HK.out; rw [hyn] at this; simpa using this
   simp only [Value.slice.injEq] at hv;obtain ⟨rfl,hv2,rfl⟩:=hv;have ht:CellsAt wp none ((ys.take k).flatMap (fun e:LEdge=>[Value.int .i64 e.src,.int .i64 e.dst,.string e.lab,.int .i64 e.cost])):=fun h0=>by rw [hyn] at h0; simp at h0
   have hd:CellsAt wp none ((ys.drop k).flatMap (fun e:LEdge=>[Value.int .i64 e.src,.int .i64 e.dst,.string e.lab,.int .i64 e.cost])):=fun h0=>by rw [hyn] at h0; simp at h0
   have HLT:=Lib.hid (show ∀ a:Addr,(none:Option Addr)=some a→a.block < wp.heap.size by intro a h; cases h);have HLD:=HLT;clear hyn
  case' inr =>
   cases hv;have HLT:=Lib.hid (show ∀ a:Addr,(some ⟨g,0,none⟩:Option Addr)=some a→a.block < wp.heap.size by intro a h; cases h; exact hg)
   have HLD:=Lib.hid (show ∀ a:Addr,(some AD:Option Addr)=some a→a.block < wp.heap.size by
    intro a h
    split at hif
    · cases hif; cases h; exact hg
    · cases hif; cases h; exact hg)
  all_goals
   have HT:=Lib.hid ht;have HD:=Lib.hid hd;clear ht hd
   go_upto_region 5 with (at_builtin; refine wpList_append_repX (T:=pEdge) (e:=206) (ys:=ys.take k) (ec:=(ys.take k).flatMap (fun e:LEdge=>[Value.int .i64 e.src,.int .i64 e.dst,.string e.lab,.int .i64 e.cost])) rfl (.tmp 21) (.tmp 24) rfl Tryz.underlying131 infoEdge rfl (by decide) rfl (empty_is pEdge _ _) (by first | (rw [HNT.out]; rfl) | (rw [HNT.out,hk0]; rfl)) (flat_repL _ HOKT.out) (cellsAt_later HT.out HLT.out ((Below.refl _ _).alloc (Nat.le_refl _) _)) trivial (by simp) (by rw [HNT.out]; simp only [List.length_nil,maxLen]; omega) (by rw [HNT.out]; simp only [List.length_nil]; omega) ?_; intro v2 w2 F2 r2 o2 f2 x2)
   have b2:=((Below.refl wp.heap.size wp).alloc (Nat.le_refl _) (.cells #[] 206)).trans (o2.below (B:=wp.heap.size) (by simp) (by simp));have fr2:=f2 wp.heap.size ⟨by simp,by simp⟩ (by simp);have R2:=Lib.hid r2;have FR2:=Lib.hid fr2;have B2:=Lib.hid b2;obtain ⟨V2,n2,c2,rfl⟩:=slice_form r2;clear r2 o2 f2 x2 fr2;replace x0:=(b2.cell (p:=⟨w.heap.size,0,none⟩) hl0).trans x0; replace x1:=(b2.cell (p:=⟨w.heap.size,1,none⟩) hl0).trans x1; replace x2:=(b2.cell (p:=⟨w.heap.size,2,none⟩) hl0).trans x2; replace x3:=(b2.cell (p:=⟨w.heap.size,3,none⟩) hl0).trans x3
   clear b2
   go_upto_region 6 with (at_builtin; refine wpList_append_repX (T:=pEdge) (e:=206) (ys:=[h]) (ec:=[.int .i64 (h.src:Nat),.int .i64 (h.dst:Nat),.string h.lab,.int .i64 h.cost]) rfl (.tmp 26) (.tmp 28) rfl Tryz.underlying131 infoEdge rfl (by decide) rfl (R2.out.alloc _) rfl (flat_repL _ (by intro z hz; simp only [List.mem_singleton] at hz; subst hz; exact OK.out)) (cellsAt_new _ _ _) trivial (by rw [List.append_nil]; exact FR2.out.1) (by simp only [List.nil_append,HNT.out,List.length_singleton,maxLen]; omega) (by simp only [List.nil_append,HNT.out,List.length_singleton]; omega) ?_; intro v3 w3 F3 r3 o3 f3 x3)
   have hz2:=B2.out.size;have b3:=(B2.out.alloc hz2 (.cells [.int .i64 (h.src:Nat),.int .i64 (h.dst:Nat),.string h.lab,.int .i64 h.cost].toArray 206)).trans (o3.below (B:=wp.heap.size) (by simp only [World.size_alloc]; omega) FR2.out.2);have fr3:=f3 wp.heap.size (by rw [List.append_nil]; exact FR2.out) (by simp only [World.size_alloc]; omega);have R3:=Lib.hid r3;have FR3:=Lib.hid fr3;have B3:=Lib.hid b3;obtain ⟨V3,n3,c3,rfl⟩:=slice_form r3;clear r3 o3 f3 x3 fr3 b3
   go_wp2_with (at_builtin; refine wpList_append_repX (T:=pEdge) (e:=206) (ys:=ys.drop k) (ec:=(ys.drop k).flatMap (fun e:LEdge=>[Value.int .i64 e.src,.int .i64 e.dst,.string e.lab,.int .i64 e.cost])) rfl (.tmp 30) (.tmp 33) rfl Tryz.underlying131 infoEdge rfl (by decide) rfl R3.out (by first | (rw [HND.out]; rfl) | (rw [HND.out,hv2,hk0]; rfl)) (flat_repL _ HOKD.out) (cellsAt_later HD.out HLD.out B3.out) trivial (by rw [List.append_nil]; exact FR3.out.1) (by rw [HND.out]; simp only [List.nil_append,List.length_append,HNT.out,List.length_singleton,maxLen]; omega) (by rw [HND.out]; simp only [List.nil_append,List.length_append,HNT.out,List.length_singleton]; omega) ?_; intro v4 w4 F4 r4 o4 f4 x4)
   have hz3:=B3.out.size;have b4:=B3.out.trans (o4.below (B:=wp.heap.size) hz3 FR3.out.2);have fr4:=f4 wp.heap.size (by rw [List.append_nil]; exact FR3.out) hz3;have e4:[]++ys.take k++[h]++ys.drop k=ys.take k++h :: ys.drop k:=by simp
   rw [e4,HINS.out] at r4;clear x0 x1 x2 x3;go_ret;refine ⟨_,rfl,F4,r4,fr4.mono (Nat.le_of_lt hl1),?_⟩;exact (HB2.out.trans (b4.mono HB2.out.size)).mono (Nat.le_refl _)
end Go.Proofs.YtalmeogjhmblhaaGreat
namespace Go.Proofs.YtalmeogjhmblhaaGreat
open Go Go.RowKit
set_option maxHeartbeats 8000000
set_option maxRecDepth 100000
theorem sortedE_strict {l:List LEdge} (h:l.Pairwise fun x y=>¬ SameKey x y):(sortedE l).Pairwise (fun x y=>edgeLt x y=true):=by
 have h1:(sortedE l).Pairwise fun x y=>¬ SameKey x y:=((sortedE_perm _).pairwise_iff (fun {x y} h k=>h ⟨k.1.symm,k.2.1.symm,k.2.2.symm⟩)).2 h
 refine (List.pairwise_and_iff.2 ⟨sortedE_weak l,h1⟩).imp fun {x y} h=>?_
 cases e:edgeLt x y with
 | true=>rfl
 | false=>exact absurd (edgeLt_sto.tot x y e h.1 ▸ ⟨rfl,rfl,rfl⟩:SameKey x y) h.2
theorem sortedE_snoc (l:List LEdge) (e:LEdge):sortedE (l++[e])=insS edgeLt e (sortedE l):=by
 rw [sortedE,List.foldl_append]; rfl
theorem sortedE_away {l:List LEdge} {e:LEdge} (h:(l++[e]).Pairwise fun x y=>¬ SameKey x y):∀ x∈sortedE l,¬ SameKey x e:=by
 intro x hx;exact (List.pairwise_append.1 h).2.2 x ((sortedE_perm l).mem_iff.1 hx) e (by simp)
theorem sortedE_len (l:List LEdge):(sortedE l).length=l.length:=(sortedE_perm l).length_eq
def mkE (g:Nat × Nat) (h:HypZ):LEdge:=⟨g.1,g.2,h.label,h.cost⟩
def edgesG (p:PSetup) (xs:List PStroke) (i:Nat):List LEdge:=((groupsZ xs.length).take i).flatMap (groupE p xs)
theorem edgesG_all (p:PSetup) (xs:List PStroke):edgesG p xs (groupsZ xs.length).length=edgesZ p xs:=by rw [edgesG,List.take_length,edgesZ]
theorem edgesG_succ {p:PSetup} {xs:List PStroke} {i:Nat} (h:i < (groupsZ xs.length).length):edgesG p xs (i+1)=edgesG p xs i++groupE p xs (groupsZ xs.length)[i]:=by
 rw [edgesG,List.take_succ_eq_append_getElem h,List.flatMap_append,← edgesG]; simp
theorem edgesG_keys {p:PSetup} {xs:List PStroke} {i:Nat}:(edgesG p xs i).Pairwise fun x y=>¬ SameKey x y:=by
 refine (edgesZ_keys p xs).sublist ?_
 have e:edgesZ p xs=edgesG p xs i++((groupsZ xs.length).drop i).flatMap (groupE p xs):=by
  rw [edgesG,← List.flatMap_append,List.take_append_drop,edgesZ]
 rw [e];exact List.sublist_append_left _ _
theorem edgesG_len {p:PSetup} (hp:setupB p=true) (xs:List PStroke):∀ (i:Nat),(edgesG p xs i).length≤i * 8:=by
 intro i;unfold edgesG
 have key:∀ (l:List (Nat × Nat)),(l.flatMap (groupE p xs)).length≤l.length * 8:=by
  intro l
  induction l with
  | nil=>simp
  | cons a l ih =>
    rw [List.flatMap_cons,List.length_append,List.length_cons]
    have:(groupE p xs a).length≤8:=by
     rw [groupE]; split
     · rw [List.length_map]; exact hypsZ_few hp _
     · simp
    omega
 have:=key ((groupsZ xs.length).take i);rw [List.length_take] at this;omega
def edgesH (p:PSetup) (xs:List PStroke) (i:Nat) (g:Nat × Nat) (hs:List HypZ) (j:Nat):List LEdge:=edgesG p xs i++(hs.take j).map (mkE g)
theorem edgesH_zero (p:PSetup) (xs:List PStroke) (i:Nat) (g:Nat × Nat) (hs:List HypZ):edgesH p xs i g hs 0=edgesG p xs i:=by simp [edgesH]
theorem edgesH_succ {p:PSetup} {xs:List PStroke} {i:Nat} {g:Nat × Nat} {hs:List HypZ} {j:Nat} (h:j < hs.length):edgesH p xs i g hs (j+1)=edgesH p xs i g hs j++[mkE g hs[j]]:=by
 rw [edgesH,List.take_succ_eq_append_getElem h,List.map_append,edgesH,List.append_assoc]; rfl
theorem edgesH_all {p:PSetup} {xs:List PStroke} {i:Nat} {g:Nat × Nat} (h:i < (groupsZ xs.length).length) (hg:(groupsZ xs.length)[i]=g) (h72:((g.2 - g.1:Nat):Int) * p.points≤72):edgesH p xs i g (hypsZ p (groupInk xs g.1 g.2)) (hypsZ p (groupInk xs g.1 g.2)).length=edgesG p xs (i+1):=by
 rw [edgesG_succ h,hg,edgesH,List.take_length,groupE,if_pos h72]; rfl
theorem edgesG_skip {p:PSetup} {xs:List PStroke} {i:Nat} {g:Nat × Nat} (h:i < (groupsZ xs.length).length) (hg:(groupsZ xs.length)[i]=g) (h72:¬ ((g.2 - g.1:Nat):Int) * p.points≤72):edgesG p xs (i+1)=edgesG p xs i:=by
 rw [edgesG_succ h,hg,groupE,if_neg h72,List.append_nil]
theorem edgesH_keys {p:PSetup} {xs:List PStroke} {i:Nat} {g:Nat × Nat} (h:i < (groupsZ xs.length).length) (hg:(groupsZ xs.length)[i]=g) (h72:((g.2 - g.1:Nat):Int) * p.points≤72) (j:Nat):(edgesH p xs i g (hypsZ p (groupInk xs g.1 g.2)) j).Pairwise fun x y=>¬ SameKey x y:=by
 have:=edgesG_keys (p:=p) (xs:=xs) (i:=i+1);rw [← edgesH_all h hg h72] at this;refine this.sublist ?_;unfold edgesH;rw [List.take_length];exact (List.Sublist.refl _).append ((List.take_sublist j _).map _)
theorem edgesH_len {p:PSetup} (hp:setupB p=true) (xs:List PStroke) (i:Nat) (g:Nat × Nat) (hs:List HypZ) (j:Nat):(edgesH p xs i g hs j).length≤i * 8+j:=by
 rw [edgesH,List.length_append,List.length_map,List.length_take];have:=edgesG_len hp xs i;omega
structure OwnLat (w:World) (n:Int) (es:List LEdge) (gL:Nat) (v:Value) (F:List Nat):Prop where
 row:Row w gL 133 [.int .i64 n,v]
 rep:(pEdge.slice 206).rep true w es [v] F
 fr:Fresh (gL+1) F
theorem OwnLat.later {w w':World} {n:Int} {es:List LEdge} {gL:Nat} {v:Value} {F:List Nat} (h:OwnLat w n es gL v F) (hb:Below w.heap.size w w'):OwnLat w' n es gL v F:=⟨h.row.later hb,h.rep.below hb,h.fr⟩
theorem OwnLat.drew {w:World} {n:Int} {es:List LEdge} {gL:Nat} {v:Value} {F:List Nat} (h:OwnLat w n es gL v F):OwnLat w.drew n es gL v F:=⟨h.row.drew,h.rep.drew,h.fr⟩
theorem OwnLat.drewN {w:World} {n:Int} {es:List LEdge} {gL:Nat} {v:Value} {F:List Nat} (h:OwnLat w n es gL v F):∀ m,OwnLat (w.drewN m) n es gL v F
 | 0=>h
 | m+1=>by rw [World.drewN]; exact (h.drewN m).drew
end Go.Proofs.YtalmeogjhmblhaaGreat
namespace Go.Proofs.YtalmeogjhmblhaaGreat
open Go Go.RowKit
set_option maxHeartbeats 8000000
set_option maxRecDepth 100000
def tmpAt (p:PSetup) (k:Nat):PTemp:=p.temps.getD k ⟨.empty,[]⟩
theorem tmpAt_get {p:PSetup} {k:Nat} (h:k < p.temps.length):tmpAt p k=p.temps[k]:=by simp [tmpAt,List.getD_eq_getElem?_getD,List.getElem?_eq_getElem h]
def matchV (p:PSetup) (fs:List PFeat) (k:Nat):Int:=(elZ fs (tmpAt p k).feats p.band).getD 0
def matchK (p:PSetup) (fs:List PFeat):Nat→List (Nat × Int)
 | 0=>[]
 | k+1=>if bandB p.band fs.length (tmpAt p k).feats.length=true then matchK p fs k++[(k,matchV p fs k)] else matchK p fs k
def rawOf (p:PSetup) (pen:Int) (l:List (Nat × Int)):List HypZ:=l.map fun m=>⟨(tmpAt p m.1).label,m.2+pen⟩
theorem rawHyps_match (p:PSetup) (fs:List PFeat) (pen:Int):rawHyps p fs pen=rawOf p pen (matchK p fs p.temps.length):=by
 have key:∀ k,k≤p.temps.length→((p.temps.take k).filter fun t=>bandB p.band fs.length t.feats.length).map (fun t=>(⟨t.label,(elZ fs t.feats p.band).getD 0+pen⟩:HypZ))=rawOf p pen (matchK p fs k):=by
  intro k
  induction k with
  | zero=>intro _; rfl
  | succ k ih =>
    intro hk;rw [List.take_succ_eq_append_getElem (by omega),List.filter_append,List.map_append,ih (by omega),matchK,tmpAt_get (by omega)]
    by_cases hb:bandB p.band fs.length (p.temps[k]'(by omega)).feats.length=true
    · rw [if_pos hb]
      simp [rawOf,matchV,tmpAt_get (show k < p.temps.length by omega),hb]
    · rw [if_neg hb]
      simp [hb]
 have:=key _ (Nat.le_refl _);rw [List.take_length] at this;exact this
theorem matchK_len (p:PSetup) (fs:List PFeat):∀ k,(matchK p fs k).length≤k
 | 0=>Nat.le_refl _
 | k+1=>by have:=matchK_len p fs k; rw [matchK]; split <;> simp <;> omega
theorem matchK_mem {p:PSetup} {fs:List PFeat}:∀ {k:Nat} {m:Nat × Int},m∈matchK p fs k→m.1 < k∧bandB p.band fs.length (tmpAt p m.1).feats.length=true∧m.2=matchV p fs m.1
 | k+1,m,h=>by
   rw [matchK] at h
   split at h
   · rename_i hb
     rcases List.mem_append.1 h with h | h
     · have:=matchK_mem h; exact ⟨by omega,this.2⟩
     · simp only [List.mem_singleton] at h; subst h; exact ⟨by show k < k+1; omega,hb,rfl⟩
   · have:=matchK_mem h; exact ⟨by omega,this.2⟩
theorem matchV_small {p:PSetup} (hp:setupB p=true) {fs:List PFeat} (hf:∀ f∈fs,featB f=true) (h1:1≤fs.length) (h3:fs.length≤72) {k:Nat} (hk:k < p.temps.length) (hb:bandB p.band fs.length (tmpAt p k).feats.length=true):elZ fs (tmpAt p k).feats p.band=some (matchV p fs k)∧0≤matchV p fs k∧matchV p fs k≤82082:=by
 have ht:=tempB_parts ((setup_parts hp).1 (tmpAt p k) (by rw [tmpAt_get hk]; exact List.getElem_mem hk));obtain ⟨v,h,h4,h5⟩:=elZ_some hf ht.2.1 h1 ht.2.2.1 h3 ht.2.2.2 hb;have:matchV p fs k=v:=by rw [matchV,h]; rfl
 rw [this]; exact ⟨h,h4,h5⟩
def grpRow (a b:Nat):List (Nat × Nat):=((List.range b).filter fun b=>decide (a < b)).map fun b=>(a,b)
theorem grpRow_zero (a:Nat):grpRow a (a+1)=[]:=by
 rw [grpRow,List.filter_eq_nil_iff.2 (by intro x hx; rw [List.mem_range] at hx; simp; omega)]; rfl
theorem grpRow_succ {a b:Nat} (h:a < b):grpRow a (b+1)=grpRow a b++[(a,b)]:=by
 rw [grpRow,List.range_succ,List.filter_append,List.filter_cons_of_pos (by simpa using h)];simp [grpRow]
theorem grpRow_len {a b:Nat}:(grpRow a b).length≤b:=by
 rw [grpRow,List.length_map]; exact Nat.le_trans (List.length_filter_le _ _) (by simp)
def grpAll (n a:Nat):List (Nat × Nat):=(List.range a).flatMap fun a=>grpRow a (min (a+3) n+1)
theorem grpAll_succ (n a:Nat):grpAll n (a+1)=grpAll n a++grpRow a (min (a+3) n+1):=by simp [grpAll,List.range_succ]
theorem grpAll_len (n:Nat):∀ a,(grpAll n a).length≤a * (n+1)
 | 0=>by simp [grpAll]
 | a+1=>by
   have:=grpAll_len n a;have h2:=grpRow_len (a:=a) (b:=min (a+3) n+1);rw [grpAll_succ,List.length_append,Nat.add_mul];omega
theorem grp_filter {m d:Nat} {p q:Nat→Bool} (h1:∀ x,x < m→p x=q x) (h2:∀ x,m≤x→q x=false):(List.range m).filter p=(List.range (m+d)).filter q:=by
 rw [List.range_add,List.filter_append]
 have e:((List.range d).map (fun x=>m+x)).filter q=[]:=List.filter_eq_nil_iff.2 (by
  intro x hx;obtain ⟨y,-,rfl⟩:=List.mem_map.1 hx;rw [h2 _ (by omega)]; decide)
 rw [e,List.append_nil];exact List.filter_congr fun x hx=>h1 x (List.mem_range.1 hx)
theorem flatMap_same {α β:Type} {f g:α→List β}:∀ {l:List α},(∀ x∈l,f x=g x)→l.flatMap f=l.flatMap g
 | [],_=>rfl
 | x :: l,h=>by rw [List.flatMap_cons,List.flatMap_cons,h x (by simp),flatMap_same fun y hy=>h y (by simp [hy])]
theorem grpAll_all (n:Nat):grpAll n n=groupsZ n:=by
 unfold grpAll groupsZ;refine flatMap_same fun a ha=>?_
 rw [List.mem_range] at ha;rw [grpRow]
 congr 1
 obtain ⟨d,hd⟩:∃ d,n+1=min (a+3) n+1+d:=⟨n+1 - (min (a+3) n+1),by omega⟩
 by_cases h3:a+3≤n
 · rw [hd]
   refine grp_filter (fun x hx=>?_) (fun x hx=>?_)
   · have:x≤a+3:=by omega
     simp [this]
   · have:¬ x≤a+3:=by omega
     simp [this]
 · rw [show min (a+3) n+1=n+1 by omega]
   refine List.filter_congr fun x hx=>?_
   rw [List.mem_range] at hx;have:x≤a+3:=by omega
   simp [this]
theorem groupsZ_len16 {n:Nat} (h:n≤16):(groupsZ n).length≤272:=by
 have:=grpAll_len n n;rw [grpAll_all] at this;have h2:n * (n+1)≤16 * 17:=Nat.mul_le_mul h (by omega);omega
def homeI (xs:List PStroke) (k:Nat):Int:=match homeZ xs k with | some h=>(h:Int) | none=>-1
theorem homeI_neg {xs:List PStroke} {k:Nat}:homeI xs k < 0↔homeZ xs k=none:=by
 unfold homeI; cases homeZ xs k with
 | none=>simp
 | some h=>simp
theorem homeI_eq {xs:List PStroke} {d k:Nat}:homeI xs d=(k:Int)↔homeZ xs d=some k:=by
 unfold homeI; cases homeZ xs d with
 | none=>simp
 | some h=>simp only [Option.some.injEq]; omega
theorem homeI_small {xs:List PStroke} {k:Nat}:-1≤homeI xs k∧homeI xs k < (k:Int)+1:=by
 unfold homeI;cases h:homeZ xs k with
 | none=>simp; omega
 | some j=>have:=(homeZ_ok xs k j h).1; simp; omega
def ordRow (xs:List PStroke) (k d:Nat):List Nat:=(List.range d).filter fun j=>decide (homeZ xs j=some k)
theorem ordRow_succ (xs:List PStroke) (k d:Nat):ordRow xs k (d+1)=if homeI xs d=(k:Int) then ordRow xs k d++[d] else ordRow xs k d:=by
 rw [ordRow,List.range_succ,List.filter_append]
 split
 · rename_i h
   rw [List.filter_cons_of_pos (by simpa using homeI_eq.1 h)]; rfl
 · rename_i h
   rw [List.filter_cons_of_neg (by simpa using fun g=>h (homeI_eq.2 g))]; simp [ordRow]
theorem ordRow_len (xs:List PStroke) (k d:Nat):(ordRow xs k d).length≤d:=Nat.le_trans (List.length_filter_le _ _) (by simp)
def ordAll (xs:List PStroke) (k:Nat):List Nat:=(List.range k).flatMap fun k=>if homeI xs k < 0 then k :: ordRow xs k xs.length else []
theorem ordAll_succ (xs:List PStroke) (k:Nat):ordAll xs (k+1)=if homeI xs k < 0 then ordAll xs k++[k]++ordRow xs k xs.length else ordAll xs k:=by
 rw [ordAll,List.range_succ,List.flatMap_append];simp only [List.flatMap_cons,List.flatMap_nil,List.append_nil]
 split <;> simp [ordAll]
theorem ordAll_len (xs:List PStroke):∀ k,(ordAll xs k).length≤k * (xs.length+1)
 | 0=>by simp [ordAll]
 | k+1=>by
   have:=ordAll_len xs k;have h2:=ordRow_len xs k xs.length;rw [ordAll_succ,Nat.add_mul]
   split <;> simp <;> omega
theorem ordAll_all (xs:List PStroke):ordAll xs xs.length=orderZ xs:=by
 unfold ordAll orderZ orderN;refine flatMap_same fun k hk=>?_
 rw [List.mem_range] at hk
 show (if homeI xs k < 0 then k :: ordRow xs k xs.length else [])=if (if k < xs.length then homeZ xs k else none).isSome=true then [] else k :: (List.range xs.length).filter fun d=>decide ((if d < xs.length then homeZ xs d else none)=some k)
 rw [if_pos hk];have e:(homeI xs k < 0)↔¬ (homeZ xs k).isSome=true:=by rw [homeI_neg]; cases homeZ xs k <;> simp
 by_cases h:homeI xs k < 0
 · rw [if_pos h,if_neg (e.1 h)]
   congr 1
   rw [ordRow];refine List.filter_congr fun x hx=>?_
   rw [List.mem_range] at hx;rw [if_pos hx]
 · rw [if_neg h,if_pos (Classical.not_not.1 fun g=>h (e.2 g))]
end Go.Proofs.YtalmeogjhmblhaaGreat
namespace Go.Proofs.YtalmeogjhmblhaaGreat
open Go Go.RowKit
set_option maxHeartbeats 8000000
set_option maxRecDepth 100000
theorem spec_l14Groups_c {n:Nat} (w:World) (hn:n≤16):Calls Tryz.prog 124 #[.int .i64 (n:Int)] w (GivesO (pGroup.slice 198) (groupsZ n) w):=by
 go_enter Tryz.func124,Tryz.ntmps124
 go_wp2_with fail
 go_loopw [3,4] (fun l i wr=>∃ (k:Nat) (v:Value) (G:List Nat),l=v∧i=.int .i64 k∧k≤n∧Hid ((pGroup.slice 198).rep true wr (grpAll n k) [v] G∧Fresh w.heap.size G∧Below w.heap.size w wr)) (fun _ i _=>n - (intOf i).toNat)
 case atStart=>exact ⟨0,_,[w.heap.size],rfl,rfl,by omega,Lib.hid ⟨slice_of_row (T:=pGroup) (xs:=[]) (Row.new w _ _) ⟨rfl,rfl⟩ (by simp [maxLen]),⟨by simp,by simp⟩,(Below.refl _ _).alloc (Nat.le_refl _) _⟩⟩
 case round =>
  obtain ⟨a,vk,G,rfl,rfl,ha,all⟩:=hrel;have ALL:=Lib.hid all.out;clear all
  by_cases hlt:a < n
  · have ga:(a:Int) < (n:Int):=by omega
    have ka:=IntWalk.i64_in ((a:Int)+1) (by omega);have ka3:=IntWalk.i64_in ((a:Int)+3) (by omega)
    go_wp2_with fail
    go_loopw [3,5] (fun l i wq=>∃ (k:Nat) (v:Value) (G:List Nat),l=v∧i=.int .i64 k∧a < k∧k≤min (a+3) n+1∧Hid ((pGroup.slice 198).rep true wq (grpAll n a++grpRow a k) [v] G∧Fresh w.heap.size G∧Below w.heap.size w wq)) (fun _ i _=>min (a+3) n+1 - (intOf i).toNat)
    case atStart=>exact ⟨a+1,_,G,rfl,by go_num,by omega,by omega,Lib.hid ⟨by rw [grpRow_zero,List.append_nil]; exact ALL.out.1,ALL.out.2⟩⟩
    case round =>
     obtain ⟨b,vq,G2,rfl,rfl,hab,hb,all⟩:=hrel;obtain ⟨rep,fr,bw⟩:=all.out;have REP:=Lib.hid rep;have FR:=Lib.hid fr;have BW:=Lib.hid bw;obtain ⟨U,un,uc,rfl⟩:=slice_form rep
     have LN:=Lib.hid (show (grpAll n a++grpRow a b).length≤400 by
      have h1:=grpAll_len n a;have h2:=grpRow_len (a:=a) (b:=b);have h3:a * (n+1)≤16 * 17:=Nat.mul_le_mul (by omega) (by omega);rw [List.length_append]; omega)
     clear all rep fr bw ALL;generalize haa:(a:Int)=aa at ga ka ka3;generalize hbb:(b:Int)=bb;have kb:=IntWalk.i64_in (bb+1) (by omega)
     by_cases hlb:b≤min (a+3) n
     · have HN:=Lib.hid (show grpAll n a++grpRow a (b+1)=grpAll n a++grpRow a b++[(a,b)] by rw [grpRow_succ hab,List.append_assoc])
       have e1:decide (bb≤(n:Int))=true:=decide_eq_true (by omega);have e2:decide (bb≤aa+3)=true:=decide_eq_true (by omega);have HA:=Lib.hid haa;have HB:=Lib.hid hbb;clear haa hbb
       go_wp2_with (at_builtin; refine wpList_append_repX (T:=pGroup) (e:=198) (ys:=[(a,b)]) (ec:=[.int .i64 aa,.int .i64 bb]) rfl (.tmp 25) (.tmp 29) rfl Tryz.underlying195 infoGroup rfl (by decide) rfl (REP.out.alloc _) rfl (by rw [← HA.out,← HB.out]; exact flat_repL _ (fun _ _=>trivial)) (cellsAt_new _ _ _) trivial (by rw [List.append_nil]; exact FR.out.1) (by have:=LN.out; simp only [List.length_singleton,maxLen]; omega) (by have:=LN.out; simp only [List.length_singleton]; omega) ?_; intro v6 w6 F6 r6 o6 f6 x6)
       have hz:=BW.out.size;have HB6:=(BW.out.alloc hz (.cells #[.int .i64 aa,.int .i64 bb] 198)).trans (o6.below (B:=w.heap.size) (by simp only [World.size_alloc]; omega) FR.out.2);have f6':=f6 w.heap.size (by rw [List.append_nil]; exact FR.out) (by simp only [World.size_alloc]; omega);refine ⟨⟨b+1,_,F6,rfl,by rw [show ((b+1:Nat):Int)=bb+1 by have:=HB.out; omega],by omega,by omega,Lib.hid ⟨by rw [HN.out]; exact r6,f6',HB6⟩⟩,?_⟩;have:=HB.out;simp [intOf]; omega
     · obtain rfl:b=min (a+3) n+1:=by omega
       have HA:=Lib.hid haa;have HB:=Lib.hid hbb;have hmm:=Lib.hid hlb
       by_cases hbn:bb≤(n:Int)
       · have e1:decide (bb≤(n:Int))=true:=decide_eq_true hbn
         have e2:decide (bb≤aa+3)=false:=decide_eq_false (by omega);clear haa hbb
         go_wp2_with fail
         go_roundw
         case rel=>exact ⟨a+1,_,G2,rfl,by rw [← HA.out]; first | rfl | go_num,by omega,Lib.hid ⟨by rw [grpAll_succ]; exact REP.out,FR.out,BW.out⟩⟩
         case measure=>have:=HA.out; simp [intOf]; omega
       · have e1:decide (bb≤(n:Int))=false:=decide_eq_false hbn
         clear haa hbb
         go_wp2_with fail
         go_roundw
         case rel=>exact ⟨a+1,_,G2,rfl,by rw [← HA.out]; first | rfl | go_num,by omega,Lib.hid ⟨by rw [grpAll_succ]; exact REP.out,FR.out,BW.out⟩⟩
         case measure=>have:=HA.out; simp [intOf]; omega
  · obtain rfl:a=n:=by omega
    have ga:¬ (a:Int) < (a:Int):=by omega
    obtain ⟨U,un,uc,rfl⟩:=slice_form ALL.out.1
    go_wp2_with fail
    go_ret;exact ⟨_,G,rfl,by rw [← grpAll_all]; exact ALL.out.1,ALL.out.2.1,ALL.out.2.2⟩
theorem impl_groupsOf_c {n:Nat} (w:World) (hn:n≤16):Calls Tryz.prog 141 #[.int .i64 (n:Int)] w (GivesO (pGroup.slice 198) (groupsZ n) w):=by
 go_enter Tryz.func141,Tryz.ntmps141
 go_wp2_with fail
 go_loopw [3,4] (fun l i wr=>∃ (k:Nat) (v:Value) (G:List Nat),l=v∧i=.int .i64 k∧k≤n∧Hid ((pGroup.slice 198).rep true wr (grpAll n k) [v] G∧Fresh w.heap.size G∧Below w.heap.size w wr)) (fun _ i _=>n - (intOf i).toNat)
 case atStart=>exact ⟨0,_,[],rfl,rfl,by omega,Lib.hid ⟨slice_nil pGroup _ _ _,⟨by simp,by simp⟩,Below.refl _ _⟩⟩
 case round =>
  obtain ⟨a,vk,G,rfl,rfl,ha,all⟩:=hrel;have ALL:=Lib.hid all.out;clear all
  by_cases hlt:a < n
  · have ga:(a:Int) < (n:Int):=by omega
    have ka:=IntWalk.i64_in ((a:Int)+1) (by omega);have ka3:=IntWalk.i64_in ((a:Int)+3) (by omega)
    go_wp2_with fail
    go_loopw [3,5] (fun l i wq=>∃ (k:Nat) (v:Value) (G:List Nat),l=v∧i=.int .i64 k∧a < k∧k≤min (a+3) n+1∧Hid ((pGroup.slice 198).rep true wq (grpAll n a++grpRow a k) [v] G∧Fresh w.heap.size G∧Below w.heap.size w wq)) (fun _ i _=>min (a+3) n+1 - (intOf i).toNat)
    case atStart=>exact ⟨a+1,_,G,rfl,by go_num,by omega,by omega,Lib.hid ⟨by rw [grpRow_zero,List.append_nil]; exact ALL.out.1,ALL.out.2⟩⟩
    case round =>
     obtain ⟨b,vq,G2,rfl,rfl,hab,hb,all⟩:=hrel;obtain ⟨rep,fr,bw⟩:=all.out;have REP:=Lib.hid rep;have FR:=Lib.hid fr;have BW:=Lib.hid bw;obtain ⟨U,un,uc,rfl⟩:=slice_form rep
     have LN:=Lib.hid (show (grpAll n a++grpRow a b).length≤400 by
      have h1:=grpAll_len n a;have h2:=grpRow_len (a:=a) (b:=b);have h3:a * (n+1)≤16 * 17:=Nat.mul_le_mul (by omega) (by omega);rw [List.length_append]; omega)
     clear all rep fr bw ALL;generalize haa:(a:Int)=aa at ga ka ka3;generalize hbb:(b:Int)=bb;have kb:=IntWalk.i64_in (bb+1) (by omega)
     by_cases hlb:b≤min (a+3) n
     · have HN:=Lib.hid (show grpAll n a++grpRow a (b+1)=grpAll n a++grpRow a b++[(a,b)] by rw [grpRow_succ hab,List.append_assoc])
       have e1:decide (bb≤min (aa+3) (n:Int))=true:=decide_eq_true (by omega);have e2:bb≤min (aa+3) (n:Int):=by omega
       have e3:bb≤aa+3:=by omega
       have e4:bb≤(n:Int):=by omega
       have HA:=Lib.hid haa;have HB:=Lib.hid hbb;clear haa hbb
       go_wp2_with (at_builtin; refine wpList_append_repX (T:=pGroup) (e:=198) (ys:=[(a,b)]) (ec:=[.int .i64 aa,.int .i64 bb]) rfl (.tmp 21) (.tmp 25) rfl Tryz.underlying195 infoGroup rfl (by decide) rfl (REP.out.alloc _) rfl (by rw [← HA.out,← HB.out]; exact flat_repL _ (fun _ _=>trivial)) (cellsAt_new _ _ _) trivial (by rw [List.append_nil]; exact FR.out.1) (by have:=LN.out; simp only [List.length_singleton,maxLen]; omega) (by have:=LN.out; simp only [List.length_singleton]; omega) ?_; intro v6 w6 F6 r6 o6 f6 x6)
       have hz:=BW.out.size;have HB6:=(BW.out.alloc hz (.cells #[.int .i64 aa,.int .i64 bb] 198)).trans (o6.below (B:=w.heap.size) (by simp only [World.size_alloc]; omega) FR.out.2);have f6':=f6 w.heap.size (by rw [List.append_nil]; exact FR.out) (by simp only [World.size_alloc]; omega);refine ⟨⟨b+1,_,F6,rfl,by rw [show ((b+1:Nat):Int)=bb+1 by have:=HB.out; omega],by omega,by omega,Lib.hid ⟨by rw [HN.out]; exact r6,f6',HB6⟩⟩,?_⟩;have:=HB.out;simp [intOf]; omega
     · obtain rfl:b=min (a+3) n+1:=by omega
       have HA:=Lib.hid haa;have HB:=Lib.hid hbb;have e1:decide (bb≤min (aa+3) (n:Int))=false:=decide_eq_false (by omega);have e2:¬ bb≤min (aa+3) (n:Int):=by omega
       have e3:¬ (bb≤aa+3∧bb≤(n:Int)):=by omega
       clear haa hbb
       go_wp2_with fail
       go_roundw
       case rel=>exact ⟨a+1,_,G2,rfl,by rw [← HA.out]; first | rfl | go_num,by omega,Lib.hid ⟨by rw [grpAll_succ]; exact REP.out,FR.out,BW.out⟩⟩
       case measure=>have:=HA.out; simp [intOf]; omega
  · obtain rfl:a=n:=by omega
    have ga:¬ (a:Int) < (a:Int):=by omega
    obtain ⟨U,un,uc,rfl⟩:=slice_form ALL.out.1
    go_wp2_with fail
    go_ret;exact ⟨_,G,rfl,by rw [← grpAll_all]; exact ALL.out.1,ALL.out.2.1,ALL.out.2.2⟩
end Go.Proofs.YtalmeogjhmblhaaGreat

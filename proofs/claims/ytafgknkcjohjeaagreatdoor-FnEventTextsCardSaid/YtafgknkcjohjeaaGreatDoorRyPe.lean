/- A hypothesis is inserted, unless there is a better one with its label. Conditions: none. -/
import Derived.Test.YtafgknkcjohjeaaGreatDoorTke
import Derived.Test.YtafgknkcjohjeaaGreatDoorRcWordse
import Derived.Test.YtafgknkcjohjeaaGreatDoorRwQe
import Derived.Deep.CutBlock
namespace Go.Proofs.YtafgknkcjohjeaaGreatDoor
open Go Go.RowKit
theorem str_eqB {a b:ByteArray} (h:a=b):(a.toList == b.toList)=true∧(a.toList != b.toList)=false:=by subst h; simp
theorem str_neB {a b:ByteArray} (h:¬ a=b):(a.toList == b.toList)=false∧(a.toList != b.toList)=true:=by
 have:(a.toList == b.toList)=false:=by rw [str_eq]; simpa using h
 exact ⟨this,by simp [bne,this]⟩
def othersK (xs:List HypZ) (h:HypZ) (i:Nat):List HypZ:=(xs.take i).filter fun x=>!decide (x.label=h.label)
theorem othersK_len (xs:List HypZ) (h:HypZ) (i:Nat):(othersK xs h i).length≤i:=Nat.le_trans (List.length_filter_le _ _) (by simp; omega)
theorem othersK_succ {xs:List HypZ} {h:HypZ} {i:Nat} (hi:i < xs.length):othersK xs h (i+1)=if xs[i].label=h.label then othersK xs h i else othersK xs h i++[xs[i]]:=by
 rw [othersK,List.take_succ_eq_append_getElem hi,List.filter_append]
 by_cases e:xs[i].label=h.label
 · rw [if_pos e]; simp [othersK,e]
 · rw [if_neg e]; simp [othersK,e]
theorem hypLt_same {x h:HypZ} (e:x.label=h.label):hypLt h x=decide (h.cost < x.cost):=by
 rw [hypLt,e,show bLess h.label h.label=false from bLess_sto.irr _];simp
set_option maxRecDepth 100000 in
set_option maxHeartbeats 8000000 in
theorem spec_l13Insert_c {xs:List HypZ} {h:HypZ} {v:Value} {F:List Nat} (w:World) (r:(pHyp.slice 169).rep true w xs [v] F) (hx:xs.length≤1000) (hso:xs.Pairwise (fun x y=>hypLt x y=true)) (hok:h.label.size≤maxLen∧I64 h.cost) :
 Calls Tryz.prog 113 #[v,.agg #[.string h.label,.int .i64 h.cost]] w fun e w'=>∃ u F',e=.returned u∧(pHyp.slice 169).rep true w' (insK hypLt HypZ.label xs h) [u] F'∧(∀ B,B≤w.heap.size→Fresh B F→Fresh B F')∧Below w.heap.size w w':=by
 obtain ⟨A,c,rfl,hc1,hc2,-⟩:=pHyps_open r;have R:=Lib.hid r;have R0:=Row.new w 169 #[.string h.label,.int .i64 h.cost];have b0:Below w.heap.size w (w.alloc (.cells #[.string h.label,.int .i64 h.cost] 169)):=(Below.refl _ _).alloc (Nat.le_refl _) _;have l0:w.heap.size < (w.alloc (.cells #[.string h.label,.int .i64 h.cost] 169)).heap.size:=by simp
 have OK:=Lib.hid hok;have SO:=Lib.hid hso;have hml:xs.length≤9223372036854775807:=by omega
 clear r hok hso
 go_enter Tryz.func113,Tryz.ntmps113
 go_upto_region 1 with fail
 generalize w.alloc (.cells #[.string h.label,.int .i64 h.cost] 169)=w0 at R0 b0 l0 ⊢;have HR0:=Lib.hid R0;have B0:=Lib.hid b0;clear R0 b0
 go_wp2_with fail
 go_loopw [5,6] (fun l i wr=>∃ (k:Nat) (v:Value) (G:List Nat),l=v∧i=.int .i64 k∧k≤xs.length∧Hid ((pHyp.slice 169).rep true wr (othersK xs h k) [v] G∧Fresh w0.heap.size G∧Below w0.heap.size w0 wr∧∀ x∈xs.take k,x.label=h.label→hypLt h x=true)) (fun _ i _=>xs.length - (intOf i).toNat)
 case atStart =>
  exact ⟨0,_,[w0.heap.size],rfl,rfl,by omega,Lib.hid ⟨slice_of_row (T:=pHyp) (xs:=[]) (Row.new w0 _ _) ⟨rfl,rfl⟩ (by simp [maxLen]),⟨by simp,by simp⟩,(Below.refl _ _).alloc (Nat.le_refl _) _,by simp⟩⟩
 case round =>
  obtain ⟨i,vk,G,rfl,rfl,hk,all⟩:=hrel;obtain ⟨rep,fr,hb,hno⟩:=all.out;obtain ⟨U,un,uc2,rfl⟩:=slice_form rep;have FR:=Lib.hid fr;have REP:=Lib.hid rep;have HBW:=Lib.hid hb;have HNO:=Lib.hid hno;clear rep fr all hno
  by_cases hlt:i < xs.length
  · have hbw:Below w.heap.size w wr:=B0.out.trans (hb.mono B0.out.size)
    obtain ⟨A',c',he,-,-,hr⟩:=pHyps_open (R.out.below hbw);cases he;obtain ⟨bs,os,rfl,hbq,-,c0,c1,o1,o2⟩:=hr i hlt;have rx:=HR0.out.below hb l0;have x0:=rx.c0;have x1:=rx.c1;have gk:(i:Int) < (xs.length:Int):=by omega
    have gk0:(0:Int)≤(i:Int):=by omega
    have kw:=IntWalk.i64_in ((i:Int)+1) (by omega);have HN:=Lib.hid (othersK_succ (h:=h) hlt);have HT:=Lib.hid (List.take_succ_eq_append_getElem hlt);have HMEM:=Lib.hid (List.getElem_mem hlt);generalize xs[i]=y at c0 c1 o1 o2 HN HT HMEM;have OY:=Lib.hid (And.intro o1 o2);clear hr rx hb hbw o1 o2
    go_upto_region 5 with fail
    by_cases hl:y.label=h.label
    · obtain ⟨q1,q2⟩:=str_eqB hl
      have HL:=Lib.hid hl;have HN1:=Lib.hid (show othersK xs h (i+1)=othersK xs h i by rw [HN.out,if_pos hl]);clear hl
      go_quiet (fail)
      obtain ⟨m9,rfl⟩:∃ n:Nat,n=nq:=⟨_,rfl⟩
      replace x1:(World.drewN _ m9).cell? _=_:=x1;replace c1:(World.drewN _ m9).cell? _=_:=c1;replace REP:=Lib.hid (REP.out.drewN m9);replace HBW:=Lib.hid (below_drewN HBW.out m9);clear x0 c0 q1 q2;generalize World.drewN _ m9=wq at x1 c1 REP HBW ⊢
      by_cases hcs:y.cost≤h.cost
      · have e1:decide (y.cost≤h.cost)=true:=decide_eq_true hcs
        have HANY:=Lib.hid (show insK hypLt HypZ.label xs h=xs by
         rw [insK,if_pos];rw [List.any_eq_true];exact ⟨y,HMEM.out,by rw [HL.out,hypLt_same HL.out,decide_eq_false (show ¬ h.cost < y.cost by omega)]; simp⟩)
        clear hcs
        go_wp2_with fail
        go_quiet (fail)
        go_wp2_with fail
        go_ret;refine ⟨_,F,rfl,?_,fun B _ hB=>hB,?_⟩
        · rw [HANY.out]; exact R.out.below (B0.out.trans ((below_drewN HBW.out _).mono B0.out.size))
        · exact B0.out.trans ((below_drewN HBW.out _).mono B0.out.size)
      · have e1:decide (y.cost≤h.cost)=false:=decide_eq_false hcs
        have NX:=Lib.hid (show ∀ x∈xs.take (i+1),x.label=h.label→hypLt h x=true by
         intro x hx he;rw [HT.out] at hx;rcases List.mem_append.1 hx with hx | hx
         · exact HNO.out x hx he
         · simp only [List.mem_singleton] at hx; subst hx; rw [hypLt_same he]; exact decide_eq_true (by omega))
        clear hcs
        go_wp2_with fail
        go_quiet (fail)
        go_wp2_with fail
        exact ⟨⟨i+1,_,G,rfl,by go_num,by omega,Lib.hid ⟨by rw [HN1.out]; exact REP.out.drewN _,FR.out,below_drewN HBW.out _,NX.out⟩⟩,by simp [intOf]; omega⟩
    · obtain ⟨q1,q2⟩:=str_neB hl
      have HN1:=Lib.hid (show othersK xs h (i+1)=othersK xs h i++[y] by rw [HN.out,if_neg hl])
      have NX:=Lib.hid (show ∀ x∈xs.take (i+1),x.label=h.label→hypLt h x=true by
       intro x hx he;rw [HT.out] at hx;rcases List.mem_append.1 hx with hx | hx
       · exact HNO.out x hx he
       · simp only [List.mem_singleton] at hx; subst hx; exact absurd he hl)
      clear hl
      go_quiet (fail)
      obtain ⟨m9,rfl⟩:∃ n:Nat,n=nq:=⟨_,rfl⟩
      replace c0:(World.drewN _ m9).cell? _=_:=c0;replace c1:(World.drewN _ m9).cell? _=_:=c1;replace REP:=Lib.hid (REP.out.drewN m9);replace HBW:=Lib.hid (below_drewN HBW.out m9);clear x0 x1 q1 q2;have LN:=Lib.hid (othersK_len xs h i);generalize World.drewN _ m9=wq at c0 c1 REP HBW ⊢
      go_wp2_with (at_builtin; refine wpList_append_repX (T:=pHyp) (e:=169) (ys:=[y]) (ec:=[.string y.label,.int .i64 y.cost]) rfl (.tmp 24) (.tmp 29) rfl Tryz.underlying165 infoHyp rfl (by decide) rfl (REP.out.alloc _) rfl (flat_repL _ (by intro z hz; simp only [List.mem_singleton] at hz; subst hz; exact OY.out)) (cellsAt_new _ _ _) trivial (by rw [List.append_nil]; exact FR.out.1) (by have:=LN.out; simp only [List.length_singleton,maxLen]; omega) (by have:=LN.out; simp only [List.length_singleton]; omega) ?_; intro v6 w6 F6 r6 o6 f6 x6)
      have hz:=HBW.out.size;have HB6:=(HBW.out.alloc hz (.cells #[.string y.label,.int .i64 y.cost] 169)).trans (o6.below (B:=w0.heap.size) (by simp only [World.size_alloc]; omega) FR.out.2);have f6':=f6 w0.heap.size (by rw [List.append_nil]; exact FR.out) (by simp only [World.size_alloc]; omega);exact ⟨⟨i+1,_,F6,rfl,by go_num,by omega,Lib.hid ⟨by rw [HN1.out]; exact r6,f6',HB6,NX.out⟩⟩,by simp [intOf]; omega⟩
  · obtain rfl:i=xs.length:=by omega
    have gk:¬ (xs.length:Int) < (xs.length:Int):=by omega
    have hb1:=Lib.hid hb
    have NO:=Lib.hid (show ¬ (xs.any (fun x=>decide (x.label=h.label) && !hypLt h x)=true) by
     rw [List.any_eq_true];rintro ⟨x,hx,he⟩;rw [Bool.and_eq_true,decide_eq_true_iff] at he;rw [HNO.out x (by rw [List.take_length]; exact hx) he.1] at he;exact absurd he.2 (by decide))
    have HYS:=Lib.hid (show othersK xs h xs.length=xs.filter fun x=>!decide (x.label=h.label) by rw [othersK,List.take_length]);have LN:=othersK_len xs h xs.length;have SOY:=Lib.hid (SO.out.sublist (List.filter_sublist (p:=fun x=>!decide (x.label=h.label)) (l:=xs)));rw [HYS.out] at REP LN;generalize hys:(xs.filter fun x=>!decide (x.label=h.label))=ys at REP LN SOY;have HY:=Lib.hid hys;clear hys HYS HNO hb;obtain ⟨Ay,cy,hv,-,hcy,-⟩:=pHyps_open REP.out;simp only [Value.slice.injEq] at hv;obtain ⟨hv1,hv2,hv3⟩:=hv;subst hv1;subst hv2;subst hv3;have hyl:ys.length≤1000:=by omega
    have hwz:=HBW.out.size;have rx:=HR0.out.below HBW.out l0;have HRX:=Lib.hid rx;clear rx;obtain ⟨wo,hwo⟩:∃ x,x=wr:=⟨_,rfl⟩
    subst hwo
    go_upto_block 2 with fail
    go_cut [7] from 42 to 54 (fun s wx=>∃ k:Nat,s=.int .i64 k∧k≤ys.length∧(∀ j (hj:j < ys.length),k≤j→hypLt h ys[j]=true)∧(∀ (h0:0 < k) (hk:k≤ys.length),hypLt h (ys[k - 1]'(by omega))=false)∧Below wo.heap.size wo wx)
    case first =>
     go_wp2_with fail
     go_loopw [7] (fun s wr=>∃ k:Nat,s=.int .i64 k∧k≤ys.length∧Hid ((∀ j (hj:j < ys.length),k≤j→hypLt h ys[j]=true)∧Below wo.heap.size wo wr)) (fun s _=>(intOf s).toNat)
     case atStart=>exact ⟨ys.length,rfl,Nat.le_refl _,Lib.hid ⟨fun j hj h=>by omega,Below.refl _ _⟩⟩
     case round =>
      obtain ⟨k,rfl,hk,all⟩:=hrel;have ALL:=Lib.hid all.out;clear all;cases k with
      | zero =>
        have hS:(fun _:World=>True) wr.drew:=trivial
        go_upto_region 10 with fail
        refine wp_region_held_drew (S:=(fun _:World=>True)) (by kernel_rfl) hS (fun _=>?_);refine tJ 0 hS ?_;refine tJ 1 hS ?_;refine tJ 2 hS ?_;refine tJ0 3 hS ?_;refine tJ0 4 hS ?_;refine tJ0 5 hS ?_;refine tJ0 6 hS ?_;refine tJ0 7 hS ?_;refine tJ0 8 hS ?_;refine tJ0 9 hS ?_;refine tJ 10 hS ?_;refine wpAnyH_done (by kernel_rfl) ?_ _
        go_wp2_with fail
        go_meet
        case rel=>exact ⟨0,rfl,Nat.zero_le _,ALL.out.1,fun h0=>absurd h0 (by decide),ALL.out.2.drew⟩
      | succ k1 =>
        obtain ⟨A2,c2,he,-,-,hry⟩:=pHyps_open (REP.out.below ALL.out.2);cases he;obtain ⟨g,off,rfl,hg,-,c0,c1,-⟩:=hry k1 (by omega);have rx:=HRX.out.later ALL.out.2;have hk':k1 < ys.length:=hk;have gk0:(0:Int)≤(k1:Int):=by omega
        have gk1:(k1:Int) < (ys.length:Int):=by omega
        have gk2:(0:Int) < ((k1+1:Nat):Int):=by omega
        have km:IntKind.i64.wrap (((k1+1:Nat):Int) - 1)=(k1:Int):=(IntWalk.i64_in _ (by omega)).trans (by omega);generalize hy:ys[k1]'hk'=y at c0 c1;have HK1:=Lib.hid hk';have HYK:=Lib.hid hy;have CB:=Lib.hid (fun w=>spec_l13Before_c h y w);generalize hkk:((k1+1:Nat):Int)=kk at gk2 km ⊢;have HKK:=Lib.hid hkk;clear hkk;have hS:(fun w':World=>w'.cell? ⟨w.heap.size,0,none⟩=some (.string h.label)∧w'.cell? ⟨w.heap.size,1,none⟩=some (.int .i64 h.cost)∧w'.cell? ⟨g,off+k1 * 2,none⟩=some (.string y.label)∧w'.cell? ⟨g,off+k1 * 2+1,none⟩=some (.int .i64 y.cost)) wr.drew:=⟨rx.c0,rx.c1,c0,c1⟩
        have BW:=Lib.hid ALL.out.2.drew;have hg':g < wr.drew.heap.size:=hg;have hl0:w.heap.size < wr.drew.heap.size:=rx.lt;clear hry rx c0 c1 hk hg
        go_upto_region 10 with fail
        refine wp_region_held_drew (S:=(fun w':World=>w'.cell? ⟨w.heap.size,0,none⟩=some (.string h.label)∧w'.cell? ⟨w.heap.size,1,none⟩=some (.int .i64 h.cost)∧w'.cell? ⟨g,off+k1 * 2,none⟩=some (.string y.label)∧w'.cell? ⟨g,off+k1 * 2+1,none⟩=some (.int .i64 y.cost))) (by kernel_rfl) hS (fun _=>?_);generalize wr.drew=we at BW hS hg' hl0 ⊢;refine tJ 0 hS ?_;refine tJ 1 hS ?_;refine tJ 2 hS ?_;refine tJ 3 hS ?_;refine tJ 4 hS ?_;refine tJ 5 hS ?_;refine tJ 6 hS ?_;refine tJ 7 hS ?_;refine tJ 8 hS ?_;refine rJ 9 fun K hK=>?_
        refine step_call 129 #[.tmp 45,.tmp 50] _ rfl rfl #[.agg #[.string h.label,.int .i64 h.cost],.agg #[.string y.label,.int .i64 y.cost]] Tryz.call129 (by go_simp) (CB.out we) ?_;rintro e w2 ⟨rfl,b2⟩;refine ⟨_,rfl,?_⟩;replace hS:(fun w':World=>w'.cell? ⟨w.heap.size,0,none⟩=some (.string h.label)∧w'.cell? ⟨w.heap.size,1,none⟩=some (.int .i64 h.cost)∧w'.cell? ⟨g,off+k1 * 2,none⟩=some (.string y.label)∧w'.cell? ⟨g,off+k1 * 2+1,none⟩=some (.int .i64 y.cost)) w2:=⟨(b2.cell (p:=⟨w.heap.size,_,none⟩) hl0).trans hS.1,(b2.cell (p:=⟨w.heap.size,_,none⟩) hl0).trans hS.2.1,(b2.cell (p:=⟨g,_,none⟩) hg').trans hS.2.2.1,(b2.cell (p:=⟨g,_,none⟩) hg').trans hS.2.2.2⟩
        replace BW:=Lib.hid (BW.out.trans (b2.mono BW.out.size));clear b2;refine bJ hK hS ?_;clear hK K;simp only [Act.put,pA,pB,pC];refine tJ 10 hS ?_;refine wpAnyH_done (by kernel_rfl) ?_ _;clear hS;cases hq:hypLt h y
        · go_wp2_with fail
          go_meet
          case rel=>exact ⟨k1+1,by rw [HKK.out],HK1.out,ALL.out.1,fun _ _=>by simp only [Nat.add_sub_cancel]; rw [HYK.out]; exact hq,BW.out⟩
        · go_wp2_with fail
          refine ⟨⟨k1,by first | rfl | go_num,Nat.le_of_lt HK1.out,Lib.hid ⟨fun j hj hkj=>?_,BW.out⟩⟩,?_⟩
          · by_cases e:j=k1
            · subst e; rw [HYK.out]; exact hq
            · exact ALL.out.1 j hj (by omega)
          · simp [intOf]; have:=HKK.out; omega
    case rest =>
     obtain ⟨wp,hwp⟩:∃ W,W=wc:=⟨_,rfl⟩
     subst hwp;obtain ⟨k,rfl,hk,hafter,hbefore,bp⟩:=hcut;have REP2:=Lib.hid (REP.out.below bp);have HINS:=Lib.hid (ins_at hypLt_sto SOY.out hk hafter (fun h0=>hbefore h0 hk));have HB2:=Lib.hid (HBW.out.trans (bp.mono HBW.out.size));have rx:=HRX.out.later bp;have x0:=rx.c0;have x1:=rx.c1;have hl0:w.heap.size < wp.heap.size:=rx.lt;have hl1:=hl0;have gk0:(0:Int)≤(k:Int):=by omega
     have gk1:(k:Int)≤(ys.length:Int):=by omega
     have HK:=Lib.hid hk;clear hafter hbefore bp rx REP HBW hk;have hyok:=flat_ok REP2.out;have HOKT:=Lib.hid (fun z (hz:z∈ys.take k)=>hyok z (List.mem_of_mem_take hz));have HOKD:=Lib.hid (fun z (hz:z∈ys.drop k)=>hyok z (List.mem_of_mem_drop hz));have HNT:=Lib.hid (show (ys.take k).length=k by rw [List.length_take]; have:=HK.out; omega);have HND:=Lib.hid (show (ys.drop k).length=ys.length - k by rw [List.length_drop]);have HFIN:=Lib.hid (show insS hypLt h ys=insK hypLt HypZ.label xs h by rw [insK,if_neg NO.out,HY.out]);clear hyok;rcases flat_parts REP2.out HK.out with ⟨hv,hyn⟩ | ⟨g,cc,AD,hv,h1,h2,hF,hg,ht,hif,hd⟩
     case' inl =>
      have hk0:k=0:=by have:=HK.out; rw [hyn] at this; simpa using this
      simp only [Value.slice.injEq] at hv;obtain ⟨rfl,hv2,rfl⟩:=hv;have ht:CellsAt wp none ((ys.take k).flatMap (fun h:HypZ=>[Value.string h.label,.int .i64 h.cost])):=fun h0=>by rw [hyn] at h0; simp at h0
      have hd:CellsAt wp none ((ys.drop k).flatMap (fun h:HypZ=>[Value.string h.label,.int .i64 h.cost])):=fun h0=>by rw [hyn] at h0; simp at h0
      have HLT:=Lib.hid (show ∀ a:Addr,(none:Option Addr)=some a→a.block < wp.heap.size by intro a h; cases h);have HLD:=HLT
     case' inr =>
      cases hv;have HLT:=Lib.hid (show ∀ a:Addr,(some ⟨g,0,none⟩:Option Addr)=some a→a.block < wp.heap.size by intro a h; cases h; exact hg)
      have HLD:=Lib.hid (show ∀ a:Addr,(some AD:Option Addr)=some a→a.block < wp.heap.size by
       intro a h
       split at hif
       · cases hif; cases h; exact hg
       · cases hif; cases h; exact hg)
     all_goals
      have HT:=Lib.hid ht;have HD:=Lib.hid hd;clear ht hd
      go_upto_region 13 with (at_builtin; refine wpList_append_repX (T:=pHyp) (e:=169) (ys:=ys.take k) (ec:=(ys.take k).flatMap (fun h:HypZ=>[Value.string h.label,.int .i64 h.cost])) rfl (.tmp 55) (.tmp 58) rfl Tryz.underlying165 infoHyp rfl (by decide) rfl (empty_is pHyp _ _) (by first | (rw [HNT.out]; rfl) | (rw [HNT.out,hk0]; rfl)) (flat_repL _ HOKT.out) (cellsAt_later HT.out HLT.out ((Below.refl _ _).alloc (Nat.le_refl _) _)) trivial (by simp) (by rw [HNT.out]; simp only [List.length_nil,maxLen]; omega) (by rw [HNT.out]; simp only [List.length_nil]; omega) ?_; intro v2 w2 F2 r2 o2 f2 x2)
      have b2:=((Below.refl wp.heap.size wp).alloc (Nat.le_refl _) (.cells #[] 169)).trans (o2.below (B:=wp.heap.size) (by simp) (by simp));have fr2:=f2 wp.heap.size ⟨by simp,by simp⟩ (by simp);have R2:=Lib.hid r2;have FR2:=Lib.hid fr2;have B2:=Lib.hid b2;obtain ⟨V2,n2,c2,rfl⟩:=slice_form r2;clear r2 o2 f2 x2 fr2;replace x0:=(b2.cell (p:=⟨w.heap.size,0,none⟩) hl0).trans x0; replace x1:=(b2.cell (p:=⟨w.heap.size,1,none⟩) hl0).trans x1
      clear b2
      go_upto_region 14 with (at_builtin; refine wpList_append_repX (T:=pHyp) (e:=169) (ys:=[h]) (ec:=[.string h.label,.int .i64 h.cost]) rfl (.tmp 60) (.tmp 62) rfl Tryz.underlying165 infoHyp rfl (by decide) rfl (R2.out.alloc _) rfl (flat_repL _ (by intro z hz; simp only [List.mem_singleton] at hz; subst hz; exact OK.out)) (cellsAt_new _ _ _) trivial (by rw [List.append_nil]; exact FR2.out.1) (by simp only [List.nil_append,HNT.out,List.length_singleton,maxLen]; omega) (by simp only [List.nil_append,HNT.out,List.length_singleton]; omega) ?_; intro v3 w3 F3 r3 o3 f3 x3)
      have hz2:=B2.out.size;have b3:=(B2.out.alloc hz2 (.cells [.string h.label,.int .i64 h.cost].toArray 169)).trans (o3.below (B:=wp.heap.size) (by simp only [World.size_alloc]; omega) FR2.out.2);have fr3:=f3 wp.heap.size (by rw [List.append_nil]; exact FR2.out) (by simp only [World.size_alloc]; omega);have R3:=Lib.hid r3;have FR3:=Lib.hid fr3;have B3:=Lib.hid b3;obtain ⟨V3,n3,c3,rfl⟩:=slice_form r3;clear r3 o3 f3 x3 fr3 b3
      go_wp2_with (at_builtin; refine wpList_append_repX (T:=pHyp) (e:=169) (ys:=ys.drop k) (ec:=(ys.drop k).flatMap (fun h:HypZ=>[Value.string h.label,.int .i64 h.cost])) rfl (.tmp 64) (.tmp 67) rfl Tryz.underlying165 infoHyp rfl (by decide) rfl R3.out (by first | (rw [HND.out]; rfl) | (rw [HND.out,hv2,hk0]; rfl)) (flat_repL _ HOKD.out) (cellsAt_later HD.out HLD.out B3.out) trivial (by rw [List.append_nil]; exact FR3.out.1) (by rw [HND.out]; simp only [List.nil_append,List.length_append,HNT.out,List.length_singleton,maxLen]; omega) (by rw [HND.out]; simp only [List.nil_append,List.length_append,HNT.out,List.length_singleton]; omega) ?_; intro v4 w4 F4 r4 o4 f4 x4)
      have hz3:=B3.out.size;have b4:=B3.out.trans (o4.below (B:=wp.heap.size) hz3 FR3.out.2);have fr4:=f4 wp.heap.size (by rw [List.append_nil]; exact FR3.out) hz3;have e4:[]++ys.take k++[h]++ys.drop k=ys.take k++h :: ys.drop k:=by simp
      rw [e4,HINS.out] at r4;clear x0 x1;go_ret;refine ⟨_,rfl,F4,by rw [← HFIN.out]; exact r4,fun B hB _=>fr4.mono (Nat.le_trans hB (Nat.le_of_lt hl1)),?_⟩;exact B0.out.trans ((HB2.out.trans (b4.mono HB2.out.size)).mono B0.out.size)
end Go.Proofs.YtafgknkcjohjeaaGreatDoor

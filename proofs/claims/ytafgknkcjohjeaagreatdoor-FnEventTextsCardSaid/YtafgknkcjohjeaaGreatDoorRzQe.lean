/- All found words, in the reference. Conditions: none. -/
import Derived.Test.YtafgknkcjohjeaaGreatDoorTke
import Derived.Test.YtafgknkcjohjeaaGreatDoorRzOe
import Derived.Deep.Cut
import Derived.Deep.CutRange
import Derived.Deep.CutBlock
namespace Go.Proofs.YtafgknkcjohjeaaGreatDoor
open Go Go.RowKit
set_option maxHeartbeats 8000000
set_option maxRecDepth 100000
theorem spec_l16All_c {o o2:Bool} {ee en:TypeId} {es:List LEdge} {xs:List PEntry} {N:Nat} {A B:Option Addr} {c cE gL oL gE oE:Nat} {F FE:List Nat} (w:World) (lL:gL < w.heap.size) (lE:gE < w.heap.size) (c0:w.cell? ⟨gL,oL,none⟩=some (.int .i64 (N:Nat))) (c1:w.cell? ⟨gL,oL+1,none⟩=some (.slice A es.length c)) (cX:w.cell? ⟨gE,oE,none⟩=some (.slice B xs.length cE)) (h:(pEdge.slice ee).rep o w es [.slice A es.length c] F) (hE:(pEntrys en).rep o2 w xs [.slice B xs.length cE] FE) (hN:1≤N∧N≤1000) (hl:lexB xs=true) (hes:es.length≤100000) (hd:∀ e∈es,e.src < e.dst∧e.dst < N∧0≤e.cost∧e.cost≤100000) :
 Calls Tryz.prog 56 #[.pointer (some ⟨gL,oL,none⟩),.pointer (some ⟨gE,oE,none⟩)] w (GivesO (pFound.slice 129) (sortedF (foundK xs es (N - 1) xs.length)) w):=by
 have hx60:xs.length≤60:=by rw [lexB,Bool.and_eq_true,decide_eq_true_iff] at hl; exact hl.2
 have EO:=Lib.hid (fun (e:PEntry) (he:e∈xs)=>(show e.word.size≤10∧0≤e.cost∧e.cost≤1000000 from ⟨(isWord_size (entry_ok hl he).1).2,(entry_ok hl he).2⟩));have CT:=Lib.hid (fun (wr:World) (b:Below w.heap.size w wr) (t:ByteArray) (ht:t.size≤10)=>spec_l15TextCost_c (t:=t) wr (Nat.lt_of_lt_of_le lL b.size) ((b.cell (p:=⟨gL,_,none⟩) lL).trans c0) ((b.cell (p:=⟨gL,_,none⟩) lL).trans c1) (h.below b) hN (by omega) hes hd);have HX:=Lib.hid (fun (w':World) (b:Below w.heap.size w w')=>(b.cell (p:=⟨gE,oE,none⟩) lE).trans cX);have HCS:=Lib.hid (fun (t:ByteArray) (x:Int) (h:lcE es (letterAt t) t.size (N - 1)=some x)=>lcE_small es (letterAt t) (fun e he=>(hd e he).2.2) t.size (N - 1) x h);have HE:=Lib.hid hE;have HL:=Lib.hid hl;clear h hE hl hd c0 c1 cX
 go_enter Tryz.func56,Tryz.ntmps56
 go_wp2_with fail
 go_loopw [5,6] (fun l i wr=>∃ (k:Nat) (v:Value) (G:List Nat),l=v∧i=.int .i64 k∧k≤xs.length∧Hid ((pFound.slice 129).rep true wr (sortedF (foundK xs es (N - 1) k)) [v] G∧Fresh w.heap.size G∧Below w.heap.size w wr)) (fun _ i _=>xs.length - (intOf i).toNat)
 case atStart =>
  exact ⟨0,_,[w.heap.size],rfl,rfl,by omega,Lib.hid ⟨slice_of_row (T:=pFound) (xs:=[]) (Row.new w _ _) ⟨rfl,rfl⟩ (by simp [maxLen]),⟨by simp,by simp⟩,(Below.refl _ _).alloc (Nat.le_refl _) _⟩⟩
 case round =>
  obtain ⟨i,vk,G,rfl,rfl,hi,all⟩:=hrel;have ALL:=Lib.hid all.out;clear all;have x0:=HX.out wr ALL.out.2.2;obtain ⟨Ay,ny,cy,rfl⟩:=slice_form ALL.out.1
  by_cases hlt:i < xs.length
  · have gi:(i:Int) < (xs.length:Int):=by omega
    have gi0:(0:Int)≤(i:Int):=by omega
    have iw:=IntWalk.i64_in ((i:Int)+1) (by omega);obtain ⟨A',c',he,-,-,hr⟩:=pEntrys_open HE.out;cases he;obtain ⟨be,oe,rfl,hbe,-,e0,e1,hew,-⟩:=hr i hlt;have heo:=EO.out _ (List.getElem_mem hlt);have HFN:=Lib.hid (foundK_none (xs:=xs) (es:=es) (n:=N - 1) hlt);have HFS:=Lib.hid (fun c=>foundK_some (xs:=xs) (es:=es) (n:=N - 1) hlt (c:=c));have HNW:=Lib.hid (lex_new HL.out (es:=es) (n:=N - 1) hlt)
    have HSM:=Lib.hid (show ∀ f∈sortedF (foundK xs es (N - 1) i),0≤f.path∧f.path≤1000000∧0≤f.own∧f.own≤1000000∧f.word≠xs[i].word from fun f hf=>by
     have hf:=(sortedF_perm _).mem_iff.1 hf;obtain ⟨e,he,h1,h2,h3⟩:=foundK_mem hf;have h4:=HCS.out _ _ h3;have h5:=EO.out e he;have h6:(e.word.size:Int) * 100000≤10 * 100000:=Int.mul_le_mul_of_nonneg_right (by omega) (by decide);exact ⟨h4.1,by omega,by omega,by omega,HNW.out f hf⟩)
    have HST:=Lib.hid (sortedF_strict (foundK_words HL.out es (N - 1) i hi));have HLN:=Lib.hid (show (sortedF (foundK xs es (N - 1) i)).length≤i by rw [sortedF_len]; exact foundK_len _ _ _ _);generalize xs[i]=en1 at e0 e1 heo HFN HFS HNW HSM hew;have HEC:=Lib.hid (fun (w':World) (b:Below w.heap.size w w')=>show (fun w':World=>w'.cell? ⟨gE,oE,none⟩=some (.slice (some ⟨be,oe,none⟩) xs.length cE)∧w'.cell? ⟨be,oe+i * 2,none⟩=some (.string en1.word)∧w'.cell? ⟨be,oe+i * 2+1,none⟩=some (.int .i64 en1.cost)) w' from ⟨HX.out w' b,(b.cell (p:=⟨be,_,none⟩) hbe).trans e0,(b.cell (p:=⟨be,_,none⟩) hbe).trans e1⟩);have x1:=(HEC.out wr ALL.out.2.2).2.1;have C1:=Lib.hid (CT.out wr ALL.out.2.2 en1.word heo.1);clear hr e0 e1
    go_wp2_with fail
    refine C1.out.mono ?_;rintro e w1 ⟨rfl,b1⟩;have REP1:=Lib.hid (ALL.out.1.below b1);have FR1:=Lib.hid ALL.out.2.1;have BW1:=Lib.hid (ALL.out.2.2.trans (b1.mono ALL.out.2.2.size));clear x0 x1 C1 ALL b1;cases hlc:lcE es (letterAt en1.word) en1.word.size (N - 1) with
    | none =>
      have HN1:=Lib.hid (HFN.out hlc);have g6:decide ((-1:Int) < 0)=true:=rfl;simp only [encM]
      go_wp2_with fail
      exact ⟨⟨i+1,_,G,rfl,by go_num,by omega,Lib.hid ⟨by rw [HN1.out]; exact REP1.out,FR1.out,BW1.out⟩⟩,by simp [intOf]; omega⟩
    | some cv =>
      have HN1:=Lib.hid (HFS.out cv hlc);have hcv:=HCS.out en1.word cv hlc;simp only [encM];have g6:decide (cv < 0)=false:=decide_eq_false (by omega);have hcv2:(en1.word.size:Int) * 100000≤10 * 100000:=Int.mul_le_mul_of_nonneg_right (by omega) (by decide);have HSN:=Lib.hid (show sortedF (foundK xs es (N - 1) (i+1))=insS foundLt ⟨en1.word,cv,en1.cost⟩ (sortedF (foundK xs es (N - 1) i)) by rw [HN1.out,sortedF_snoc]);generalize sortedF (foundK xs es (N - 1) i)=ys at REP1 HLN HST HSM HSN;have hyl:ys.length≤60:=by have:=HLN.out; omega
      have OK:=Lib.hid (show en1.word.size≤maxLen∧I64 cv∧I64 en1.cost from ⟨hew,⟨by omega,by omega⟩,⟨by omega,by omega⟩⟩);have HI:=Lib.hid (show I64 (cv+en1.cost) from ⟨by omega,by omega⟩)
      go_upto_region 7 with fail
      have hS:(fun w':World=>w'.cell? ⟨gE,oE,none⟩=some (.slice (some ⟨be,oe,none⟩) xs.length cE)∧w'.cell? ⟨be,oe+i * 2,none⟩=some (.string en1.word)∧w'.cell? ⟨be,oe+i * 2+1,none⟩=some (.int .i64 en1.cost)) w1.drew:=HEC.out _ BW1.out.drew;refine wp_region_held_drew (S:=(fun w':World=>w'.cell? ⟨gE,oE,none⟩=some (.slice (some ⟨be,oe,none⟩) xs.length cE)∧w'.cell? ⟨be,oe+i * 2,none⟩=some (.string en1.word)∧w'.cell? ⟨be,oe+i * 2+1,none⟩=some (.int .i64 en1.cost))) (by kernel_rfl) hS (fun _=>?_);replace REP1:=Lib.hid REP1.out.drew;replace BW1:=Lib.hid BW1.out.drew;generalize w1.drew=we at REP1 BW1 hS ⊢;refine tJ 0 hS ?_;refine tJ 1 hS ?_;refine tJ 2 hS ?_;refine tJ 3 hS ?_;refine tJ 4 hS ?_;refine tJ 5 hS ?_;refine tJ 6 hS ?_;refine tJ 7 hS ?_;refine tJ 8 hS ?_;refine tJ 9 hS ?_;refine tJ 10 hS ?_;refine tJ 11 hS ?_;refine tJ 12 hS ?_;refine tJ 13 hS ?_;refine tJ 14 hS ?_;refine tJ 15 hS ?_;refine tJ 16 hS ?_;refine tJ 17 hS ?_;refine rJ 18 fun K hK=>?_
      go_simp
      have bA:Below we.heap.size we (we.alloc (.cells #[.string .empty,.int .i64 0,.int .i64 0] 129)):=(Below.refl _ _).alloc (Nat.le_refl _) _;replace hS:=HEC.out _ (BW1.out.trans (bA.mono BW1.out.size));refine bJ hK hS ?_;clear hK K bA;have RF2:=Row.new we 129 #[.string en1.word,.int .i64 cv,.int .i64 en1.cost];have bF:Below we.heap.size we (we.alloc (.cells #[.string en1.word,.int .i64 cv,.int .i64 en1.cost] 129)):=(Below.refl _ _).alloc (Nat.le_refl _) _;refine rJ 19 fun K hK=>?_
      go_simp
      replace hS:=HEC.out _ (BW1.out.trans (bF.mono BW1.out.size));refine bJ hK hS ?_;clear hK K hS;refine wpAnyH_done (by kernel_rfl) ?_ _;generalize we.alloc (.cells #[.string en1.word,.int .i64 cv,.int .i64 en1.cost] 129)=wb at RF2 bF ⊢;have HRF:=Lib.hid RF2;have REPB:=Lib.hid (REP1.out.below bF);have BWB:=Lib.hid (BW1.out.trans (bF.mono BW1.out.size));have lF:we.heap.size < wb.heap.size:=RF2.lt;obtain ⟨Ay2,cy2,hv,-,hcy,-⟩:=pFounds_open REPB.out;simp only [Value.slice.injEq] at hv;obtain ⟨hv1,hv2,hv3⟩:=hv;subst hv1;subst hv2;subst hv3;clear RF2 bF BW1
      go_upto_block 2 with fail
      go_cut [9] from 53 to 65 (fun s wx=>∃ k:Nat,s=.int .i64 k∧k≤ys.length∧(∀ j (hj:j < ys.length),k≤j→foundLt ⟨en1.word,cv,en1.cost⟩ ys[j]=true)∧(∀ (h0:0 < k) (hk:k≤ys.length),foundLt ⟨en1.word,cv,en1.cost⟩ (ys[k - 1]'(by omega))=false)∧Below wb.heap.size wb wx)
      case first =>
       go_wp2_with fail
       go_loopw [9] (fun s wr=>∃ k:Nat,s=.int .i64 k∧k≤ys.length∧Hid ((∀ j (hj:j < ys.length),k≤j→foundLt ⟨en1.word,cv,en1.cost⟩ ys[j]=true)∧Below wb.heap.size wb wr)) (fun s _=>(intOf s).toNat)
       case atStart=>exact ⟨ys.length,rfl,Nat.le_refl _,Lib.hid ⟨fun j hj h=>by omega,Below.refl _ _⟩⟩
       case round =>
        obtain ⟨k,rfl,hk,all⟩:=hrel;have ALL:=Lib.hid all.out;clear all;cases k with
        | zero =>
          have hS0:(fun _:World=>True) wr.drew:=trivial
          go_upto_region 9 with fail
          refine wp_region_held_drew (S:=(fun _:World=>True)) (by kernel_rfl) hS0 (fun _=>?_);have hS:=hS0;refine tJ 0 hS ?_;refine tJ 1 hS ?_;refine tJ 2 hS ?_;refine tJ0 3 hS ?_;refine tJ0 4 hS ?_;refine tJ0 5 hS ?_;refine tJ0 6 hS ?_;refine tJ0 7 hS ?_;refine tJ0 8 hS ?_;refine tJ0 9 hS ?_;refine tJ 10 hS ?_;refine wpAnyH_done (by kernel_rfl) ?_ _
          go_wp2_with fail
          go_meet
          case rel=>exact ⟨0,rfl,Nat.zero_le _,ALL.out.1,fun h0=>absurd h0 (by decide),ALL.out.2.drew⟩
        | succ k1 =>
          obtain ⟨A2,c2,he,-,-,hry⟩:=pFounds_open (REPB.out.below ALL.out.2);cases he;have hk':k1 < ys.length:=hk;obtain ⟨g,off,rfl,hg,-,c0,c1,c2,-⟩:=hry k1 hk';have rx:=HRF.out.later ALL.out.2;have hsm:=HSM.out _ (List.getElem_mem hk');generalize hy:ys[k1]'hk'=y at c0 c1 c2 hsm;have HYK:=Lib.hid hy;have HK1:=Lib.hid hk';have gk0:(0:Int)≤(k1:Int):=by omega
          have gk1:(k1:Int) < (ys.length:Int):=by omega
          have gk2:(0:Int) < ((k1+1:Nat):Int):=by omega
          have km:IntKind.i64.wrap (((k1+1:Nat):Int) - 1)=(k1:Int):=(IntWalk.i64_in _ (by omega)).trans (by omega);have CB:=fun w=>spec_l16Before_c (x:=⟨en1.word,cv,en1.cost⟩) (y:=y) HI.out ⟨by omega,by omega⟩ (fun h=>hsm.2.2.2.2 h.symm) w
          dsimp only at CB;have CBH:=Lib.hid CB;generalize hkk:((k1+1:Nat):Int)=kk at gk2 km ⊢;have HKK:=Lib.hid hkk;have hS:(fun w':World=>w'.cell? ⟨we.heap.size,0,none⟩=some (.string en1.word)∧w'.cell? ⟨we.heap.size,1,none⟩=some (.int .i64 cv)∧w'.cell? ⟨we.heap.size,2,none⟩=some (.int .i64 en1.cost)∧w'.cell? ⟨g,off+k1 * 3,none⟩=some (.string y.word)∧w'.cell? ⟨g,off+k1 * 3+1,none⟩=some (.int .i64 y.path)∧w'.cell? ⟨g,off+k1 * 3+2,none⟩=some (.int .i64 y.own)) wr.drew:=⟨rx.c0,rx.c1,rx.c2,c0,c1,c2⟩
          have BW:=Lib.hid ALL.out.2.drew;have HSX:=Lib.hid (fun (w':World) (b:Below wr.heap.size wr w')=>show (fun w':World=>w'.cell? ⟨we.heap.size,0,none⟩=some (.string en1.word)∧w'.cell? ⟨we.heap.size,1,none⟩=some (.int .i64 cv)∧w'.cell? ⟨we.heap.size,2,none⟩=some (.int .i64 en1.cost)∧w'.cell? ⟨g,off+k1 * 3,none⟩=some (.string y.word)∧w'.cell? ⟨g,off+k1 * 3+1,none⟩=some (.int .i64 y.path)∧w'.cell? ⟨g,off+k1 * 3+2,none⟩=some (.int .i64 y.own)) w' from ⟨(rx.later b).c0,(rx.later b).c1,(rx.later b).c2,(b.cell (p:=⟨g,_,none⟩) hg).trans c0,(b.cell (p:=⟨g,_,none⟩) hg).trans c1,(b.cell (p:=⟨g,_,none⟩) hg).trans c2⟩);have BR:=Lib.hid ((Below.refl wr.heap.size wr).drew);clear hry rx c0 c1 c2 hk hg hkk hsm CB
          go_upto_region 9 with fail
          refine wp_region_held_drew (S:=(fun w':World=>w'.cell? ⟨we.heap.size,0,none⟩=some (.string en1.word)∧w'.cell? ⟨we.heap.size,1,none⟩=some (.int .i64 cv)∧w'.cell? ⟨we.heap.size,2,none⟩=some (.int .i64 en1.cost)∧w'.cell? ⟨g,off+k1 * 3,none⟩=some (.string y.word)∧w'.cell? ⟨g,off+k1 * 3+1,none⟩=some (.int .i64 y.path)∧w'.cell? ⟨g,off+k1 * 3+2,none⟩=some (.int .i64 y.own))) (by kernel_rfl) hS (fun _=>?_);generalize wr.drew=wd at BW BR hS ⊢;refine tJ 0 hS ?_;refine tJ 1 hS ?_;refine tJ 2 hS ?_;refine tJ 3 hS ?_;refine tJ 4 hS ?_;refine tJ 5 hS ?_;refine tJ 6 hS ?_;refine tJ 7 hS ?_;refine tJ 8 hS ?_;refine rJ 9 fun K hK=>?_
          refine step_call 88 #[.tmp 56,.tmp 61] _ rfl rfl #[.agg #[.string en1.word,.int .i64 cv,.int .i64 en1.cost],.agg #[.string y.word,.int .i64 y.path,.int .i64 y.own]] Tryz.call88 (by go_simp) (CBH.out wd) ?_;rintro e w2 ⟨rfl,b2⟩;refine ⟨_,rfl,?_⟩;replace hS:=HSX.out w2 (BR.out.trans (b2.mono BR.out.size));replace BW:=Lib.hid (BW.out.trans (b2.mono BW.out.size));clear b2;refine bJ hK hS ?_;clear hK K;simp only [Act.put,pA,pB,pC];refine tJ 10 hS ?_;refine wpAnyH_done (by kernel_rfl) ?_ _;clear hS HSX;cases hq:foundLt ⟨en1.word,cv,en1.cost⟩ y
          · go_wp2_with fail
            go_meet
            case rel=>exact ⟨k1+1,by rw [HKK.out],HK1.out,ALL.out.1,fun _ _=>by simp only [Nat.add_sub_cancel]; rw [HYK.out]; exact hq,BW.out⟩
          · go_wp2_with fail
            refine ⟨⟨k1,by first | rfl | go_num,Nat.le_of_lt HK1.out,Lib.hid ⟨fun j hj hkj=>?_,BW.out⟩⟩,?_⟩
            · by_cases e:j=k1
              · subst e; rw [HYK.out]; exact hq
              · exact ALL.out.1 j hj (by omega)
            · simp [intOf]; have:=HKK.out; omega
      case rest =>
       obtain ⟨wp,hwp⟩:∃ W,W=wc:=⟨_,rfl⟩
       subst hwp;obtain ⟨k,rfl,hk,hafter,hbefore,bp⟩:=hcut;have REP2:=Lib.hid (REPB.out.below bp);have HINS:=Lib.hid (ins_at foundLt_sto HST.out hk hafter (fun h0=>hbefore h0 hk));have HB2:=Lib.hid (BWB.out.trans (bp.mono BWB.out.size));have rx:=HRF.out.later bp;have x0:=rx.c0;have x1:=rx.c1;have x2:=rx.c2;have hl0:we.heap.size < wp.heap.size:=rx.lt;have gk0:(0:Int)≤(k:Int):=by omega
       have gk1:(k:Int)≤(ys.length:Int):=by omega
       have HK:=Lib.hid hk;clear hafter hbefore bp rx hk;have hyok:=flat_ok REP2.out;have HOKT:=Lib.hid (fun z (hz:z∈ys.take k)=>hyok z (List.mem_of_mem_take hz));have HOKD:=Lib.hid (fun z (hz:z∈ys.drop k)=>hyok z (List.mem_of_mem_drop hz));have HNT:=Lib.hid (show (ys.take k).length=k by rw [List.length_take]; have:=HK.out; omega);have HND:=Lib.hid (show (ys.drop k).length=ys.length - k by rw [List.length_drop]);clear hyok;rcases flat_parts REP2.out HK.out with ⟨hv,hyn⟩ | ⟨g,cc,AD,hv,h1,h2,hF,hg,ht,hif,hd⟩
       case' inl =>
        have hk0:k=0:=by have:=HK.out; rw [hyn] at this; simpa using this
        simp only [Value.slice.injEq] at hv;obtain ⟨rfl,hv2,rfl⟩:=hv;have ht:CellsAt wp none ((ys.take k).flatMap (fun f:FoundZ=>[Value.string f.word,.int .i64 f.path,.int .i64 f.own])):=fun h0=>by rw [hyn] at h0; simp at h0
        have hd:CellsAt wp none ((ys.drop k).flatMap (fun f:FoundZ=>[Value.string f.word,.int .i64 f.path,.int .i64 f.own])):=fun h0=>by rw [hyn] at h0; simp at h0
        have HLT:=Lib.hid (show ∀ a:Addr,(none:Option Addr)=some a→a.block < wp.heap.size by intro a h; cases h);have HLD:=HLT;clear hyn
       case' inr =>
        cases hv;have HLT:=Lib.hid (show ∀ a:Addr,(some ⟨g,0,none⟩:Option Addr)=some a→a.block < wp.heap.size by intro a h; cases h; exact hg)
        have HLD:=Lib.hid (show ∀ a:Addr,(some AD:Option Addr)=some a→a.block < wp.heap.size by
         intro a h
         split at hif
         · cases hif; cases h; exact hg
         · cases hif; cases h; exact hg)
       all_goals
        have HT:=Lib.hid ht;have HD:=Lib.hid hd;clear ht hd
        go_upto_region 12 with (at_builtin; refine wpList_append_repX (T:=pFound) (e:=129) (ys:=ys.take k) (ec:=(ys.take k).flatMap (fun f:FoundZ=>[Value.string f.word,.int .i64 f.path,.int .i64 f.own])) rfl (.tmp 66) (.tmp 69) rfl Tryz.underlying123 infoFound rfl (by decide) rfl (empty_is pFound _ _) (by first | (rw [HNT.out]; rfl) | (rw [HNT.out,hk0]; rfl)) (flat_repL _ HOKT.out) (cellsAt_later HT.out HLT.out ((Below.refl _ _).alloc (Nat.le_refl _) _)) trivial (by simp) (by rw [HNT.out]; simp only [List.length_nil,maxLen]; omega) (by rw [HNT.out]; simp only [List.length_nil]; omega) ?_; intro v2 w2 F2 r2 o2 f2 x2)
        have b2:=((Below.refl wp.heap.size wp).alloc (Nat.le_refl _) (.cells #[] 129)).trans (o2.below (B:=wp.heap.size) (by simp) (by simp));have fr2:=f2 wp.heap.size ⟨by simp,by simp⟩ (by simp);have R2:=Lib.hid r2;have FR2:=Lib.hid fr2;have B2:=Lib.hid b2;obtain ⟨V2,n2,c2,rfl⟩:=slice_form r2;clear r2 o2 f2 x2 fr2;replace x0:=(b2.cell (p:=⟨we.heap.size,0,none⟩) hl0).trans x0; replace x1:=(b2.cell (p:=⟨we.heap.size,1,none⟩) hl0).trans x1; replace x2:=(b2.cell (p:=⟨we.heap.size,2,none⟩) hl0).trans x2
        clear b2
        go_upto_region 13 with (at_builtin; refine wpList_append_repX (T:=pFound) (e:=129) (ys:=[(⟨en1.word,cv,en1.cost⟩:FoundZ)]) (ec:=[.string en1.word,.int .i64 cv,.int .i64 en1.cost]) rfl (.tmp 71) (.tmp 73) rfl Tryz.underlying123 infoFound rfl (by decide) rfl (R2.out.alloc _) rfl (flat_repL _ (by intro z hz; simp only [List.mem_singleton] at hz; subst hz; exact OK.out)) (cellsAt_new _ _ _) trivial (by rw [List.append_nil]; exact FR2.out.1) (by simp only [List.nil_append,HNT.out,List.length_singleton,maxLen]; omega) (by simp only [List.nil_append,HNT.out,List.length_singleton]; omega) ?_; intro v3 w3 F3 r3 o3 f3 x3)
        have hz2:=B2.out.size;have b3:=(B2.out.alloc hz2 (.cells [.string en1.word,.int .i64 cv,.int .i64 en1.cost].toArray 129)).trans (o3.below (B:=wp.heap.size) (by simp only [World.size_alloc]; omega) FR2.out.2);have fr3:=f3 wp.heap.size (by rw [List.append_nil]; exact FR2.out) (by simp only [World.size_alloc]; omega);have R3:=Lib.hid r3;have FR3:=Lib.hid fr3;have B3:=Lib.hid b3;obtain ⟨V3,n3,c3,rfl⟩:=slice_form r3;clear r3 o3 f3 x3 fr3 b3
        go_wp2_with (at_builtin; refine wpList_append_repX (T:=pFound) (e:=129) (ys:=ys.drop k) (ec:=(ys.drop k).flatMap (fun f:FoundZ=>[Value.string f.word,.int .i64 f.path,.int .i64 f.own])) rfl (.tmp 75) (.tmp 78) rfl Tryz.underlying123 infoFound rfl (by decide) rfl R3.out (by first | (rw [HND.out]; rfl) | (rw [HND.out,hv2,hk0]; rfl)) (flat_repL _ HOKD.out) (cellsAt_later HD.out HLD.out B3.out) trivial (by rw [List.append_nil]; exact FR3.out.1) (by rw [HND.out]; simp only [List.nil_append,List.length_append,HNT.out,List.length_singleton,maxLen]; omega) (by rw [HND.out]; simp only [List.nil_append,List.length_append,HNT.out,List.length_singleton]; omega) ?_; intro v4 w4 F4 r4 o4 f4 x4)
        have hz3:=B3.out.size;have b4:=B3.out.trans (o4.below (B:=wp.heap.size) hz3 FR3.out.2);have fr4:=f4 wp.heap.size (by rw [List.append_nil]; exact FR3.out) hz3;have e4:[]++ys.take k++[(⟨en1.word,cv,en1.cost⟩:FoundZ)]++ys.drop k=ys.take k++(⟨en1.word,cv,en1.cost⟩:FoundZ) :: ys.drop k:=by simp
        rw [e4,HINS.out] at r4;clear x0 x1 x2;exact ⟨⟨i+1,_,F4,rfl,by go_num,by omega,Lib.hid ⟨by rw [HSN.out]; exact r4,fr4.mono (HB2.out.size),HB2.out.trans (b4.mono HB2.out.size)⟩⟩,by simp [intOf]; omega⟩
  · obtain rfl:i=xs.length:=by omega
    have gi:¬ (xs.length:Int) < (xs.length:Int):=by omega
    go_wp2_with fail
    go_ret;exact ⟨_,G,rfl,ALL.out.1,ALL.out.2.1,ALL.out.2.2⟩
theorem find_first {α:Type} {q:α→Bool} {l:List α} {k:Nat} (hk:k < l.length) (h1:∀ j (hj:j < l.length),j < k→q l[j]=false) (h2:q l[k]=true):l.find? q=some l[k]:=by
 have e:l=l.take k++l[k] :: l.drop (k+1):=by rw [List.getElem_cons_drop,List.take_append_drop]
 have h3:(l.take k).find? q=none:=by
  rw [List.find?_eq_none];intro x hx;obtain ⟨j,hj,rfl⟩:=List.getElem_of_mem hx;rw [List.length_take] at hj;rw [List.getElem_take,h1 j (by omega) (by omega)]
  decide
 generalize hy:l[k]=y at e h2 ⊢;rw [e,List.find?_append,h3,List.find?_cons_of_pos h2];rfl
theorem find_nothing {α:Type} {q:α→Bool} {l:List α} (h1:∀ j (hj:j < l.length),j < l.length→q l[j]=false):l.find? q=none:=by
 rw [List.find?_eq_none];intro x hx;obtain ⟨j,hj,rfl⟩:=List.getElem_of_mem hx;rw [h1 j hj hj]
 decide
theorem spec_l18Pair_c {o:Bool} {bg:TypeId} {p:PSetup} {B:Option Addr} {c gM oM:Nat} {F:List Nat} (a b:ByteArray) (w:World) (c0:w.cell? ⟨gM,oM,none⟩=some (.int .i64 p.dflt)) (c1:w.cell? ⟨gM,oM+1,none⟩=some (.slice B p.bigrams.length c)) (h:(pBigrams bg).rep o w p.bigrams [.slice B p.bigrams.length c] F) (hx:p.bigrams.length≤100000) :
 Calls Tryz.prog 58 #[.pointer (some ⟨gM,oM,none⟩),.string a,.string b] w fun e w'=>e=.returned (.int .i64 (pairZ p a b))∧w'=w:=by
 have H:=Lib.hid h;clear h
 go_enter Tryz.func58,Tryz.ntmps58
 go_wp2_with fail
 go_loopw [7] (fun i wr=>∃ k:Nat,i=.int .i64 k∧k≤p.bigrams.length∧Hid ((∀ j (hj:j < p.bigrams.length),j < k→(decide (p.bigrams[j].first=a) && decide (p.bigrams[j].second=b))=false)∧w=wr)) (fun i _=>p.bigrams.length - (intOf i).toNat)
 case atStart=>exact ⟨0,rfl,by omega,Lib.hid ⟨fun j hj h=>by omega,rfl⟩⟩
 case round =>
  obtain ⟨k,rfl,hk,all⟩:=hrel;have NO:=Lib.hid all.out.1;have hw:=all.out.2;subst hw;clear all
  by_cases hlt:k < p.bigrams.length
  · have gk:(k:Int) < (p.bigrams.length:Int):=by omega
    have gk0:(0:Int)≤(k:Int):=by omega
    have kw:=IntWalk.i64_in ((k:Int)+1) (by omega);obtain ⟨A',c',he,-,-,hr⟩:=pBigrams_open H.out;cases he;obtain ⟨gb,ob,rfl,hgb,-,y0,y1,y2,-⟩:=hr k hlt;have HP:=Lib.hid (fun (h:(decide (p.bigrams[k].first=a) && decide (p.bigrams[k].second=b))=true)=>(show pairZ p a b=p.bigrams[k].cost by rw [pairZ,find_first hlt NO.out h]; rfl))
    have HQ:=Lib.hid (fun (h:(decide (p.bigrams[k].first=a) && decide (p.bigrams[k].second=b))=false)=>(show ∀ j (hj:j < p.bigrams.length),j < k+1→(decide (p.bigrams[j].first=a) && decide (p.bigrams[j].second=b))=false from fun j hj hjk=>by
     by_cases e:j=k
     · subst e; exact h
     · exact NO.out j hj (by omega)))
    generalize p.bigrams[k]=g at y0 y1 y2 HP HQ;clear hr NO
    by_cases h1:g.first=a
    · have gs1:=(str_eqB (a:=g.first) (b:=a) h1).1
      have gs2:=(str_eqB (a:=g.first) (b:=a) h1).2
      by_cases h2:g.second=b
      · have gt1:=(str_eqB (a:=g.second) (b:=b) h2).1
        have gt2:=(str_eqB (a:=g.second) (b:=b) h2).2;have HR:=Lib.hid (HP.out (by simp [h1,h2]));clear h1 h2
        go_wp2_with fail
        go_ret;exact ⟨by rw [HR.out]; rfl,by first | trivial | rfl⟩
      · have gt1:=(str_neB (a:=g.second) (b:=b) h2).1
        have gt2:=(str_neB (a:=g.second) (b:=b) h2).2;have HR:=Lib.hid (HQ.out (by simp [h2]));clear h1 h2
        go_wp2_with fail
        exact ⟨⟨k+1,by go_num,by omega,Lib.hid ⟨HR.out,by first | trivial | rfl⟩⟩,by simp [intOf]; omega⟩
    · have gs1:=(str_neB (a:=g.first) (b:=a) h1).1
      have gs2:=(str_neB (a:=g.first) (b:=a) h1).2;have HR:=Lib.hid (HQ.out (by simp [h1]));clear h1
      go_wp2_with fail
      exact ⟨⟨k+1,by go_num,by omega,Lib.hid ⟨HR.out,by first | trivial | rfl⟩⟩,by simp [intOf]; omega⟩
  · obtain rfl:k=p.bigrams.length:=by omega
    have gk:¬ (p.bigrams.length:Int) < (p.bigrams.length:Int):=by omega
    have HR:=Lib.hid (show pairZ p a b=p.dflt by rw [pairZ,find_nothing NO.out]; rfl)
    go_wp2_with fail
    go_ret;exact ⟨by rw [HR.out]; rfl,by first | trivial | rfl⟩
def bestW:Option (ByteArray × Int)→ByteArray
 | none=>⟨#[]⟩
 | some x=>x.1
def bestC:Option (ByteArray × Int)→Int
 | none=>0
 | some x=>x.2
def bestStep (p:PSetup) (last:ByteArray) (m:Option (ByteArray × Int)) (f:FoundZ):Option (ByteArray × Int):=match m with
 | none=>some (f.word,f.path+f.own+pairZ p last f.word)
 | some (w,c)=>if f.path+f.own+pairZ p last f.word < c then some (f.word,f.path+f.own+pairZ p last f.word) else some (w,c)
def bestN (w:ByteArray) (v:Int):Option (ByteArray × Int)→Option (ByteArray × Int)
 | none=>some (w,v)
 | some x=>if v < x.2 then some (w,v) else some x
theorem bestStep_N (p:PSetup) (last:ByteArray) (m:Option (ByteArray × Int)) (f:FoundZ):bestStep p last m f=bestN f.word (f.path+f.own+pairZ p last f.word) m:=by cases m <;> rfl
theorem bestF_succ (p:PSetup) (last:ByteArray) {l:List FoundZ} {k:Nat} (h:k < l.length):bestF p last (l.take (k+1))=bestStep p last (bestF p last (l.take k)) l[k]:=by
 rw [List.take_succ_eq_append_getElem h,bestF,List.foldl_append]; rfl
theorem bestF_word {p:PSetup} {last:ByteArray} {l:List FoundZ} (hl:∀ f∈l,1≤f.word.size) {x:ByteArray × Int} (h:bestF p last l=some x):1≤x.1.size:=by
 obtain ⟨w,c⟩:=x;obtain ⟨f,hf,rfl,-⟩:=bestF_mem h;exact hl f hf
theorem found_small {q:PSess} (h:sessB q=true):∀ f∈sortedF (foundZ q.setup (edgesZ q.setup q.strokes) q.strokes.length),0≤f.path∧f.path≤1000000∧0≤f.own∧f.own≤1000000∧1≤f.word.size:=by
 intro f hf;have hp:setupB q.setup=true:=by simp only [sessB,Bool.and_eq_true] at h; exact h.1
 have hi:inkB q.strokes=true:=by simp only [sessB,Bool.and_eq_true] at h; exact h.2.1
 have hl:=(setup_parts hp).2.2.2.2.2.2.1;have hf:=(sortedF_perm _).mem_iff.1 hf;obtain ⟨e,he,hf⟩:=List.mem_filterMap.1 hf;obtain ⟨c,hc,rfl⟩:=Option.map_eq_some_iff.1 hf;have h1:=entry_ok hl he;have h2:=isWord_size h1.1;have h3:=lcE_small (edgesZ q.setup q.strokes) (letterAt e.word) (K:=84082) (fun x hx=>(edgesZ_ok hp hi x hx).2.2.2) e.word.size _ _ hc;have h6:(e.word.size:Int) * 84082≤10 * 84082:=Int.mul_le_mul_of_nonneg_right (by omega) (by decide);exact ⟨h3.1,by dsimp only; omega,h1.2.1,h1.2.2,h2.1⟩
theorem edges_fit {p:PSetup} (hp:setupB p=true) {xs:List PStroke} (hi:inkB xs=true):∀ e∈sortedE (edgesZ p xs),e.src < e.dst∧e.dst < xs.length+1∧0≤e.cost∧e.cost≤100000:=by
 intro e he;have:=edgesZ_ok hp hi e ((sortedE_perm _).mem_iff.1 he);omega
theorem found_perm {es fs:List LEdge} (h:es.Perm fs) (xs:List PEntry) (n i:Nat):foundK xs es n i=foundK xs fs n i:=by
 unfold foundK
 congr 1
 funext e
 rw [fE,fE,lcE_perm h]
end Go.Proofs.YtafgknkcjohjeaaGreatDoor

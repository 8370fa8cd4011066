/- The ink of a group, in the reference. Conditions: none. -/
import Derived.Test.YtafgknkcjohjeaaGreatDoorTke
import Derived.Test.YtafgknkcjohjeaaGreatDoorRzJe
import Derived.Test.YtafgknkcjohjeaaGreatDoorRcRead2e
import Derived.Test.YtafgknkcjohjeaaGreatDoorRzDe
namespace Go.Proofs.YtafgknkcjohjeaaGreatDoor
open Go Go.RowKit
set_option maxRecDepth 100000 in
set_option maxHeartbeats 8000000 in
theorem spec_l14Ink_c {o:Bool} {pe st:TypeId} {xs:List PStroke} {A:Option Addr} {c gB oB a b:Nat} {F:List Nat} (w:World) (gl:gB < w.heap.size) (hcell:w.cell? ⟨gB,oB,none⟩=some (.slice A xs.length c)) (h:(pStrokes pe st).rep o w xs [.slice A xs.length c] F) (hs:∀ x∈xs,strokeB x=true) (h16:xs.length≤16) (hab:a < b) (hb:b≤xs.length) :
 Calls Tryz.prog 84 #[.pointer (some ⟨gB,oB,none⟩),.agg #[.int .i64 (a:Nat),.int .i64 (b:Nat)]] w fun e w'=>∃ u F,e=.returned (.agg #[u])∧(pStrokes 85 89).rep true w' (groupInk xs a b) [u] F∧Fresh w.heap.size F∧Below w.heap.size w w':=by
 have hol:=orderZ_len xs;have CO:=Lib.hid (fun (wr:World) (b:Below w.heap.size w wr)=>spec_l14Order_c wr (Nat.lt_of_lt_of_le gl b.size) ((b.cell (p:=⟨gB,_,none⟩) gl).trans hcell) (h.below b) hs h16);have HX:=Lib.hid (fun (w':World) (b:Below w.heap.size w w')=>(b.cell (p:=⟨gB,oB,none⟩) gl).trans hcell);have H:=Lib.hid h;have HS:=Lib.hid hs;have R0:=(Row.new w 163 #[.int .i64 (a:Nat),.int .i64 (b:Nat)]).alloc (.cells #[.slice none 0 0] 41);have R1:=Row.new (w.alloc (.cells #[.int .i64 (a:Nat),.int .i64 (b:Nat)] 163)) 41 #[.slice none 0 0];have b0:Below w.heap.size w ((w.alloc (.cells #[.int .i64 (a:Nat),.int .i64 (b:Nat)] 163)).alloc (.cells #[.slice none 0 0] 41)):=((Below.refl _ _).alloc (Nat.le_refl _) _).alloc (by simp) _;rw [World.size_alloc] at R1;clear h hs hcell
 go_enter Tryz.func84,Tryz.ntmps84
 go_upto_region 1 with fail
 generalize (w.alloc (.cells #[.int .i64 (a:Nat),.int .i64 (b:Nat)] 163)).alloc (.cells #[.slice none 0 0] 41)=w0 at R0 R1 b0 ⊢;have HR1:=Lib.hid R1;have B0:=Lib.hid b0.drew;have hS:(fun w':World=>w'.cell? ⟨w.heap.size,0,none⟩=some (.int .i64 (a:Nat))∧w'.cell? ⟨w.heap.size,1,none⟩=some (.int .i64 (b:Nat))) w0.drew:=⟨R0.c0,R0.c1⟩
 refine wp_region_held_drew (S:=(fun w':World=>w'.cell? ⟨w.heap.size,0,none⟩=some (.int .i64 (a:Nat))∧w'.cell? ⟨w.heap.size,1,none⟩=some (.int .i64 (b:Nat)))) (by kernel_rfl) hS (fun _=>?_);have l0:w.heap.size < w0.drew.heap.size:=R0.lt;replace HR1:=Lib.hid HR1.out.drew;clear R0 R1 b0;generalize w0.drew=we at B0 HR1 hS l0 ⊢;refine tJ 0 hS ?_;refine tJ 2 hS ?_;refine tJ 3 hS ?_;refine tJ 4 hS ?_;refine tJ 5 hS ?_;refine rJ 1 fun K hK=>?_
 refine step_call 110 #[.tmp 8] _ rfl rfl #[.pointer (some ⟨gB,oB,none⟩)] Tryz.call110 (by go_simp) (CO.out we B0.out) ?_;rintro e w1 ⟨vo,Fo,rfl,ro,fo,b1⟩;refine ⟨_,rfl,?_⟩;replace hS:(fun w':World=>w'.cell? ⟨w.heap.size,0,none⟩=some (.int .i64 (a:Nat))∧w'.cell? ⟨w.heap.size,1,none⟩=some (.int .i64 (b:Nat))) w1:=⟨(b1.cell (p:=⟨w.heap.size,_,none⟩) l0).trans hS.1,(b1.cell (p:=⟨w.heap.size,_,none⟩) l0).trans hS.2⟩
 replace HR1:=Lib.hid (HR1.out.later b1);have B1:=Lib.hid (B0.out.trans (b1.mono B0.out.size));clear b1 B0 CO;refine bJ hK hS ?_;clear hK K;simp only [Act.put,pA,pB,pC];obtain ⟨gO,cO,AD,rfl,hcO,hif,hpart⟩:=part_of ro hab (by rw [hol]; exact hb);rw [hol] at hcO ⊢;have HP:=Lib.hid hpart;have ga0:(0:Int)≤(a:Int):=by omega
 have gab:(a:Int)≤(b:Int):=by omega
 have gb1:(b:Int)≤(cO:Int):=by omega
 have gb2:b≤cO:=by omega
 have gb3:a≤b:=by omega
 clear hpart ro;refine tJ 6 hS ?_;refine tJ 7 hS ?_;refine wpAnyH_done (by kernel_rfl) ?_ _;clear hS;have HGI:=Lib.hid (Row.new w1 41 #[.slice none 0 0]);have HBI:=Lib.hid ((Below.refl w1.heap.size w1).alloc (Nat.le_refl _) (.cells #[.slice none 0 0] 41))
 go_upto_region 3 with fail
 generalize w1.alloc (.cells #[.slice none 0 0] 41)=w2 at HGI HBI ⊢;have hsl:(((orderZ xs).take b).drop a).length=b - a:=by rw [List.length_drop,List.length_take,hol]; omega
 have CHS:=Lib.hid (fun (wr:World) (bb:Below w1.heap.size w1 wr) (k:Nat)=>(show Calls Tryz.prog 111 #[.slice (some AD) (b - a) (cO - a),.int .i64 (k:Int)] wr fun e w'=>e=.returned (.bool (decide (k∈((orderZ xs).take b).drop a)))∧w'=wr from by
  have:=spec_l00Has_c (xs:=natI (((orderZ xs).take b).drop a)) (A:=some AD) (c:=cO - a) (x:=(k:Int)) wr (fun j hj=>by
   rw [natI_len] at hj;obtain ⟨b',off',h1,h2,h3⟩:=HP.out.below bb j hj;exact ⟨b',off',h1,by rw [h3]; simp [natI]⟩) (by rw [natI_len,hsl]; omega)
  rw [natI_len,hsl] at this;refine this.mono ?_;rintro e w' ⟨rfl,rfl⟩;exact ⟨by rw [decide_eq_decide.2 natI_mem],rfl⟩))
 have x0:=HX.out w2 (B1.out.trans (HBI.out.mono B1.out.size))
 go_wp2_with fail
 clear x0
 go_loopw [7] (fun i wr=>∃ (k:Nat) (u:Value) (G:List Nat),i=.int .i64 k∧k≤xs.length∧Hid (OwnInk wr (groupK xs a b k) w1.heap.size u G∧Below w1.heap.size w1 wr)) (fun i _=>xs.length - (intOf i).toNat)
 case atStart=>exact ⟨0,_,[],rfl,by omega,Lib.hid ⟨⟨HGI.out,slice_nil _ _ _ _,⟨by simp,by simp⟩⟩,HBI.out⟩⟩
 case round =>
  obtain ⟨k,u,G,rfl,hk,all⟩:=hrel;have ALL:=Lib.hid all.out;clear all;have HW:=Lib.hid (B1.out.trans (ALL.out.2.mono B1.out.size));have x0:=HX.out wr HW.out;have gB':=Nat.lt_of_lt_of_le gl HW.out.size;obtain ⟨U,un,uc,rfl⟩:=slice_form ALL.out.1.rep
  by_cases hlt:k < xs.length
  · have gk:(k:Int) < (xs.length:Int):=by omega
    have gk0:(0:Int)≤(k:Int):=by omega
    have kw:=IntWalk.i64_in ((k:Int)+1) (by omega);have C1:=Lib.hid (CHS.out wr ALL.out.2 k)
    by_cases hin:k∈((orderZ xs).take b).drop a
    · rw [decide_eq_true hin] at C1
      have HN:=Lib.hid (show groupK xs a b (k+1)=groupK xs a b k++[xs[k]] by rw [groupK_succ,if_pos hin,strk_get hlt]);have LN:=Lib.hid (groupK_len xs a b k);obtain ⟨A',c',he,-,-,hr⟩:=pStrokes_open (H.out.below HW.out);cases he;obtain ⟨bs,os,us,Fs,rfl,hbs,-,rs,-,cs⟩:=hr k hlt;obtain ⟨As,ks,rfl,-,-,-⟩:=pPoints_open rs;have hl60:=strokeB_both (HS.out _ (List.getElem_mem hlt));generalize xs[k]=sk at rs cs hl60 HN;have HRS:=Lib.hid rs.drew;have hbs':bs < wr.drew.heap.size:=hbs;have cs':wr.drew.cell? ⟨bs,os+k,none⟩=some (.slice As sk.length ks):=cs;clear hin hr rs
      go_wp2_with fail
      refine C1.out.mono ?_;rintro e w3 ⟨rfl,hw3⟩;subst hw3
      go_upto_region 7 with fail
      have hS:(fun w':World=>w'.cell? ⟨gB,oB,none⟩=some (.slice (some ⟨bs,os,none⟩) xs.length c)) w3.drew:=x0;refine wp_region_held_drew (S:=(fun w':World=>w'.cell? ⟨gB,oB,none⟩=some (.slice (some ⟨bs,os,none⟩) xs.length c))) (by kernel_rfl) hS (fun _=>?_);have OI:=Lib.hid ALL.out.1.drew;have BW:=Lib.hid ALL.out.2.drew;clear ALL C1 HW x0 cs hbs;generalize w3.drew=we at OI BW hS HRS hbs' cs' ⊢;refine tJ 0 hS ?_;refine tJ 2 hS ?_;refine tJ 3 hS ?_;refine tJ 4 hS ?_;refine tJ 5 hS ?_;refine tJ 6 hS ?_;refine tJ 7 hS ?_;have CC:=Lib.hid (spec_l02OwnStroke_c we hbs' cs' HRS.out (by omega));refine rJ2 1 8 (fun K hK=>?ga) (fun K hK=>?gb)
      case' ga =>
       have y0:=OI.out.row.c0
       go_simp
       refine bJ hK hS ?_;clear hK K y0;refine rJ 8 fun K hK=>?_
       refine step_call 42 #[.tmp 35] _ rfl rfl #[.pointer (some ⟨bs,os+k,none⟩)] Tryz.call42 (by go_simp) CC.out ?_
      case' gb =>
       refine step_call 42 #[.tmp 35] _ rfl rfl #[.pointer (some ⟨bs,os+k,none⟩)] Tryz.call42 (by go_simp) CC.out ?_
      all_goals (
       rintro e w4 ⟨u4,F4,rfl,r4,f4,b4⟩;refine ⟨_,rfl,?_⟩;have OI4:=Lib.hid (OI.out.later b4);have BW4:=Lib.hid (BW.out.trans (b4.mono BW.out.size));have R4:=Lib.hid r4;have FR4:=Lib.hid f4;have DIS:=Lib.hid (show ∀ x,x∈G→x∈F4→False from fun x h1 h2=>by have:=OI.out.rep.blocks x h1; have:=f4.2 x h2; omega);obtain ⟨V4,n4,c4,rfl⟩:=slice_form r4;replace hS:=HX.out w4 (B1.out.trans (BW4.out.mono B1.out.size));clear b4 r4 f4 CC HRS cs' hbs';refine bJ hK hS ?_;clear hK K;simp only [Act.put,pA,pB,pC]
       )
      case' gb =>
       refine rJ2 1 9 (fun K hK=>?gc) (fun K hK=>?gd)
      case' gc =>
       have y0:=OI4.out.row.c0
       go_simp
       refine bJ hK hS ?_;clear hK K y0
      case' ga =>
       refine rJ 9 fun K hK=>?_
      case' gc =>
       refine rJ 9 fun K hK=>?_
      all_goals (
       go_simp
       have hal:Below w4.heap.size w4 (w4.alloc (.cells #[.slice V4 n4 c4] 89)):=(Below.refl _ _).alloc (Nat.le_refl _) _;have hat:CellsAt (w4.alloc (.cells #[.slice V4 n4 c4] 89)) (some ⟨w4.heap.size,0,none⟩) [.slice V4 n4 c4]:=cellsAt_new _ _ _;have OI5:=Lib.hid (OI4.out.later hal);have BW5:=Lib.hid (BW4.out.trans (hal.mono BW4.out.size));have R5:=Lib.hid (R4.out.below hal);replace hS:=HX.out _ (B1.out.trans (BW5.out.mono B1.out.size));refine bJ hK hS ?_;generalize w4.alloc (.cells #[.slice V4 n4 c4] 89)=w5 at hat OI5 BW5 R5 hS ⊢;clear hK K hal OI4 BW4 R4
       )
      case' gd =>
       have y0:=OI5.out.row.c0;refine rJ 1 fun K hK=>?_
       go_simp
       refine bJ hK hS ?_;clear hK K y0
      all_goals (
       refine rJ 10 fun K hK=>?_
       refine step_append_repX (T:=pStroke 85) (e:=89) (ys:=[sk]) (ec:=[.slice V4 n4 c4]) rfl (.tmp 29) (.tmp 37) rfl Tryz.underlying39 Tryz.infoStrokeR rfl (by decide) rfl OI5.out.rep rfl (repL_single.2 R5.out) hat (nodup_app OI5.out.fr.1 FR4.out.1 DIS.out) (by have:=LN.out; simp only [List.length_singleton,maxLen]; omega) (by have:=LN.out; simp only [List.length_singleton]; omega) ?_;intro v6 w6 F6 r6 o6 f6 x6;have hbn:w1.heap.size∉G:=fun hin=>by have:=OI5.out.fr.2 _ hin; omega
       have RI6:Row w6 w1.heap.size 41 [.slice U un uc]:=(o6.block _ OI5.out.row.lt hbn).trans OI5.out.row;have BW6:=Lib.hid (BW5.out.trans (o6.below (B:=w1.heap.size) BW5.out.size (fun b hb=>by have:=OI5.out.fr.2 _ hb; omega)));have hF4:∀ b∈F4,w1.heap.size+1≤b:=fun b hb=>by have:=FR4.out.2 b hb; have:=OI.out.row.lt; omega
       have f6':=f6 (w1.heap.size+1) ⟨nodup_app OI5.out.fr.1 FR4.out.1 DIS.out,fun b hb=>(List.mem_append.1 hb).elim (OI5.out.fr.2 b) (hF4 b)⟩ (Nat.succ_le_of_lt OI5.out.row.lt);obtain ⟨V6,n6,c6,rfl⟩:=slice_form r6;replace hS:=HX.out w6 (B1.out.trans (BW6.out.mono B1.out.size));refine bJ hK hS ?_;have OI7:=Lib.hid (show OwnInk (w6.setCell ⟨w1.heap.size,0,none⟩ (.slice V6 n6 c6)) (groupK xs a b k++[sk]) w1.heap.size (.slice V6 n6 c6) F6 from ⟨RI6.set 0 _,Ty.rep.setCell (T:=pStrokes 85 89) r6 (p:=⟨w1.heap.size,0,none⟩) (fun hin=>by have:=f6'.2 _ hin; dsimp only at this; omega) _,f6'⟩);have BW7:=Lib.hid (BW6.out.setCell (p:=⟨w1.heap.size,0,none⟩) (Nat.le_refl _) (.slice V6 n6 c6));have v0:=RI6.c0;have vF:=RI6.frozen;clear hK K r6 o6 f6 x6 hat OI5 BW5 R5 RI6 f6' hF4 hbn FR4 DIS OI BW BW6;refine tJ 11 hS ?_;refine rJ 12 fun K hK=>?_
       go_simp
       replace hS:=HX.out _ (B1.out.trans (BW7.out.mono B1.out.size));refine bJ hK hS ?_;clear hK K hS v0 vF;refine wpAnyH_done (by kernel_rfl) ?_ _
       go_wp2_with fail
       exact ⟨⟨k+1,_,F6,by go_num,by omega,Lib.hid ⟨by rw [HN.out]; exact OI7.out,BW7.out⟩⟩,by simp [intOf]; omega⟩
       )
    · rw [decide_eq_false hin] at C1
      have HN:=Lib.hid (show groupK xs a b (k+1)=groupK xs a b k by rw [groupK_succ,if_neg hin]);clear hin
      go_wp2_with fail
      refine C1.out.mono ?_;rintro e w3 ⟨rfl,hw3⟩;subst hw3
      go_wp2_with fail
      exact ⟨⟨k+1,_,G,by go_num,by omega,Lib.hid ⟨by rw [HN.out]; exact ALL.out.1,ALL.out.2⟩⟩,by simp [intOf]; omega⟩
  · obtain rfl:k=xs.length:=by omega
    have gk:¬ (xs.length:Int) < (xs.length:Int):=by omega
    have y0:=ALL.out.1.row.c0;have R1:=HR1.out.later ALL.out.2;have v0:=R1.c0;have vF:=R1.frozen;have e0:=(R1.set 0 (.slice U un uc)).c0;have hne:w.heap.size+1∉G:=fun hin=>by have:=ALL.out.1.fr.2 _ hin; have:=HR1.out.lt; omega
    have RES:=Lib.hid (Ty.rep.setCell (T:=pStrokes 85 89) ALL.out.1.rep (p:=⟨w.heap.size+1,0,none⟩) hne (.slice U un uc));have BF:=Lib.hid (HW.out.setCell (p:=⟨w.heap.size+1,0,none⟩) (by show w.heap.size≤w.heap.size+1; omega) (.slice U un uc));have FRR:=Lib.hid (ALL.out.1.fr.mono (show w.heap.size≤w1.heap.size+1 by have:=HR1.out.lt; omega));clear R1 hne CHS
    go_wp2_with fail
    refine bodyPost_ret (v:=.agg #[.slice U un uc]) (by simp only [results,Tryz.results84]; go_simp) rfl ?_;exact ⟨_,rfl,G,by rw [← groupK_all]; exact RES.out,FRR.out,BF.out⟩
section
variable (a b:List PFeat) (band far:Int)
def elC (i j:Nat):Int:=encO far (elE (fun i j=>costZ (ftAt a i) (ftAt b j)) band i j)
def beC (i j:Nat):Int:=encO far (befE (fun i j=>costZ (ftAt a i) (ftAt b j)) band i j)
variable {a b band far}
theorem cst_small (fa:∀ f∈a,featB f=true) (fb:∀ f∈b,featB f=true) (i j:Nat):0≤costZ (ftAt a i) (ftAt b j)∧costZ (ftAt a i) (ftAt b j)≤574:=costZ_small (ftAt_ok fa i) (ftAt_ok fb j)
theorem elC_lt (fa:∀ f∈a,featB f=true) (fb:∀ f∈b,featB f=true) (hf:1000000≤far) {i j:Nat} (hi:i≤100) (hj:j≤100):LeO far (elE (fun i j=>costZ (ftAt a i) (ftAt b j)) band i j):=by
 intro v hv;have:=(elE_small (K:=574) (fun i j=>cst_small fa fb i j) i j v hv).2;omega
theorem encO_le {far:Int} {x:Option Int} (h:LeO far x) (h0:∀ v,x=some v→0≤v) (hf:0≤far):0≤encO far x∧encO far x≤far:=by
 cases x with
 | none=>exact ⟨hf,Int.le_refl _⟩
 | some v=>exact ⟨h0 v rfl,Int.le_of_lt (h v rfl)⟩
theorem elC_le (fa:∀ f∈a,featB f=true) (fb:∀ f∈b,featB f=true) (hf:1000000≤far) {i j:Nat} (hi:i≤100) (hj:j≤100):0≤elC a b band far i j∧elC a b band far i j≤far :=
 encO_le (elC_lt fa fb hf hi hj) (fun v hv=>(elE_small (K:=574) (fun i j=>cst_small fa fb i j) i j v hv).1) (by omega)
theorem beC_le (fa:∀ f∈a,featB f=true) (fb:∀ f∈b,featB f=true) (hf:1000000≤far) {i j:Nat} (hi:i≤100) (hj:j≤100):0≤beC a b band far i j∧beC a b band far i j≤far:=by
 have hs:=befE_small (band:=band) (K:=574) (fun i j=>cst_small fa fb i j) i j;exact encO_le (fun v hv=>by have:=(hs v hv).2; omega) (fun v hv=>(hs v hv).1) (by omega)
theorem beC_zero:beC a b band far 0 0=0:=rfl
theorem beC_up (i:Nat):beC a b band far (i+1) 0=elC a b band far i 0:=rfl
theorem beC_left (j:Nat):beC a b band far 0 (j+1)=elC a b band far 0 j:=rfl
theorem beC_both (fa:∀ f∈a,featB f=true) (fb:∀ f∈b,featB f=true) (hf:1000000≤far) {i j:Nat} (hi:i+1≤100) (hj:j+1≤100) :
 beC a b band far (i+1) (j+1)=min (min (elC a b band far i j) (elC a b band far i (j+1))) (elC a b band far (i+1) j):=by
 have l1:=elC_lt (band:=band) fa fb hf (i:=i) (j:=j) (by omega) (by omega);have l2:=elC_lt (band:=band) fa fb hf (i:=i) (j:=j+1) (by omega) (by omega);have l3:=elC_lt (band:=band) fa fb hf (i:=i+1) (j:=j) (by omega) (by omega)
 show encO far (minO (minO _ _) _)=_
 rw [encO_min (l1.min l2) l3,encO_min l1 l2];rfl
def stepA (s:Int) (i j:Nat):Int:=if 0 < i∧0 < j then min s (elC a b band far (i - 1) (j - 1)) else s
def stepB (s:Int) (i j:Nat):Int:=if 0 < i then min s (elC a b band far (i - 1) j) else s
def stepC (s:Int) (i j:Nat):Int:=if 0 < j then min s (elC a b band far i (j - 1)) else s
theorem steps_eq (fa:∀ f∈a,featB f=true) (fb:∀ f∈b,featB f=true) (hf:1000000≤far) {i j:Nat} (hi:i≤100) (hj:j≤100) (h0:¬ (i=0∧j=0)) :
 stepC (a:=a) (b:=b) (band:=band) (far:=far) (stepB (a:=a) (b:=b) (band:=band) (far:=far) (stepA (a:=a) (b:=b) (band:=band) (far:=far) far i j) i j) i j=beC a b band far i j:=by
 unfold stepA stepB stepC;cases i with
 | zero =>
   cases j with
   | zero=>exact absurd ⟨rfl,rfl⟩ h0
   | succ j =>
     have:=(elC_le (band:=band) fa fb hf (i:=0) (j:=j) (by omega) (by omega)).2;simp only [Nat.lt_irrefl,false_and,if_false,Nat.zero_lt_succ,if_true,Nat.add_sub_cancel,beC_left];omega
 | succ i =>
   cases j with
   | zero =>
     have:=(elC_le (band:=band) fa fb hf (i:=i) (j:=0) (by omega) (by omega)).2;simp only [Nat.lt_irrefl,and_false,if_false,Nat.zero_lt_succ,if_true,Nat.add_sub_cancel,beC_up];omega
   | succ j =>
     have:=(elC_le (band:=band) fa fb hf (i:=i) (j:=j) (by omega) (by omega)).2;simp only [Nat.zero_lt_succ,and_self,if_true,Nat.add_sub_cancel,beC_both fa fb hf hi hj];omega
theorem steps_zero (s:Int):stepC (a:=a) (b:=b) (band:=band) (far:=far) (stepB (a:=a) (b:=b) (band:=band) (far:=far) (stepA (a:=a) (b:=b) (band:=band) (far:=far) s 0 0) 0 0) 0 0=s:=by
 simp [stepA,stepB,stepC]
theorem elC_eq (fa:∀ f∈a,featB f=true) (fb:∀ f∈b,featB f=true) (hb:0≤band) (hf:1000000≤far) {i j:Nat} (hi:i≤100) (hj:j≤100) :
 elC a b band far i j=if band < absZ ((i:Int) - j)∨beC a b band far i j=far then far else beC a b band far i j+costZ (ftAt a i) (ftAt b j):=by
 have h:=enc_cell (band:=band) (K:=574) (far:=far) hb (fun i j=>cst_small fa fb i j) i j (by omega);have h2:=(beC_le (band:=band) fa fb hf hi hj).2;have h':elC a b band far i j=if absZ ((i:Int) - j) > band∨far≤beC a b band far i j then far else beC a b band far i j+costZ (ftAt a i) (ftAt b j):=h
 rw [h']
 by_cases e:beC a b band far i j=far
 · rw [if_pos (.inr (by omega)),if_pos (.inr e)]
 · by_cases e2:band < absZ ((i:Int) - j)
   · rw [if_pos (.inl e2),if_pos (.inl e2)]
   · rw [if_neg (fun h=>h.elim e2 (fun h=>e (by omega))),if_neg (fun h=>h.elim e2 e)]
theorem elC_last {v:Int} (h:elZ a b band=some v):elC a b band far (a.length - 1) (b.length - 1)=v:=by
 unfold elC;rw [show elE (fun i j=>costZ (ftAt a i) (ftAt b j)) band (a.length - 1) (b.length - 1)=some v from h];rfl
variable (a b band far)
def tabF (m p x:Nat):Int:=if x < p then elC a b band far (x / m) (x % m) else 0
variable {a b band far}
theorem tabF_get {m p i j:Nat} (hj:j < m) (h:i * m+j < p):tabF a b band far m p (i * m+j)=elC a b band far i j:=by
 have e1:(i * m+j) / m=i:=by
  rw [Nat.add_comm,Nat.add_mul_div_right _ _ (by omega),Nat.div_eq_of_lt hj,Nat.zero_add]
 have e2:(i * m+j) % m=j:=by
  rw [Nat.add_comm,Nat.add_mul_mod_self_right,Nat.mod_eq_of_lt hj]
 rw [tabF,if_pos h,e1,e2]
theorem tabF_next {m N i j:Nat} (hj:j < m) {v:Int} (hv:v=elC a b band far i j):ints N (fun y=>if y=i * m+j then v else tabF a b band far m (i * m+j) y)=ints N (tabF a b band far m (i * m+j+1)):=by
 apply ints_congr;intro x _
 by_cases e:x=i * m+j
 · rw [if_pos e,hv,e,tabF_get hj (by omega)]
 · rw [if_neg e]
   unfold tabF
   by_cases h:x < i * m+j
   · rw [if_pos h,if_pos (by omega)]
   · rw [if_neg h,if_neg (by omega)]
theorem tabF_zero (m N:Nat):ints N (fun _=>0)=ints N (tabF a b band far m 0):=ints_congr fun x _=>by simp [tabF]
end
end Go.Proofs.YtafgknkcjohjeaaGreatDoor

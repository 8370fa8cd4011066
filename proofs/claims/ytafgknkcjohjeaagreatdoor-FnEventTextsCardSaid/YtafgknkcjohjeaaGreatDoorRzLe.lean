/- The lattice of ink, in the reference. Conditions: none. -/
import Derived.Test.YtafgknkcjohjeaaGreatDoorTke
import Derived.Test.YtafgknkcjohjeaaGreatDoorRzJe
import Derived.Test.YtafgknkcjohjeaaGreatDoorRzHe
import Derived.Test.YtafgknkcjohjeaaGreatDoorRyHe
namespace Go.Proofs.YtafgknkcjohjeaaGreatDoor
open Go Go.RowKit
set_option maxRecDepth 100000 in
set_option maxHeartbeats 8000000 in
theorem spec_l15Of_c {o ox:Bool} {ft tm pe st:TypeId} {p:PSetup} {xs:List PStroke} {A Ax:Option Addr} {c cx gS oS gX oX gT oT:Nat} {F Fx:List Nat} (w:World) (lS:gS < w.heap.size) (lX:gX < w.heap.size) (lT:gT < w.heap.size) (cB:w.cell? ⟨gS,oS,none⟩=some (.int .i64 p.band)) (cT:w.cell? ⟨gS,oS+1,none⟩=some (.slice A p.temps.length c)) (cX:w.cell? ⟨gX,oX,none⟩=some (.slice Ax xs.length cx)) (t0:w.cell? ⟨gT,oT,none⟩=some (.int .i64 p.points)) (t1:w.cell? ⟨gT,oT+1,none⟩=some (.int .i64 p.most)) (t2:w.cell? ⟨gT,oT+2,none⟩=some (.int .i64 p.pen))
 (h:(pTemps ft tm).rep o w p.temps [.slice A p.temps.length c] F) (hx:(pStrokes pe st).rep ox w xs [.slice Ax xs.length cx] Fx) (hp:setupB p=true) (hi:inkB xs=true) (hs:∀ s∈xs,strokeB s=true) (h16:xs.length≤16) :
 Calls Tryz.prog 55 #[.pointer (some ⟨gS,oS,none⟩),.pointer (some ⟨gX,oX,none⟩),.pointer (some ⟨gT,oT,none⟩)] w fun e w'=>∃ u F,e=.returned (.agg #[.int .i64 ((xs.length:Int)+1),u])∧(pEdge.slice 171).rep true w' (sortedE (edgesZ p xs)) [u] F∧Fresh w.heap.size F∧Below w.heap.size w w':=by
 have CG:=Lib.hid (fun w=>spec_l14Groups_c w h16);have CI:=Lib.hid (fun (wr:World) (b:Below w.heap.size w wr) (i j:Nat) (h1:i < j) (h2:j≤xs.length)=>spec_l14Ink_c wr (Nat.lt_of_lt_of_le lX b.size) ((b.cell (p:=⟨gX,_,none⟩) lX).trans cX) (hx.below b) hs h16 h1 h2)
 have C13:=Lib.hid (fun (wr:World) (b:Below w.heap.size w wr) (i j gI:Nat) (V:Option Addr) (cI:Nat) (FI:List Nat) (h1:i < j) (h2:j≤xs.length) (h72:((j - i:Nat):Int) * p.points≤72) (lI:gI < wr.heap.size) (ci:wr.cell? ⟨gI,0,none⟩=some (.slice V (groupInk xs i j).length cI)) (ri:(pStrokes 85 89).rep true wr (groupInk xs i j) [.slice V (groupInk xs i j).length cI] FI) =>
  spec_l13Of_c wr (Nat.lt_of_lt_of_le lS b.size) lI (Nat.lt_of_lt_of_le lT b.size) ((b.cell (p:=⟨gS,_,none⟩) lS).trans cB) ((b.cell (p:=⟨gS,_,none⟩) lS).trans cT) ci ((b.cell (p:=⟨gT,_,none⟩) lT).trans t0) ((b.cell (p:=⟨gT,_,none⟩) lT).trans t1) ((b.cell (p:=⟨gT,_,none⟩) lT).trans t2) (h.below b) ri hp (groupInk_ok hi i j) (by rw [groupInk_len h2]; omega) (by rw [groupInk_len h2]; omega) (by rw [groupInk_len h2]; exact h72))
 have HX:=Lib.hid (fun (w':World) (b:Below w.heap.size w w')=>show w'.cell? ⟨gX,oX,none⟩=some (.slice Ax xs.length cx)∧w'.cell? ⟨gT,oT,none⟩=some (.int .i64 p.points) from ⟨(b.cell (p:=⟨gX,oX,none⟩) lX).trans cX,(b.cell (p:=⟨gT,oT,none⟩) lT).trans t0⟩);have HP:=Lib.hid hp;have HPT:=Lib.hid (setup_parts hp).2.2.2.1;have z1:=IntWalk.i64_in ((xs.length:Int)+1) (by omega);have R0:=(Row.new w 120 #[.int .i64 0,.slice none 0 0]).alloc (.cells #[.int .i64 ((xs.length:Int)+1),.slice none 0 0] 120);have R1:=Row.new (w.alloc (.cells #[.int .i64 0,.slice none 0 0] 120)) 120 #[.int .i64 ((xs.length:Int)+1),.slice none 0 0];have ba:Below w.heap.size w (w.alloc (.cells #[.int .i64 0,.slice none 0 0] 120)):=(Below.refl _ _).alloc (Nat.le_refl _) _;have b0:=ba.alloc ba.size (.cells #[.int .i64 ((xs.length:Int)+1),.slice none 0 0] 120);have x0:=(HX.out _ ba).1;rw [World.size_alloc] at R1;clear h hx hs hi hp cB cT cX t0 t1 t2 ba
 go_enter Tryz.func55,Tryz.ntmps55
 go_upto_region 2 with fail
 generalize (w.alloc (.cells #[.int .i64 0,.slice none 0 0] 120)).alloc (.cells #[.int .i64 ((xs.length:Int)+1),.slice none 0 0] 120)=w0 at R0 R1 b0 ⊢;have HR0:=Lib.hid R0;have OL0:=Lib.hid (show OwnLat w0 ((xs.length:Int)+1) [] (w.heap.size+1) (.slice none 0 0) [] from ⟨R1,slice_nil _ _ _ _,⟨by simp,by simp⟩⟩);have B0:=Lib.hid b0;have l0:w.heap.size+1 < w0.heap.size:=R1.lt;have x0:=(HX.out _ b0).1;have CG0:=Lib.hid (CG.out w0);clear R0 R1 b0 CG
 go_wp2_with fail
 refine CG0.out.mono ?_;rintro e w1 ⟨vg,Fg,rfl,rg,fg,b1⟩;have HRG:=Lib.hid rg;have HFG:=Lib.hid (show ∀ x∈Fg,x∉[w.heap.size+1] from fun x hx h=>by have:=fg.2 x hx; simp only [List.mem_singleton] at h; omega);have B1:=Lib.hid (B0.out.trans (b1.mono B0.out.size));have OL1:=Lib.hid (OL0.out.later b1);have HR1:=Lib.hid (HR0.out.later b1);have l1:w.heap.size+1 < w1.heap.size:=Nat.lt_of_lt_of_le l0 b1.size;obtain ⟨Ag,cg,rfl,-,-,-⟩:=pGroups_open rg;have HGL:=groupsZ_len16 h16;have HGM:=Lib.hid (fun (g:Nat × Nat) (hg:g∈groupsZ xs.length)=>(show g.1 < g.2∧g.2≤xs.length from ⟨((mem_groupsZ (a:=g.1) (b:=g.2)).1 hg).1,((mem_groupsZ (a:=g.1) (b:=g.2)).1 hg).2.2⟩));have HGA:=Lib.hid (fun (i:Nat) (h:i < (groupsZ xs.length).length)=>edgesG_succ (p:=p) (xs:=xs) h);clear x0 CG0 rg fg b1 OL0 HR0 B0;obtain ⟨gs,hgs⟩:∃ gs,groupsZ xs.length=gs:=⟨_,rfl⟩
 have HGS:=Lib.hid hgs;rw [hgs] at HRG HGL HGM HGA ⊢;clear hgs
 go_wp2_with fail
 go_loopw [9] (fun i wr=>∃ (k:Nat) (u:Value) (G:List Nat),i=.int .i64 k∧k≤gs.length∧Hid (OwnLat wr ((xs.length:Int)+1) (sortedE (edgesG p xs k)) (w.heap.size+1) u G∧Only [w.heap.size+1] w1 wr)) (fun i _=>gs.length - (intOf i).toNat)
 case atStart=>exact ⟨0,_,[],rfl,by omega,Lib.hid ⟨OL1.out,Only.refl _ _⟩⟩
 case round =>
  obtain ⟨k,u,G,rfl,hk,all⟩:=hrel;have ALL:=Lib.hid all.out;clear all;have HW:=Lib.hid (B1.out.trans (ALL.out.2.below B1.out.size (by intro x hx; simp only [List.mem_singleton] at hx; omega)));obtain ⟨U,un,uc,rfl⟩:=slice_form ALL.out.1.rep
  by_cases hlt:k < gs.length
  · obtain ⟨A',c',he,-,-,hr⟩:=pGroups_open (HRG.out.only ALL.out.2 HFG.out)
    cases he;obtain ⟨bg,og,rfl,hbg,-,c0,c1⟩:=hr k hlt;have hgm:=HGM.out _ (List.getElem_mem hlt);have HGK:=Lib.hid (show ∃ h:k < (groupsZ xs.length).length,(groupsZ xs.length)[k]=gs[k] from ⟨by rw [HGS.out]; exact hlt,by simp only [HGS.out]⟩);generalize gs[k]=g at c0 c1 hgm HGK;obtain ⟨ga,gb⟩:=g;dsimp only at c0 c1 hgm;have gk:(k:Int) < (gs.length:Int):=by omega
    have gk0:(0:Int)≤(k:Int):=by omega
    have kw:=IntWalk.i64_in ((k:Int)+1) (by omega);have z2:IntKind.i64.wrap ((gb:Int) - (ga:Int))=((gb - ga:Nat):Int):=(IntWalk.i64_in _ (by omega)).trans (by omega);have hpt:=HPT.out;obtain ⟨pn,hpn⟩:∃ n:Nat,p.points=n:=⟨p.points.toNat,by omega⟩
    have hpm:(gb - ga) * pn≤16 * 24:=Nat.mul_le_mul (by omega) (by omega);have z3:IntKind.i64.wrap (((gb - ga:Nat):Int) * (pn:Int))=(((gb - ga) * pn:Nat):Int):=by rw [← Int.natCast_mul]; exact IntWalk.i64_in _ (by omega)
    have HPN:=Lib.hid hpn;have RG:=Lib.hid ((Row.new wr 163 #[.int .i64 (ga:Nat),.int .i64 (gb:Nat)]));have bG:Below wr.heap.size wr (wr.alloc (.cells #[.int .i64 (ga:Nat),.int .i64 (gb:Nat)] 163)):=(Below.refl _ _).alloc (Nat.le_refl _) _;have BG:=Lib.hid bG;clear hr
    go_upto_region 7 with fail
    clear bG;generalize wr.alloc (.cells #[.int .i64 (ga:Nat),.int .i64 (gb:Nat)] 163)=wG at RG BG ⊢;have OLG:=Lib.hid (ALL.out.1.later BG.out);have BWG:=Lib.hid (ALL.out.2.trans (Only.of_below BG.out));have HWG:=Lib.hid (HW.out.trans (BG.out.mono HW.out.size));have x1:wG.cell? ⟨gT,oT,none⟩=some (.int .i64 (pn:Int)):=by rw [← hpn]; exact (HX.out wG HWG.out).2
    have y0:=RG.out.c0;have y1:=RG.out.c1;have hgne:wr.heap.size≠w.heap.size+1:=by have:=ALL.out.1.row.lt; omega
    clear c0 c1 hpn BG hbg;generalize wr.heap.size=gG at RG hgne y0 y1 ⊢
    go_quiet (fail)
    obtain ⟨m9,rfl⟩:∃ n:Nat,n=nq:=⟨_,rfl⟩
    replace RG:=Lib.hid (RG.out.drewN m9);replace OLG:=Lib.hid (OLG.out.drewN m9);replace BWG:=Lib.hid (show Only [w.heap.size+1] w1 (wG.drewN m9) from ⟨BWG.out.os,BWG.out.tape,BWG.out.output,BWG.out.size,BWG.out.block⟩);replace HWG:=Lib.hid (below_drewN HWG.out m9);clear x1 y0 y1;generalize World.drewN wG m9=wq at RG OLG BWG HWG ⊢
    by_cases h72:(gb - ga) * pn≤72
    · have g1:decide (72 < (gb - ga) * pn)=false:=decide_eq_false (by omega)
      have g2:decide ((72:Int) < (((gb - ga) * pn:Nat):Int))=false:=decide_eq_false (by omega);have H72:=Lib.hid (show ((gb - ga:Nat):Int) * p.points≤72 by rw [HPN.out,← Int.natCast_mul]; omega);have y0:=RG.out.c0;have y1:=RG.out.c1;have C1:=Lib.hid (CI.out wq HWG.out ga gb hgm.1 hgm.2)
      go_wp2_with fail
      refine C1.out.mono ?_;rintro e w2 ⟨uI,FI,rfl,ri,fi,b2⟩;obtain ⟨AI,cI,rfl,hI1,hI2,-⟩:=pStrokes_open ri;have HRI:=Lib.hid ri;have OL2:=Lib.hid (OLG.out.later b2);have RG2:=Lib.hid (RG.out.later b2);have BW2:=Lib.hid (BWG.out.trans (Only.of_below b2));have HW2:=Lib.hid (HWG.out.trans (b2.mono HWG.out.size));have HRI3:=Lib.hid (Row.new w2 41 #[.slice AI (groupInk xs ga gb).length cI]);have bI:Below w2.heap.size w2 (w2.alloc (.cells #[.slice AI (groupInk xs ga gb).length cI] 41)):=(Below.refl _ _).alloc (Nat.le_refl _) _;have HBI:=Lib.hid bI;clear y0 y1 C1 ri fi b2 RG OLG BWG HWG bI
      go_upto_region 9 with fail
      generalize w2.alloc (.cells #[.slice AI (groupInk xs ga gb).length cI] 41)=w3 at HRI3 HBI ⊢;have OL3:=Lib.hid (OL2.out.later HBI.out);have RG3:=Lib.hid (RG2.out.later HBI.out);have BW3:=Lib.hid (BW2.out.trans (Only.of_below HBI.out));have HW3:=Lib.hid (HW2.out.trans (HBI.out.mono HW2.out.size));have C2:=Lib.hid (C13.out w3 HW3.out ga gb w2.heap.size AI cI FI hgm.1 hgm.2 H72.out HRI3.out.lt HRI3.out.c0 (HRI.out.below HBI.out));clear RG2 OL2 BW2 HW2 HRI HBI
      go_wp2_with fail
      refine C2.out.mono ?_;rintro e w4 ⟨vh,Fh,rfl,rh,fh,b4⟩;have HRH:=Lib.hid rh;have HFH:=Lib.hid (show ∀ x∈Fh,x∉[w.heap.size+1] from fun x hx h=>by have:=fh.2 x hx; have:=OL3.out.row.lt; simp only [List.mem_singleton] at h; omega);have OL4:=Lib.hid (OL3.out.later b4);have RG4:=Lib.hid (RG3.out.later b4);have BW4:=Lib.hid (BW3.out.trans (Only.of_below b4));have HW4:=Lib.hid (HW3.out.trans (b4.mono HW3.out.size));obtain ⟨Ah,ch,rfl,-,-,-⟩:=pHyps_open rh;have HHL:=hypsZ_few HP.out (groupInk xs ga gb);have HK0:=Lib.hid (edgesH_zero p xs k (ga,gb) (hypsZ p (groupInk xs ga gb)));have HKL:=Lib.hid (show edgesH p xs k (ga,gb) (hypsZ p (groupInk xs ga gb)) (hypsZ p (groupInk xs ga gb)).length=edgesG p xs (k+1) from edgesH_all HGK.out.1 HGK.out.2 H72.out);have HKS:=Lib.hid (fun (j:Nat) (h:j < (hypsZ p (groupInk xs ga gb)).length)=>edgesH_succ (p:=p) (xs:=xs) (i:=k) (g:=(ga,gb)) h);have HKK:=Lib.hid (fun (j:Nat)=>(show (edgesH p xs k (ga,gb) (hypsZ p (groupInk xs ga gb)) j).Pairwise (fun x y=>¬ SameKey x y) from edgesH_keys HGK.out.1 HGK.out.2 H72.out j));have HKN:=Lib.hid (fun (j:Nat)=>edgesH_len HP.out xs k (ga,gb) (hypsZ p (groupInk xs ga gb)) j);clear C2 rh fh b4 RG3 OL3 BW3 HW3 HRI3;generalize hypsZ p (groupInk xs ga gb)=hs at HRH HHL HK0 HKL HKS HKK HKN ⊢;have kw2:IntKind.i64.wrap (0:Int)=0:=by decide
      go_wp2_with fail
      go_loopw [13] (fun i wr=>∃ (j:Nat) (u:Value) (G:List Nat),i=.int .i64 j∧j≤hs.length∧Hid (OwnLat wr ((xs.length:Int)+1) (sortedE (edgesH p xs k (ga,gb) hs j)) (w.heap.size+1) u G∧Only [w.heap.size+1] w4 wr)) (fun i _=>hs.length - (intOf i).toNat)
      case atStart=>exact ⟨0,_,G,rfl,by omega,Lib.hid ⟨by rw [HK0.out]; exact OL4.out,Only.refl _ _⟩⟩
      case round =>
       obtain ⟨j,u5,G5,rfl,hj,all⟩:=hrel;have ALL5:=Lib.hid all.out;clear all;obtain ⟨U5,n5,c5,rfl⟩:=slice_form ALL5.out.1.rep
       by_cases hjl:j < hs.length
       · obtain ⟨A',c',he,-,-,hr⟩:=pHyps_open HRH.out
         cases he;obtain ⟨bh,oh,rfl,hbh,hbF,c0,c1,hok⟩:=hr j hjl;have HS5:=Lib.hid (HKS.out j hjl);have HN5:=HKN.out j;have HK5:=Lib.hid (HKK.out (j+1));rw [HS5.out] at HK5;have CP:=Lib.hid (sortedE_strict (List.pairwise_append.1 HK5.out).1);have CQ:=Lib.hid (sortedE_away HK5.out);have SN:=Lib.hid (sortedE_snoc (edgesH p xs k (ga,gb) hs j) (mkE (ga,gb) hs[j]));rw [← HS5.out] at SN;have LN:=Lib.hid (sortedE_len (edgesH p xs k (ga,gb) hs j));generalize hs[j]=y at c0 c1 hok SN CQ CP;have HSX:=Lib.hid (fun (w':World) (b:Only [w.heap.size+1] w4 w')=>show (fun w':World=>w'.cell? ⟨gG,0,none⟩=some (.int .i64 (ga:Nat))∧w'.cell? ⟨gG,1,none⟩=some (.int .i64 (gb:Nat))∧w'.cell? ⟨bh,oh+j * 2,none⟩=some (.string y.label)∧w'.cell? ⟨bh,oh+j * 2+1,none⟩=some (.int .i64 y.cost)) w' from ⟨(RG4.out.onl b (by simp only [List.mem_singleton]; exact hgne)).c0,(RG4.out.onl b (by simp only [List.mem_singleton]; exact hgne)).c1,(only_cell b hbh (HFH.out _ hbF)).trans c0,(only_cell b hbh (HFH.out _ hbF)).trans c1⟩);have OKE:=Lib.hid (show (mkE (ga,gb) y).src < 1048576∧(mkE (ga,gb) y).dst < 1048576∧(mkE (ga,gb) y).lab.size≤maxLen∧I64 (mkE (ga,gb) y).cost from ⟨by show ga < _; omega,by show gb < _; omega,hok⟩);have gj:(j:Int) < (hs.length:Int):=by omega
         have gj0:(0:Int)≤(j:Int):=by omega
         have jw:=IntWalk.i64_in ((j:Int)+1) (by omega)
         go_upto_region 13 with fail
         have hS:(fun w':World=>w'.cell? ⟨gG,0,none⟩=some (.int .i64 (ga:Nat))∧w'.cell? ⟨gG,1,none⟩=some (.int .i64 (gb:Nat))∧w'.cell? ⟨bh,oh+j * 2,none⟩=some (.string y.label)∧w'.cell? ⟨bh,oh+j * 2+1,none⟩=some (.int .i64 y.cost)) wr.drew:=HSX.out _ (ALL5.out.2.trans (Only.of_below (Below.refl _ _).drew));refine wp_region_held_drew (S:=(fun w':World=>w'.cell? ⟨gG,0,none⟩=some (.int .i64 (ga:Nat))∧w'.cell? ⟨gG,1,none⟩=some (.int .i64 (gb:Nat))∧w'.cell? ⟨bh,oh+j * 2,none⟩=some (.string y.label)∧w'.cell? ⟨bh,oh+j * 2+1,none⟩=some (.int .i64 y.cost))) (by kernel_rfl) hS (fun _=>?_);have OL5:=Lib.hid ALL5.out.1.drew;have BW5:=Lib.hid (ALL5.out.2.trans (Only.of_below (Below.refl _ _).drew));have CPUT:=Lib.hid (spec_l15Put_c wr.drew OL5.out.rep (by have:=LN.out; omega) CP.out OKE.out CQ.out);clear ALL5 c0 c1 hok CP CQ OKE hbh hbF;generalize wr.drew=we at OL5 BW5 hS CPUT ⊢;refine tJ 0 hS ?_;refine tJ 2 hS ?_;refine tJ 3 hS ?_;refine tJ 4 hS ?_;refine tJ 5 hS ?_;refine tJ 6 hS ?_;refine tJ 7 hS ?_;refine tJ 8 hS ?_;refine tJ 9 hS ?_;refine tJ 10 hS ?_;refine tJ 11 hS ?_;refine tJ 12 hS ?_;refine tJ 13 hS ?_;refine tJ 14 hS ?_;refine tJ 15 hS ?_;refine tJ 16 hS ?_;have y1:=OL5.out.row.c1;refine rJ 1 fun K hK=>?_
         go_simp
         refine bJ hK hS ?_;clear hK K y1;refine rJ 17 fun K hK=>?_
         refine step_call 86 #[.tmp 61,.tmp 76] _ rfl rfl #[.slice U5 n5 c5,.agg #[.int .i64 (ga:Nat),.int .i64 (gb:Nat),.string y.label,.int .i64 y.cost]] Tryz.call86 (by go_simp) CPUT.out ?_;rintro e w6 ⟨u6,F6,rfl,r6,f6,b6⟩;refine ⟨_,rfl,?_⟩;have hlL:w.heap.size+1 < we.heap.size:=OL5.out.row.lt;have RL6:=Lib.hid (OL5.out.row.later b6);have BW6:=Lib.hid (BW5.out.trans (Only.of_below b6));replace hS:=HSX.out _ BW6.out;obtain ⟨V6,n6,c6,rfl⟩:=slice_form r6;rw [← SN.out] at r6;have hne6:w.heap.size+1∉F6:=fun hin=>by have:=f6.2 _ hin; omega
         have OL7:=Lib.hid (show OwnLat (w6.setCell ⟨w.heap.size+1,1,none⟩ (.slice V6 n6 c6)) ((xs.length:Int)+1) (sortedE (edgesH p xs k (ga,gb) hs (j+1))) (w.heap.size+1) (.slice V6 n6 c6) F6 from ⟨RL6.out.set 1 _,Ty.rep.setCell (T:=pEdge.slice 171) r6 (p:=⟨w.heap.size+1,1,none⟩) hne6 _,f6.mono (by omega)⟩);have BW7:=Lib.hid (BW6.out.set (p:=⟨w.heap.size+1,1,none⟩) (by simp) (.slice V6 n6 c6));have v0:=RL6.out.c0;have v1:=RL6.out.c1;have vF:=RL6.out.frozen;clear b6 r6 f6 CPUT OL5 BW5 BW6 RL6 hne6 SN LN HS5 HK5;refine bJ hK hS ?_;clear hK K;simp only [Act.put,pA,pB,pC];refine tJ 18 hS ?_;refine rJ 19 fun K hK=>?_
         go_simp
         replace hS:=HSX.out _ BW7.out;refine bJ hK hS ?_;clear hK K hS v0 v1 vF HSX;refine wpAnyH_done (by kernel_rfl) ?_ _
         go_wp2_with fail
         exact ⟨⟨j+1,_,F6,by go_num,by omega,Lib.hid ⟨OL7.out,BW7.out⟩⟩,by simp [intOf]; omega⟩
       · obtain rfl:j=hs.length:=by omega
         have gj:¬ (hs.length:Int) < (hs.length:Int):=by omega
         go_wp2_with fail
         exact ⟨⟨k+1,_,G5,by go_num,by omega,Lib.hid ⟨by rw [← HKL.out]; exact ALL5.out.1,BW4.out.trans ALL5.out.2⟩⟩,by simp [intOf]; omega⟩
    · have g1:decide (72 < (gb - ga) * pn)=true:=decide_eq_true (by omega)
      have g2:decide ((72:Int) < (((gb - ga) * pn:Nat):Int))=true:=decide_eq_true (by omega);have HSK:=Lib.hid (show edgesG p xs (k+1)=edgesG p xs k from edgesG_skip HGK.out.1 HGK.out.2 (by rw [HPN.out]; intro h; exact h72 (by have h':((gb - ga:Nat):Int) * (pn:Int)≤72:=h; rw [← Int.natCast_mul] at h'; omega)))
      go_wp2_with fail
      exact ⟨⟨k+1,_,G,by go_num,by omega,Lib.hid ⟨by rw [HSK.out]; exact OLG.out,BWG.out⟩⟩,by simp [intOf]; omega⟩
  · obtain rfl:k=gs.length:=by omega
    have gk:¬ (gs.length:Int) < (gs.length:Int):=by omega
    have y0:=ALL.out.1.row.c0;have y1:=ALL.out.1.row.c1;have hFe:∀ x∈G,w.heap.size+2≤x:=fun x hx=>ALL.out.1.fr.2 x hx
    have R1:=HR1.out.onl ALL.out.2 (by simp);have v0:=R1.c0;have v1:=R1.c1;have vF:=R1.frozen;have E:=(R1.set 0 (.int .i64 ((xs.length:Int)+1))).set 1 (.slice U un uc);have vF1:=(R1.set 0 (.int .i64 ((xs.length:Int)+1))).frozen;have e0:=E.c0;have e1:=E.c1;have hne:∀ i:Nat,w.heap.size∉G:=fun i hin=>by have:=hFe _ hin; omega
    have HALL:=Lib.hid (show sortedE (edgesG p xs gs.length)=sortedE (edgesZ p xs) by rw [← HGS.out,edgesG_all]);have RES:=Lib.hid (Ty.rep.setCell (T:=pEdge.slice 171) (Ty.rep.setCell (T:=pEdge.slice 171) ALL.out.1.rep (p:=⟨w.heap.size,0,none⟩) (hne 0) (.int .i64 ((xs.length:Int)+1))) (p:=⟨w.heap.size,1,none⟩) (hne 1) (.slice U un uc));have BF:=Lib.hid ((HW.out.setCell (p:=⟨w.heap.size,0,none⟩) (Nat.le_refl _) (.int .i64 ((xs.length:Int)+1))).setCell (p:=⟨w.heap.size,1,none⟩) (Nat.le_refl _) (.slice U un uc));have FRR:=Lib.hid (ALL.out.1.fr.mono (show w.heap.size≤w.heap.size+1+1 by omega));clear R1 E hne hFe
    go_wp2_with fail
    refine bodyPost_ret (v:=.agg #[.int .i64 ((xs.length:Int)+1),.slice U un uc]) (by simp only [results,Tryz.results55]; go_simp) rfl ?_;exact ⟨_,rfl,G,by rw [← HALL.out]; exact RES.out,FRR.out,BF.out⟩
def encM:Option Int→Int
 | none=>-1
 | some x=>x
def cellT (es:List LEdge) (tx:Nat→ByteArray) (L:List LEdge) (v:Nat):Nat→Option Int
 | 0=>if v=0 then some 0 else none
 | k+1=>upE es tx L k v
def midT (es:List LEdge) (tx:Nat→ByteArray) (L:List LEdge) (e:LEdge) (k v j:Nat):Option Int:=if j≤k then cellT es tx (L++[e]) v j else cellT es tx L v j
section
variable {es:List LEdge} {tx:Nat→ByteArray} {L M:List LEdge} {e:LEdge}
theorem midT_zero (v j:Nat):midT es tx L e 0 v j=cellT es tx L v j:=by
 rw [midT]
 split
 · rename_i h
   obtain rfl:j=0:=by omega
   rfl
 · rfl
theorem midT_all {n:Nat} {v j:Nat} (h:j≤n):midT es tx L e n v j=cellT es tx (L++[e]) v j:=by rw [midT,if_pos h]
theorem midT_succ (k v j:Nat):midT es tx L e (k+1) v j=if (v=e.dst∧j=k+1)∧e.lab=tx k then minO (midT es tx L e k e.dst (k+1)) ((lcE es tx k e.src).map (·+e.cost)) else midT es tx L e k v j:=by
 by_cases hj:j=k+1
 · subst hj
   have e1:∀ u,midT es tx L e k u (k+1)=cellT es tx L u (k+1):=fun u=>if_neg (by omega)
   have e2:midT es tx L e (k+1) v (k+1)=cellT es tx (L++[e]) v (k+1):=if_pos (Nat.le_refl _);rw [e1,e1,e2,cellT,upE_snoc]
   by_cases h:e.dst=v∧e.lab=tx k
   · obtain ⟨rfl,h2⟩:=h
     rw [if_pos ⟨rfl,h2⟩,if_pos ⟨⟨rfl,rfl⟩,h2⟩]; rfl
   · rw [if_neg h,if_neg (fun h'=>h ⟨h'.1.1.symm,h'.2⟩)]; rfl
 · rw [if_neg (fun h'=>hj h'.1.2),midT,midT]
   by_cases h:j≤k
   · rw [if_pos h,if_pos (by omega)]
   · rw [if_neg h,if_neg (by omega)]
theorem upE_away (l m:List LEdge) (k v:Nat) (h:∀ e∈m,e.dst≠v):upE es tx (l++m) k v=upE es tx l k v:=by
 have:inE m v (tx k)=[]:=List.filter_eq_nil_iff.2 fun e he=>by simp [h e he]
 rw [upE,upE,inE,List.filter_append,← inE,← inE,this,List.append_nil]
theorem cellT_from (hd:∀ e∈es,e.src < e.dst) {u:Nat} (hM:∀ e∈M,e.dst≠u) (k:Nat):cellT es tx (fromE es u++M) u k=lcE es tx k u:=by
 cases k with
 | zero=>rw [cellT,lcE]
 | succ k=>rw [cellT,upE_away _ _ _ _ hM,upE_from es tx hd (Nat.le_refl u)]
theorem midT_from (hd:∀ e∈es,e.src < e.dst) {u:Nat} (hM:∀ e∈M,e.dst≠u) (he:e.dst≠u) (k:Nat):midT es tx (fromE es u++M) e k u k=lcE es tx k u:=by
 rw [midT,if_pos (Nat.le_refl _),List.append_assoc];exact cellT_from hd (fun x hx=>(List.mem_append.1 hx).elim (hM x) (fun h=>by simp only [List.mem_singleton] at h; subst h; exact he)) k
theorem minsO_mem {l:List (Option Int)} {x:Int} (h:minsO l=some x):some x∈l:=by
 induction l with
 | nil=>cases h
 | cons a l ih =>
   rw [minsO_cons] at h;rcases minO_cases h with h | h
   · rw [h]; simp
   · exact List.mem_cons_of_mem _ (ih h)
theorem upE_small {K:Int} (hc:∀ e∈es,0≤e.cost∧e.cost≤K) (hL:∀ e∈L,e∈es) {k v:Nat} {x:Int} (h:upE es tx L k v=some x):0≤x∧x≤((k+1:Nat):Int) * K:=by
 obtain ⟨e,he,hx⟩:=List.mem_map.1 (minsO_mem h);obtain ⟨y,hy,rfl⟩:=Option.map_eq_some_iff.1 hx;have ih:=lcE_small es tx hc k e.src y hy;have:=hc e (hL e (List.mem_filter.1 he).1);have e2:((k+1:Nat):Int) * K=(k:Int) * K+K:=by push_cast; rw [Int.add_mul,Int.one_mul]
 omega
theorem midT_pos {K:Int} (hc:∀ e∈es,0≤e.cost∧e.cost≤K) (hL:∀ e∈L,e∈es) (he:e∈es) {k v j:Nat} {x:Int} (h:midT es tx L e k v j=some x):0≤x:=by
 have key:∀ (L:List LEdge),(∀ e∈L,e∈es)→cellT es tx L v j=some x→0≤x:=by
  intro L hL h;cases j with
  | zero=>rw [cellT] at h; split at h <;> simp at h; omega
  | succ j=>exact (upE_small hc hL h).1
 rw [midT] at h
 split at h
 · exact key _ (fun x hx=>(List.mem_append.1 hx).elim (hL x) (fun h=>by simp only [List.mem_singleton] at h; subst h; exact he)) h
 · exact key _ hL h
theorem cellT_all {n:Nat} (hn:∀ e∈es,e.src < n) (k v:Nat):cellT es tx (fromE es n) v k=lcE es tx k v:=by
 cases k with
 | zero=>rw [cellT,lcE]
 | succ k=>rw [cellT,upE_all es tx hn]
end
def fromK (es:List LEdge) (u i:Nat):List LEdge:=(es.take i).filter fun e=>decide (e.src=u)
theorem fromK_zero (es:List LEdge) (u:Nat):fromK es u 0=[]:=by simp [fromK]
theorem fromK_succ {es:List LEdge} {u i:Nat} (h:i < es.length):fromK es u (i+1)=if es[i].src=u then fromK es u i++[es[i]] else fromK es u i:=by
 rw [fromK,List.take_succ_eq_append_getElem h,List.filter_append,← fromK]
 split
 · rename_i hh; rw [List.filter_cons_of_pos (by simpa using hh)]; rfl
 · rename_i hh; rw [List.filter_cons_of_neg (by simpa using hh)]; simp
theorem fromK_all (es:List LEdge) (u:Nat):fromE es u++fromK es u es.length=fromE es (u+1):=by rw [fromK,List.take_length,fromE_succ]
theorem fromK_mem {es:List LEdge} {u i:Nat} {e:LEdge} (h:e∈fromK es u i):e∈es∧e.src=u:=by
 rw [fromK,List.mem_filter,decide_eq_true_iff] at h;exact ⟨List.mem_of_mem_take h.1,h.2⟩
theorem fromE_mem {es:List LEdge} {u:Nat} {e:LEdge} (h:e∈fromE es u):e∈es:=by
 obtain ⟨n,-,h⟩:=List.mem_flatMap.1 h;exact (List.mem_filter.1 h).1
def tabT (T:Nat→Nat→Option Int) (N n:Nat):List Value:=(List.range (N * n)).map fun x=>.int .i64 (encM (T (x / n) (x % n)))
theorem tabT_len (T:Nat→Nat→Option Int) (N n:Nat):(tabT T N n).length=N * n:=by simp [tabT]
theorem at_small {N n v k:Nat} (hv:v < N) (hk:k < n):v * n+k < N * n:=by
 have:(v+1) * n≤N * n:=Nat.mul_le_mul_right n hv;rw [Nat.succ_mul] at this; omega
theorem at_div {n v k:Nat} (hk:k < n):(v * n+k) / n=v∧(v * n+k) % n=k:=by
 rw [Nat.mul_comm,Nat.mul_add_div (by omega),Nat.mul_add_mod,Nat.div_eq_of_lt hk,Nat.mod_eq_of_lt hk]; simp
theorem tabT_get (T:Nat→Nat→Option Int) {N n v k:Nat} (hv:v < N) (hk:k < n):(tabT T N n)[v * n+k]?=some (.int .i64 (encM (T v k))):=by
 rw [tabT,List.getElem?_map,List.getElem?_range (at_small hv hk)];have:=at_div (v:=v) hk;simp [this.1,this.2]
theorem tabT_congr {T S:Nat→Nat→Option Int} {N n:Nat} (h:∀ v k,v < N→k < n→T v k=S v k):tabT T N n=tabT S N n:=by
 unfold tabT;refine List.map_congr_left fun x hx=>?_
 rw [List.mem_range] at hx;have hn:0 < n:=(by rcases Nat.eq_zero_or_pos n with h | h; (subst h; simp at hx); exact h)
 rw [h _ _ ((Nat.div_lt_iff_lt_mul hn).2 hx) (Nat.mod_lt _ hn)]
theorem tabT_set {T S:Nat→Nat→Option Int} {N n v k:Nat} (hk:k < n) {x:Option Int} (hx:S v k=x) (h:∀ v' k',¬ (v'=v∧k'=k)→S v' k'=T v' k'):(tabT T N n).set (v * n+k) (.int .i64 (encM x))=tabT S N n:=by
 apply List.ext_getElem?;intro i;rw [List.getElem?_set];have ha:=at_div (v:=v) hk
 by_cases hi:v * n+k=i
 · rw [if_pos hi,tabT_len]
   subst hi
   split
   · rename_i hlt
     rw [tabT,List.getElem?_map,List.getElem?_range hlt];simp [ha.1,ha.2,hx]
   · rename_i hlt
     rw [List.getElem?_eq_none (by rw [tabT_len]; omega)]
 · rw [if_neg hi,tabT,tabT,List.getElem?_map,List.getElem?_map]
   by_cases hlt:i < N * n
   · rw [List.getElem?_range hlt]
     simp only [Option.map_some];rw [h];rintro ⟨h1,h2⟩;have:=Nat.div_add_mod i n;rw [h1,h2,Nat.mul_comm] at this;exact hi this
   · rw [List.getElem?_eq_none (by simpa using hlt)]
     rfl
end Go.Proofs.YtafgknkcjohjeaaGreatDoor

/- The lattice of ink, in the program. Conditions: none. -/
import Derived.Test.YtalmeogjhmblhaaGreatTkw
import Derived.Test.YtalmeogjhmblhaaGreatRAcw
import Derived.Test.YtalmeogjhmblhaaGreatRyUw
import Derived.Test.YtalmeogjhmblhaaGreatRyNw
import Derived.Test.YtalmeogjhmblhaaGreatRyPw
import Derived.Test.YtalmeogjhmblhaaGreatTyEntryw
import Derived.Test.YtalmeogjhmblhaaGreatRzYw
namespace Go.Proofs.YtalmeogjhmblhaaGreat
open Go Go.RowKit
theorem only_newJ {F G:List Nat} {a b c:World} (h:Only F a b) (ho:Only G b c) (hG:∀ x∈G,x∈F∨a.heap.size≤x):Only F a c :=
 ⟨ho.os.trans h.os,ho.tape.trans h.tape,ho.output.trans h.output,Nat.le_trans h.size ho.size,fun k hk hn=>(ho.block k (Nat.lt_of_lt_of_le hk h.size) (fun hin=>(hG k hin).elim hn (fun h=>by omega))).trans (h.block k hk hn)⟩
set_option maxRecDepth 100000 in
set_option maxHeartbeats 8000000 in
theorem impl_LatticeOf_c {o ox:Bool} {ft tm pe st:TypeId} {p:PSetup} {xs:List PStroke} {vt vx:Value} {F Fx:List Nat} (w:World) (h:(pTemps ft tm).rep o w p.temps [vt] F) (hx:(pStrokes pe st).rep ox w xs [vx] Fx) (hp:setupB p=true) (hi:inkB xs=true) (hsm:SeSmall p) (hby:SeBytes p) :
 Calls Tryz.prog 86 #[.agg #[.int .i64 p.band,vt],.agg #[vx],.agg #[.int .i64 p.points,.int .i64 p.most,.int .i64 p.pen]] w fun e w'=>∃ u F,e=.returned (.tuple #[.agg #[.int .i64 (if 200 < (edgesZ p xs).length then 0 else (xs.length:Int)+1),u],.int .i64 (if 200 < (edgesZ p xs).length then 5 else 0)])∧(pEdge.slice 206).rep true w' (if 200 < (edgesZ p xs).length then [] else sortedE (edgesZ p xs)) [u] F∧Fresh w.heap.size F∧Below w.heap.size w w':=by
 have h16:xs.length≤16:=by simp only [inkB,Bool.and_eq_true,decide_eq_true_eq] at hi; exact hi.2
 have hst:∀ s∈xs,strokeB s=true:=fun s hs=>by
  obtain ⟨k,hk,rfl⟩:=List.getElem_of_mem hs;exact inkB_stroke hi hk
 have hpp:=hp;simp only [setupB,Bool.and_eq_true] at hpp;have CVS:=Lib.hid (fun (wr:World) (b:Below w.heap.size w wr)=>by have:=impl_ValidStore_c wr (h.below b) hsm hby; rw [hpp.1] at this; exact this);have CVI:=Lib.hid (fun (wr:World) (b:Below w.heap.size w wr)=>by have:=impl_ValidInk_c wr (hx.below b) (by omega) (fun l hl=>by have:=strokeB_len (hst l hl); omega); rw [hi] at this; exact this);have CVT:=Lib.hid (fun (wr:World)=>by have:=impl_ValidSetting_c ⟨p.points,p.most,p.pen⟩ wr; rw [hpp.2.1] at this; exact this);have CG:=Lib.hid (fun w=>impl_groupsOf_c w h16);have CI:=Lib.hid (fun (wr:World) (b:Below w.heap.size w wr) (i j:Nat) (h1:i < j) (h2:j≤xs.length)=>impl_inkOfGroup_c wr (hx.below b) hi h1 h2);have CR:=Lib.hid (fun (wr:World) (b:Below w.heap.size w wr) (i j:Nat) (vI:Value) (FI:List Nat) (h1:i < j) (h2:j≤xs.length) (h72:((j - i:Nat):Int) * p.points≤72) (ri:(pStrokes 128 124).rep true wr (groupInk xs i j) [vI] FI)=>impl_recognized_c wr (h.below b) ri hp (groupInk_valid hi i j) (by rw [groupInk_len h2]; omega) (by rw [groupInk_len h2]; exact h72));obtain ⟨A,c,rfl,-,-,-⟩:=pTemps_open h;obtain ⟨Ax,cx,rfl,-,-,-⟩:=pStrokes_open hx;have HPT:=Lib.hid (setup_parts hp).2.2.2.1;have HP:=Lib.hid hp;clear hpp hst
 go_enter Tryz.func86,Tryz.ntmps86
 go_upto_region 1 with fail
 have R0:=(((Row.new w 47 #[.int .i64 p.band,.slice A p.temps.length c]).alloc (.cells #[.slice Ax xs.length cx] 59)).alloc (.cells #[.int .i64 p.points,.int .i64 p.most,.int .i64 p.pen] 48)).alloc (.cells #[.int .i64 0,.slice none 0 0] 133);have R1:=((Row.new (w.alloc (.cells #[.int .i64 p.band,.slice A p.temps.length c] 47)) 59 #[.slice Ax xs.length cx]).alloc (.cells #[.int .i64 p.points,.int .i64 p.most,.int .i64 p.pen] 48)).alloc (.cells #[.int .i64 0,.slice none 0 0] 133);have R2:=(Row.new ((w.alloc (.cells #[.int .i64 p.band,.slice A p.temps.length c] 47)).alloc (.cells #[.slice Ax xs.length cx] 59)) 48 #[.int .i64 p.points,.int .i64 p.most,.int .i64 p.pen]).alloc (.cells #[.int .i64 0,.slice none 0 0] 133);have R3:=Row.new (((w.alloc (.cells #[.int .i64 p.band,.slice A p.temps.length c] 47)).alloc (.cells #[.slice Ax xs.length cx] 59)).alloc (.cells #[.int .i64 p.points,.int .i64 p.most,.int .i64 p.pen] 48)) 133 #[.int .i64 0,.slice none 0 0];have b0:Below w.heap.size w ((((w.alloc (.cells #[.int .i64 p.band,.slice A p.temps.length c] 47)).alloc (.cells #[.slice Ax xs.length cx] 59)).alloc (.cells #[.int .i64 p.points,.int .i64 p.most,.int .i64 p.pen] 48)).alloc (.cells #[.int .i64 0,.slice none 0 0] 133)):=((((Below.refl _ _).alloc (Nat.le_refl _) _).alloc (by simp) _).alloc (by simp; omega) _).alloc (by simp; omega) _;rw [World.size_alloc] at R1;rw [World.size_alloc,World.size_alloc] at R2;rw [World.size_alloc,World.size_alloc,World.size_alloc] at R3;generalize (((w.alloc (.cells #[.int .i64 p.band,.slice A p.temps.length c] 47)).alloc (.cells #[.slice Ax xs.length cx] 59)).alloc (.cells #[.int .i64 p.points,.int .i64 p.most,.int .i64 p.pen] 48)).alloc (.cells #[.int .i64 0,.slice none 0 0] 133)=w0 at R0 R1 R2 R3 b0 ⊢;have HR3:=Lib.hid R3;have B0:=Lib.hid b0;have HX:=Lib.hid (fun (w':World) (b':Below w0.heap.size w0 w')=>show w'.cell? ⟨w.heap.size,0,none⟩=some (.int .i64 p.band)∧w'.cell? ⟨w.heap.size,1,none⟩=some (.slice A p.temps.length c)∧w'.cell? ⟨w.heap.size+1,0,none⟩=some (.slice Ax xs.length cx)∧w'.cell? ⟨w.heap.size+1+1,0,none⟩=some (.int .i64 p.points)∧w'.cell? ⟨w.heap.size+1+1,1,none⟩=some (.int .i64 p.most)∧w'.cell? ⟨w.heap.size+1+1,2,none⟩=some (.int .i64 p.pen) from ⟨(R0.later b').c0,(R0.later b').c1,(R1.later b').c0,(R2.later b').c0,(R2.later b').c1,(R2.later b').c2⟩);clear R0 R1 R2 R3 b0 h hx;obtain ⟨x0,x1,x2,x3,x4,x5⟩:=HX.out w0 (Below.refl _ _);have C1:=Lib.hid (CVS.out w0 B0.out)
 go_wp2_with fail
 refine C1.out.mono ?_;rintro e w1 ⟨rfl,b1⟩;have B1:=Lib.hid b1;have C2:=Lib.hid (CVI.out w1 (B0.out.trans (b1.mono B0.out.size)));clear x0 x1 x2 x3 x4 x5 b1 C1;obtain ⟨x0,x1,x2,x3,x4,x5⟩:=HX.out w1 B1.out
 go_wp2_with fail
 refine C2.out.mono ?_;rintro e w2 ⟨rfl,b2⟩;have B2:=Lib.hid (B1.out.trans (b2.mono B1.out.size));clear x0 x1 x2 x3 x4 x5 b2 C2 B1;obtain ⟨x0,x1,x2,x3,x4,x5⟩:=HX.out w2 B2.out;have C3:=Lib.hid (CVT.out w2)
 go_wp2_with fail
 refine C3.out.mono ?_;rintro e w3 ⟨rfl,b3⟩;have B3:=Lib.hid (B2.out.trans (b3.mono B2.out.size));clear x0 x1 x2 x3 x4 x5 b3 C3 B2;obtain ⟨x0,x1,x2,x3,x4,x5⟩:=HX.out w3 B3.out;have z1:=IntWalk.i64_in ((xs.length:Int)+1) (by omega)
 go_upto_region 4 with fail
 have RL:=Row.new w3 133 #[.int .i64 ((xs.length:Int)+1),.slice none 0 0];have bL:Below w3.heap.size w3 (w3.alloc (.cells #[.int .i64 ((xs.length:Int)+1),.slice none 0 0] 133)):=(Below.refl _ _).alloc (Nat.le_refl _) _;generalize w3.alloc (.cells #[.int .i64 ((xs.length:Int)+1),.slice none 0 0] 133)=w4 at RL bL ⊢;have OL4:=Lib.hid (show OwnLat w4 ((xs.length:Int)+1) [] w3.heap.size (.slice none 0 0) [] from ⟨RL,slice_nil _ _ _ _,⟨by simp,by simp⟩⟩);have B4:=Lib.hid (B3.out.trans (bL.mono B3.out.size));have hz3:=B3.out.size;have l3:w.heap.size+1+1+1 < w0.heap.size:=HR3.out.lt;have l4:w3.heap.size < w4.heap.size:=RL.lt;clear x0 x1 x2 x3 x4 x5 RL bL B3;generalize w3.heap.size=gL at OL4 hz3 l4 ⊢;obtain ⟨x0,x1,x2,x3,x4,x5⟩:=HX.out w4 B4.out;have CG4:=Lib.hid (CG.out w4)
 go_wp2_with fail
 refine CG4.out.mono ?_;rintro e w5 ⟨vg,Fg,rfl,rg,fg,b5⟩;have HRG:=Lib.hid rg;have HFG:=Lib.hid (show ∀ x∈Fg,x≠gL from fun x hx=>by have:=fg.2 x hx; omega);have B5:=Lib.hid (B4.out.trans (b5.mono B4.out.size));have OL5:=Lib.hid (OL4.out.later b5);have l5:w4.heap.size≤w5.heap.size:=b5.size;obtain ⟨Ag,cg,rfl,-,-,-⟩:=pGroups_open rg;have HGL:=groupsZ_len16 h16;have HGM:=Lib.hid (fun (g:Nat × Nat) (hg:g∈groupsZ xs.length)=>(show g.1 < g.2∧g.2≤xs.length from ⟨((mem_groupsZ (a:=g.1) (b:=g.2)).1 hg).1,((mem_groupsZ (a:=g.1) (b:=g.2)).1 hg).2.2⟩));clear x0 x1 x2 x3 x4 x5 CG4 rg fg b5 OL4 B4;obtain ⟨gs,hgs⟩:∃ gs,groupsZ xs.length=gs:=⟨_,rfl⟩
 have HGS:=Lib.hid hgs;rw [hgs] at HRG HGL HGM ⊢;clear hgs
 go_wp2_with fail
 go_loopw [37] (fun i wr=>∃ (k:Nat) (u:Value) (G:List Nat),i=.int .i64 k∧k≤gs.length∧Hid (OwnLat wr ((xs.length:Int)+1) (edgesG p xs k) gL u G∧(∀ b∈G,w5.heap.size≤b)∧Only [gL] w5 wr)) (fun i _=>gs.length - (intOf i).toNat)
 case atStart=>exact ⟨0,_,[],rfl,by omega,Lib.hid ⟨by rw [show edgesG p xs 0=[] by simp [edgesG]]; exact OL5.out,by simp,Only.refl _ _⟩⟩
 case round =>
  obtain ⟨k,u,G,rfl,hk,all⟩:=hrel;have ALL:=Lib.hid all.out;clear all;obtain ⟨U,un,uc,rfl⟩:=slice_form ALL.out.1.rep;have BL0:=Lib.hid (B5.out.trans (ALL.out.2.2.below (B:=w0.heap.size) B5.out.size (by intro x hx; simp only [List.mem_singleton] at hx; omega)));obtain ⟨x0,x1,x2,x3,x4,x5⟩:=HX.out wr BL0.out
  by_cases hlt:k < gs.length
  · obtain ⟨A',c',he,-,-,hr⟩:=pGroups_open (HRG.out.only ALL.out.2.2 (fun x hx=>by simp only [List.mem_singleton]; exact HFG.out x hx))
    cases he;obtain ⟨bg,og,rfl,hbg,-,c0,c1⟩:=hr k hlt;have hgm:=HGM.out _ (List.getElem_mem hlt);have HGK:=Lib.hid (show ∃ h:k < (groupsZ xs.length).length,(groupsZ xs.length)[k]=gs[k] from ⟨by rw [HGS.out]; exact hlt,by simp only [HGS.out]⟩);generalize gs[k]=g at c0 c1 hgm HGK;obtain ⟨ga,gb⟩:=g;dsimp only at c0 c1 hgm;have gk:(k:Int) < (gs.length:Int):=by omega
    have gk0:(0:Int)≤(k:Int):=by omega
    have kw:=IntWalk.i64_in ((k:Int)+1) (by omega);have z2:IntKind.i64.wrap ((gb:Int) - (ga:Int))=((gb - ga:Nat):Int):=(IntWalk.i64_in _ (by omega)).trans (by omega);have hpt:=HPT.out;obtain ⟨pn,hpn⟩:∃ n:Nat,p.points=n:=⟨p.points.toNat,by omega⟩
    have hpm:(gb - ga) * pn≤16 * 24:=Nat.mul_le_mul (by omega) (by omega);have z3:IntKind.i64.wrap (((gb - ga:Nat):Int) * (pn:Int))=(((gb - ga) * pn:Nat):Int):=by rw [← Int.natCast_mul]; exact IntWalk.i64_in _ (by omega)
    have HPN:=Lib.hid hpn;have RG:=Lib.hid (Row.new wr 198 #[.int .i64 (ga:Nat),.int .i64 (gb:Nat)]);have bG:Below wr.heap.size wr (wr.alloc (.cells #[.int .i64 (ga:Nat),.int .i64 (gb:Nat)] 198)):=(Below.refl _ _).alloc (Nat.le_refl _) _;have BG:=Lib.hid bG;clear hr x0 x1 x2 x3 x4 x5 bG hpn
    go_upto_region 7 with fail
    generalize wr.alloc (.cells #[.int .i64 (ga:Nat),.int .i64 (gb:Nat)] 198)=wG at RG BG ⊢;have OLG:=Lib.hid (ALL.out.1.later BG.out);have BWG:=Lib.hid (ALL.out.2.2.trans (Only.of_below BG.out));have HWG:=Lib.hid (BL0.out.trans (BG.out.mono BL0.out.size));obtain ⟨x0,x1,x2,x3,x4,x5⟩:=HX.out wG HWG.out;rw [HPN.out] at x3;have y0:=RG.out.c0;have y1:=RG.out.c1;clear c0 c1 hbg
    by_cases h72:(gb - ga) * pn≤72
    · have g1:decide (72 < (gb - ga) * pn)=false:=decide_eq_false (by omega)
      have g2:decide ((72:Int) < (((gb - ga) * pn:Nat):Int))=false:=decide_eq_false (by omega);have H72:=Lib.hid (show ((gb - ga:Nat):Int) * p.points≤72 by rw [HPN.out,← Int.natCast_mul]; omega)
      go_upto_region 8 with fail
      obtain ⟨gG,hgG⟩:∃ x,Hid (x=wr.heap.size):=⟨_,Lib.hid rfl⟩
      rw [← hgG.out] at RG ⊢
      have HSX:=Lib.hid (fun (w':World) (b':Below wG.heap.size wG w')=>show (fun w':World=>w'.cell? ⟨w.heap.size,0,none⟩=some (.int .i64 p.band)∧w'.cell? ⟨w.heap.size,1,none⟩=some (.slice A p.temps.length c)∧w'.cell? ⟨w.heap.size+1,0,none⟩=some (.slice Ax xs.length cx)∧w'.cell? ⟨w.heap.size+1+1,0,none⟩=some (.int .i64 p.points)∧w'.cell? ⟨w.heap.size+1+1,1,none⟩=some (.int .i64 p.most)∧w'.cell? ⟨w.heap.size+1+1,2,none⟩=some (.int .i64 p.pen)∧w'.cell? ⟨gG,0,none⟩=some (.int .i64 (ga:Nat))∧w'.cell? ⟨gG,1,none⟩=some (.int .i64 (gb:Nat))) w' from by
       obtain ⟨h0,h1,h2,h3,h4,h5⟩:=HX.out w' (HWG.out.trans (b'.mono HWG.out.size));exact ⟨h0,h1,h2,h3,h4,h5,(RG.out.later b').c0,(RG.out.later b').c1⟩)
      have BZ:=Lib.hid ((Below.refl wG.heap.size wG).drew);have hS:=HSX.out _ BZ.out;clear x0 x1 x2 x3 x4 x5 y0 y1;refine wp_region_held_drew (S:=(fun w':World=>w'.cell? ⟨w.heap.size,0,none⟩=some (.int .i64 p.band)∧w'.cell? ⟨w.heap.size,1,none⟩=some (.slice A p.temps.length c)∧w'.cell? ⟨w.heap.size+1,0,none⟩=some (.slice Ax xs.length cx)∧w'.cell? ⟨w.heap.size+1+1,0,none⟩=some (.int .i64 p.points)∧w'.cell? ⟨w.heap.size+1+1,1,none⟩=some (.int .i64 p.most)∧w'.cell? ⟨w.heap.size+1+1,2,none⟩=some (.int .i64 p.pen)∧w'.cell? ⟨gG,0,none⟩=some (.int .i64 (ga:Nat))∧w'.cell? ⟨gG,1,none⟩=some (.int .i64 (gb:Nat)))) (by kernel_rfl) hS (fun _=>?_);generalize wG.drew=we at BZ hS ⊢;refine tJ 0 hS ?_;refine tJ 1 hS ?_;refine tJ 2 hS ?_;refine tJ 4 hS ?_;refine tJ 7 hS ?_;refine rJ 3 fun K hK=>?_
      refine step_call 143 #[.tmp 51,.tmp 52] _ rfl rfl #[.agg #[.slice Ax xs.length cx],.agg #[.int .i64 (ga:Nat),.int .i64 (gb:Nat)]] Tryz.call143 (by go_simp) (CI.out we (B0.out.trans ((HWG.out.trans (BZ.out.mono HWG.out.size)).mono B0.out.size)) ga gb hgm.1 hgm.2) ?_;rintro e w6 ⟨uI,FI,rfl,rI,fI,b6⟩;refine ⟨_,rfl,?_⟩;replace BZ:=Lib.hid (BZ.out.trans (b6.mono BZ.out.size));replace hS:=HSX.out w6 BZ.out;have CR6:=Lib.hid (CR.out w6 (B0.out.trans ((HWG.out.trans (BZ.out.mono HWG.out.size)).mono B0.out.size)) ga gb uI FI hgm.1 hgm.2 H72.out rI);clear rI fI b6;refine bJ hK hS ?_;clear hK K;simp only [Act.put,pA,pB,pC];refine rJ 5 fun K hK=>?_
      refine step_call 142 #[.tmp 50,.tmp 53,.tmp 54] _ rfl rfl #[.agg #[.int .i64 p.band,.slice A p.temps.length c],.agg #[uI],.agg #[.int .i64 p.points,.int .i64 p.most,.int .i64 p.pen]] Tryz.call142 (by go_simp) CR6.out ?_;rintro e w7 ⟨uH,FH,rfl,rh,fh,b7⟩;refine ⟨_,rfl,?_⟩;obtain ⟨Ah,ch,rfl,-,-,-⟩:=pHyps_open rh;have HZ6:=Lib.hid BZ.out.size;replace BZ:=Lib.hid (BZ.out.trans (b7.mono BZ.out.size));replace hS:=HSX.out w7 BZ.out;refine bJ hK hS ?_;clear hK K;simp only [Act.put,pA,pB,pC];refine tJ 6 hS ?_;refine wpAnyH_done (by kernel_rfl) ?_ _;have HRH:=Lib.hid rh;have HZG:=Lib.hid (show wr.heap.size < wG.heap.size by rw [← hgG.out]; exact RG.out.lt)
      have HFH:=Lib.hid (show ∀ x∈FH,x∉gL :: G from fun x hx hin=>by
       have h1:=fh.2 x hx;have h2:=HZ6.out;have h3:=HZG.out;have h4:=ALL.out.1.row.lt;rcases List.mem_cons.1 hin with h5 | h5
       · omega
       · have:=ALL.out.1.rep.blocks x h5; omega)
      have HGG:=Lib.hid (show gG∉gL :: G from fun hin=>by
       have h4:=ALL.out.1.row.lt;rw [hgG.out] at hin;rcases List.mem_cons.1 hin with h5 | h5
       · omega
       · have:=ALL.out.1.rep.blocks _ h5; omega)
      have HGF:=Lib.hid (show gL∉G from fun hin=>by have:=ALL.out.1.fr.2 _ hin; omega);have OL7:=Lib.hid (OLG.out.later BZ.out);have BW7:=Lib.hid (BWG.out.trans (Only.of_below BZ.out));have RG7:=Lib.hid (RG.out.later BZ.out);have HG5:=Lib.hid ALL.out.2.1;have HW7:=Lib.hid (show w5.heap.size≤w7.heap.size from BW7.out.size);have HHL:=hypsZ_few (HP.out) (groupInk xs ga gb);have HK0:=Lib.hid (edgesH_zero p xs k (ga,gb) (hypsZ p (groupInk xs ga gb)));have HKL:=Lib.hid (show edgesH p xs k (ga,gb) (hypsZ p (groupInk xs ga gb)) (hypsZ p (groupInk xs ga gb)).length=edgesG p xs (k+1) from edgesH_all HGK.out.1 HGK.out.2 H72.out);have HKS:=Lib.hid (fun (j:Nat) (h:j < (hypsZ p (groupInk xs ga gb)).length)=>edgesH_succ (p:=p) (xs:=xs) (i:=k) (g:=(ga,gb)) h);have HKN:=Lib.hid (fun (j:Nat)=>edgesH_len HP.out xs k (ga,gb) (hypsZ p (groupInk xs ga gb)) j);clear hS HSX RG OLG BWG HWG rh fh b7 CR6 BZ HZ6 HZG hgG;generalize hypsZ p (groupInk xs ga gb)=hs at HRH HHL HK0 HKL HKS HKN ⊢
      go_wp2_with fail
      go_loopw [57] (fun i wr=>∃ (j:Nat) (u:Value) (G5:List Nat),i=.int .i64 j∧j≤hs.length∧Hid (OwnLat wr ((xs.length:Int)+1) (edgesH p xs k (ga,gb) hs j) gL u G5∧(∀ b∈G5,b∈G∨w7.heap.size≤b)∧Only (gL :: G) w7 wr)) (fun i _=>hs.length - (intOf i).toNat)
      case atStart=>exact ⟨0,_,G,rfl,by omega,Lib.hid ⟨by rw [HK0.out]; exact OL7.out,fun b hb=>Or.inl hb,Only.refl _ _⟩⟩
      case round =>
       obtain ⟨j,u5,G5,rfl,hj,all⟩:=hrel;have ALL5:=Lib.hid all.out;clear all;obtain ⟨U5,n5,c5,rfl⟩:=slice_form ALL5.out.1.rep
       by_cases hjl:j < hs.length
       · obtain ⟨A',c',he,-,-,hr⟩:=pHyps_open (HRH.out.only ALL5.out.2.2 HFH.out)
         cases he;obtain ⟨bh,oh,rfl,hbh,hbF,c0,c1,hok⟩:=hr j hjl;have HS5:=Lib.hid (HKS.out j hjl);have HN5:=Lib.hid (HKN.out j);generalize hs[j]=y at c0 c1 hok HS5;have OKE:=Lib.hid (show (mkE (ga,gb) y).src < 1048576∧(mkE (ga,gb) y).dst < 1048576∧(mkE (ga,gb) y).lab.size≤maxLen∧I64 (mkE (ga,gb) y).cost from ⟨by show ga < _; omega,by show gb < _; omega,hok⟩);have gj:(j:Int) < (hs.length:Int):=by omega
         have gj0:(0:Int)≤(j:Int):=by omega
         have jw:=IntWalk.i64_in ((j:Int)+1) (by omega);have RHY:=Lib.hid (Row.new wr 204 #[.string y.label,.int .i64 y.cost]);have BH:=Lib.hid (show Below wr.heap.size wr (wr.alloc (.cells #[.string y.label,.int .i64 y.cost] 204)) from (Below.refl _ _).alloc (Nat.le_refl _) _);clear hr hok
         go_upto_region 11 with fail
         generalize wr.alloc (.cells #[.string y.label,.int .i64 y.cost] 204)=wH at RHY BH ⊢;have OLH:=Lib.hid (ALL5.out.1.later BH.out);have RGH:=Lib.hid ((RG7.out.onl ALL5.out.2.2 HGG.out).later BH.out);have e1:=OLH.out.row.c1;have y0:=RGH.out.c0;have y1:=RGH.out.c1;have z0:=RHY.out.c0;have z1:=RHY.out.c1;clear c0 c1 hbh hbF
         go_wp2_with (at_builtin; refine wpList_append_repX (T:=pEdge) (e:=206) (ys:=[mkE (ga,gb) y]) (ec:=[.int .i64 (ga:Nat),.int .i64 (gb:Nat),.string y.label,.int .i64 y.cost]) rfl (.tmp 62) (.tmp 72) rfl Tryz.underlying131 infoEdge rfl (by decide) rfl (OLH.out.rep.alloc _) rfl (flat_repL _ (by intro z hz; simp only [List.mem_singleton] at hz; subst hz; exact OKE.out)) (cellsAt_new _ _ _) trivial (by rw [List.append_nil]; exact OLH.out.fr.1) (by have:=HN5.out; simp only [List.length_singleton,maxLen]; omega) (by have:=HN5.out; simp only [List.length_singleton]; omega) ?_; intro v6 w8 F6 r6 o6 f6 x6; obtain ⟨V6,n6,c6,rfl⟩:=slice_form r6; have R8:=(OLH.out.row.alloc (.cells #[.int .i64 (ga:Nat),.int .i64 (gb:Nat),.string y.label,.int .i64 y.cost] 206)).onl o6 (fun hin=>by have:=OLH.out.fr.2 _ hin; omega); have v0:=R8.c0; have v1:=R8.c1; have vF:=R8.frozen; have HX6:=Lib.hid x6.1)
         have hzl:gL < wr.heap.size:=ALL5.out.1.row.lt;have hzH:wr.heap.size≤wH.heap.size:=BH.out.size;have hz7:w7.heap.size≤wr.heap.size:=ALL5.out.2.2.size;have hfr:=f6 (gL+1) (by rw [List.append_nil]; exact OLH.out.fr) (by simp only [World.size_alloc]; omega);have hne6:gL∉F6:=fun hin=>by have:=hfr.2 _ hin; omega
         have hx6:=HX6.out;have OL9:=Lib.hid (show OwnLat (w8.setCell ⟨gL,1,none⟩ (.slice V6 n6 c6)) ((xs.length:Int)+1) (edgesH p xs k (ga,gb) hs (j+1)) gL (.slice V6 n6 c6) F6 from ⟨R8.set 1 _,by rw [HS5.out]; exact Ty.rep.setCell (T:=pEdge.slice 206) r6 (p:=⟨gL,1,none⟩) hne6 _,hfr⟩)
         have hsub:∀ b∈F6,b∈G∨w7.heap.size≤b:=fun b hb=>by
          rcases hx6 b hb with h | h
          · rw [List.append_nil] at h
            exact ALL5.out.2.1 b h
          · simp only [World.size_alloc] at h; right; omega
         have hon:Only (gL :: G) w7 (w8.setCell ⟨gL,1,none⟩ (.slice V6 n6 c6)):=by
          have o1:Only (gL :: G) w7 w8:=only_newJ ((ALL5.out.2.2.trans (Only.of_below BH.out)).trans (Only.of_below ((Below.refl _ _).alloc (Nat.le_refl _) _))) o6 (fun x hx=>(ALL5.out.2.1 x hx).imp_left (List.mem_cons_of_mem _));exact o1.set (p:=⟨gL,1,none⟩) (by simp) (.slice V6 n6 c6)
         exact ⟨⟨j+1,_,F6,by go_num,by omega,Lib.hid ⟨OL9.out,hsub,hon⟩⟩,by simp [intOf]; omega⟩
       · obtain rfl:j=hs.length:=by omega
         have gj:¬ (hs.length:Int) < (hs.length:Int):=by omega
         have hO:Only [gL] w5 wr:=only_newJ BW7.out ALL5.out.2.2 (fun x hx=>by
          rcases List.mem_cons.1 hx with rfl | h
          · exact Or.inl (by simp)
          · exact Or.inr (HG5.out x h))
         go_wp2_with fail
         exact ⟨⟨k+1,_,G5,by go_num,by omega,Lib.hid ⟨by rw [← HKL.out]; exact ALL5.out.1,fun b hb=>(ALL5.out.2.1 b hb).elim (HG5.out b) (fun h=>Nat.le_trans HW7.out h),hO⟩⟩,by simp [intOf]; omega⟩
    · have g1:decide (72 < (gb - ga) * pn)=true:=decide_eq_true (by omega)
      have g2:decide ((72:Int) < (((gb - ga) * pn:Nat):Int))=true:=decide_eq_true (by omega);have HSK:=Lib.hid (show edgesG p xs (k+1)=edgesG p xs k from edgesG_skip HGK.out.1 HGK.out.2 (by rw [HPN.out]; intro h; exact h72 (by have h':((gb - ga:Nat):Int) * (pn:Int)≤72:=h; rw [← Int.natCast_mul] at h'; omega)))
      go_wp2_with fail
      exact ⟨⟨k+1,_,G,by go_num,by omega,Lib.hid ⟨by rw [HSK.out]; exact OLG.out,ALL.out.2.1,BWG.out⟩⟩,by simp [intOf]; omega⟩
  · obtain rfl:k=gs.length:=by omega
    have gk:¬ (gs.length:Int) < (gs.length:Int):=by omega
    have ALLZ:=Lib.hid (show OwnLat wr ((xs.length:Int)+1) (edgesZ p xs) gL (.slice U un uc) G from by have:=ALL.out.1; rw [← HGS.out,edgesG_all] at this; exact this);have HGB:=Lib.hid ALL.out.2.1;have HLE:=Lib.hid (show (edgesZ p xs).length≤gs.length * 8 by have:=edgesG_len HP.out xs gs.length; rw [← HGS.out,edgesG_all] at this; rw [← HGS.out]; exact this);have RES:=Lib.hid (HR3.out.later BL0.out);have BWF:=Lib.hid (B0.out.trans (BL0.out.mono B0.out.size));obtain ⟨A',c',he,-,-,-⟩:=pEdges_open ALLZ.out.rep;cases he;have y0:=ALLZ.out.row.c0;have y1:=ALLZ.out.row.c1;clear x0 x1 x2 x3 x4 x5 ALL;have HRF:=Lib.hid (show w.heap.size+1+1+1 < w0.heap.size from HR3.out.lt)
    by_cases hfew:200 < (edgesZ p xs).length
    · have g2:decide (200 < (edgesZ p xs).length)=true:=decide_eq_true hfew
      have g3:decide ((200:Int) < ((edgesZ p xs).length:Int))=true:=decide_eq_true (by omega);have v0:=RES.out.c0;have v1:=RES.out.c1;have vF:=RES.out.frozen;have E:=(RES.out.set 0 (.int .i64 0)).set 1 (.slice none 0 0);have vF1:=(RES.out.set 0 (.int .i64 0)).frozen;have e0:=E.c0;have e1:=E.c1;have BF:=Lib.hid ((BWF.out.setCell (p:=⟨w.heap.size+1+1+1,0,none⟩) (by show w.heap.size≤w.heap.size+1+1+1; omega) (.int .i64 0)).setCell (p:=⟨w.heap.size+1+1+1,1,none⟩) (by show w.heap.size≤w.heap.size+1+1+1; omega) (.slice none 0 0));clear E
      go_wp2_with fail
      refine bodyPost_ret (v:=.tuple #[.agg #[.int .i64 0,.slice none 0 0],.int .i64 5]) (by simp only [results,Tryz.results86]; go_simp) rfl ?_;exact ⟨_,rfl,[],slice_nil _ _ _ _,⟨by simp,by simp⟩,BF.out⟩
    · have g2:decide (200 < (edgesZ p xs).length)=false:=decide_eq_false hfew
      have g3:decide ((200:Int) < ((edgesZ p xs).length:Int))=false:=decide_eq_false (by omega);have CSO:=Lib.hid (sort_Edge wr ALLZ.out.rep (by omega));have HONE:=Lib.hid (fun ys hp hs=>edges_one (edgesZ_keys p xs) (ys:=ys) hp hs)
      go_wp2_with fail
      refine CSO.out.mono ?_;rintro en w8 ⟨rfl,ys,hp8,hs8,ry,oy⟩;have hy:=HONE.out ys hp8 hs8;subst hy;have RY:=Lib.hid ry;have hgf:gL∉G:=fun hin=>by have:=ALLZ.out.fr.2 _ hin; omega
      have RL8:=ALLZ.out.row.onl oy hgf;have y0:=RL8.c0;have y1:=RL8.c1;have hz0:w0.heap.size≤w5.heap.size:=B5.out.size;have R8:=RES.out.onl oy (fun hin=>by have:=HGB.out _ hin; have:=HRF.out; omega);have v0:=R8.c0;have v1:=R8.c1;have vF:=R8.frozen;have E:=(R8.set 0 (.int .i64 ((xs.length:Int)+1))).set 1 (.slice U (edgesZ p xs).length uc);have vF1:=(R8.set 0 (.int .i64 ((xs.length:Int)+1))).frozen;have e0:=E.c0;have e1:=E.c1;have hge:∀ x∈G,w.heap.size+1+1+1 < x:=fun x hx=>by have:=HGB.out _ hx; have:=HRF.out; omega
      have hne:w.heap.size+1+1+1∉G:=fun hin=>by have:=hge _ hin; omega
      have FRR:=Lib.hid (show Fresh w.heap.size G from ⟨ALLZ.out.fr.1,fun x hx=>by have:=hge x hx; omega⟩);have BF0:=BWF.out.trans (oy.below (B:=w.heap.size) BWF.out.size (fun x hx=>by have:=hge x hx; omega));have BF:=Lib.hid ((BF0.setCell (p:=⟨w.heap.size+1+1+1,0,none⟩) (by show w.heap.size≤w.heap.size+1+1+1; omega) (.int .i64 ((xs.length:Int)+1))).setCell (p:=⟨w.heap.size+1+1+1,1,none⟩) (by show w.heap.size≤w.heap.size+1+1+1; omega) (.slice U (edgesZ p xs).length uc));have REP:=Lib.hid (Ty.rep.setCell (T:=pEdge.slice 206) (Ty.rep.setCell (T:=pEdge.slice 206) RY.out (p:=⟨w.heap.size+1+1+1,0,none⟩) hne (.int .i64 ((xs.length:Int)+1))) (p:=⟨w.heap.size+1+1+1,1,none⟩) hne (.slice U (edgesZ p xs).length uc));clear E R8 RL8 ry oy hge hne BF0 CSO hgf hp8 hs8 HONE
      go_wp2_with fail
      refine bodyPost_ret (v:=.tuple #[.agg #[.int .i64 ((xs.length:Int)+1),.slice U (edgesZ p xs).length uc],.int .i64 0]) (by simp only [results,Tryz.results86]; go_simp) rfl ?_;exact ⟨_,rfl,G,REP.out,FRR.out,BF.out⟩
end Go.Proofs.YtalmeogjhmblhaaGreat

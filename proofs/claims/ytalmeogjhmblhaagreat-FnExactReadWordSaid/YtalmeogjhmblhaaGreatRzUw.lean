/- ReadWord of the reference. Conditions: none. -/
import Derived.Test.YtalmeogjhmblhaaGreatRzTw
import Derived.Test.YtalmeogjhmblhaaGreatSsRw
import Derived.Test.YtalmeogjhmblhaaGreatTkw
namespace Go.Proofs.YtalmeogjhmblhaaGreat
open Go Go.RowKit
set_option maxHeartbeats 8000000
set_option maxRecDepth 100000
def readA (q:PSess):ByteArray × Int × Int:=if sessB q=true then readZ q else (⟨#[]⟩,0,1)
theorem spec_ReadWord_c {I:Ids} {o:Bool} {q:PSess} {v:Value} {F:List Nat} (w:World) (h:SessIs I o w q v F) (hp:SsSmall q) (hb:SsBytes q) :
 Calls Tryz.prog 7 #[v] w fun e w'=>e=.returned (.tuple #[.string (readA q).1,.int .i64 (readA q).2.1,.int .i64 (readA q).2.2])∧Below w.heap.size w w':=by
 obtain ⟨a0,a1,a2,a3,a4,a5,F0,F1,F2,F3,F4,F5,rfl,rfl,h0,h1,h2,h3,h4,h5⟩:=h;obtain ⟨A0,k0,rfl⟩:=slice_len h0;obtain ⟨A1,k1,rfl⟩:=slice_len h1;obtain ⟨A2,k2,rfl⟩:=slice_len h2;obtain ⟨A3,k3,rfl⟩:=slice_len h3;obtain ⟨A4,k4,rfl⟩:=slice_len h4;obtain ⟨A5,k5,rfl⟩:=slice_len h5;have R:=Row.new w 62 #[.int .i64 q.setup.band,.slice A0 q.setup.temps.length k0,.int .i64 q.setup.points,.int .i64 q.setup.most,.int .i64 q.setup.pen,.slice A1 q.setup.entries.length k1,.int .i64 q.setup.dflt,.slice A2 q.setup.bigrams.length k2,.int .i64 q.setup.pause,.slice A3 q.strokes.length k3,.slice A4 q.opn.length k4,.int .i64 q.time,.slice A5 q.words.length k5];have al:Below w.heap.size w (w.alloc (.cells #[.int .i64 q.setup.band,.slice A0 q.setup.temps.length k0,.int .i64 q.setup.points,.int .i64 q.setup.most,.int .i64 q.setup.pen,.slice A1 q.setup.entries.length k1,.int .i64 q.setup.dflt,.slice A2 q.setup.bigrams.length k2,.int .i64 q.setup.pause,.slice A3 q.strokes.length k3,.slice A4 q.opn.length k4,.int .i64 q.time,.slice A5 q.words.length k5] 62)):=(Below.refl _ _).alloc (Nat.le_refl _) _;have H:=Lib.hid (spec_l26Ok_c (more:=[]) _ (by rw [List.append_nil]; exact R) (h0.alloc _) (h1.alloc _) (h2.alloc _) (h3.alloc _) (h4.alloc _) (h5.alloc _) hp hb);have HW:=Lib.hid (fun (w':World) (b:Below (w.alloc (.cells #[.int .i64 q.setup.band,.slice A0 q.setup.temps.length k0,.int .i64 q.setup.points,.int .i64 q.setup.most,.int .i64 q.setup.pen,.slice A1 q.setup.entries.length k1,.int .i64 q.setup.dflt,.slice A2 q.setup.bigrams.length k2,.int .i64 q.setup.pause,.slice A3 q.strokes.length k3,.slice A4 q.opn.length k4,.int .i64 q.time,.slice A5 q.words.length k5] 62)).heap.size _ w') (hs:sessB q=true)=>spec_l26Word_c (more:=[]) w' (by rw [List.append_nil]; exact R.later b) ((h0.alloc _).below b) ((h1.alloc _).below b) ((h2.alloc _).below b) ((h3.alloc _).below b) ((h5.alloc _).below b) hs);clear h0 h1 h2 h3 h4 h5 R hp hb
 go_enter Tryz.func7,Tryz.ntmps7
 go_wp2_with fail
 refine H.out.mono ?_;rintro e w1 ⟨rfl,b1⟩;have BF:=Lib.hid (al.trans (b1.mono al.size));cases hs:sessB q with
 | false =>
   have HR:=Lib.hid (show readA q=(⟨#[]⟩,0,1) by rw [readA,if_neg (by rw [hs]; decide)]);clear HW H b1 al
   go_wp2_with fail
   refine bodyPost_ret (v:=.tuple #[.string ⟨#[]⟩,.int .i64 0,.int .i64 1]) (by simp only [results,Tryz.results7]; go_simp) rfl ?_;exact ⟨by rw [HR.out],BF.out⟩
 | true =>
   have HR:=Lib.hid (show readA q=readZ q by rw [readA,if_pos hs]);have C2:=Lib.hid (HW.out w1 b1 hs);clear HW H b1 al;generalize readZ q=z at HR C2
   go_wp2_with fail
   refine C2.out.mono ?_;rintro e w2 ⟨rfl,b2⟩
   go_wp2_with fail
   refine bodyPost_ret (v:=.tuple #[.string z.1,.int .i64 z.2.1,.int .i64 z.2.2]) (by simp only [results,Tryz.results7]; go_simp) rfl ?_;exact ⟨by rw [HR.out],BF.out.trans (b2.mono BF.out.size)⟩
theorem step_callV {P:Program} {ops:Array Oper} {o:Oper} {a:Act} {w:World} {K:Act→World→Prop} {Q:Exit→Act→World→Prop} {E:Prop} {R:Ending→World→Prop}
 (f:FuncId) (x:Operand) (xs:Array Operand) (ts:Array TypeId) (ho:o.op=.call { callee:=.value x,args:=xs,argTypes:=ts }) (hv:a.eval x=.func (.func f) #[] #[])
 (hw:Region.wanted o (yielded ops a.tmps)=true) (av:Array Value) (hcall:∀ args w,(callFunc f args).run P w=.ok (.enter f args) w) (hx:xs.map a.eval=av)
 (hC:Calls P f av w R) (hK:∀ e w',R e w'→∃ v,e=.returned v∧K (a.put o.dst v) w') :
 if Region.wanted o (yielded ops a.tmps)=true then Oper.wp P o a w K Q else E:=by
 rw [if_pos hw];unfold Oper.wp execOp;simp only [ho,resolve,invoke,Sem.run_bind];rw [hv,hx];simp only [Deferred.ofValue,Sem.run_pure,Result.andThen_ok,Array.append_empty,hcall];rw [Oper.upon_enter,Array.empty_append];refine hC.mono fun e w' hr=>?_
 obtain ⟨v,rfl,hk⟩:=hK e w' hr;exact hk
theorem impl_copyInk1_c (x y t:Int) (w:World):Calls Tryz.prog 159 #[.agg #[.int .i64 x,.int .i64 y,.int .i64 t]] w fun e w'=>e=.returned (.agg #[.int .i64 x,.int .i64 y,.int .i64 t])∧Below w.heap.size w w':=by
 have b2:Below w.heap.size w ((w.alloc (.cells #[.int .i64 x,.int .i64 y,.int .i64 t] 128)).alloc (.cells #[.int .i64 x,.int .i64 y,.int .i64 t] 128)):=((Below.refl _ _).alloc (Nat.le_refl _) _).alloc (by simp) _
 go_enter Tryz.func159,Tryz.ntmps159
 go_wp2_with fail
 refine bodyPost_ret (v:=.agg #[.int .i64 x,.int .i64 y,.int .i64 t]) (by simp only [results,Tryz.results159]; go_simp) rfl ?_;exact ⟨rfl,b2⟩
structure OwnPts (w:World) (ps:List PPoint) (gS:Nat) (v:Value) (F:List Nat):Prop where
 row:Row w gS 124 [v]
 rep:(pPoints 128).rep true w ps [v] F
 fr:Fresh (gS+1) F
theorem OwnPts.later {w w':World} {ps:List PPoint} {gS:Nat} {v:Value} {F:List Nat} (h:OwnPts w ps gS v F) (hb:Below w.heap.size w w'):OwnPts w' ps gS v F:=⟨h.row.later hb,h.rep.below hb,h.fr⟩
theorem OwnPts.drew {w:World} {ps:List PPoint} {gS:Nat} {v:Value} {F:List Nat} (h:OwnPts w ps gS v F):OwnPts w.drew ps gS v F:=⟨h.row.drew,h.rep.drew,h.fr⟩
theorem impl_mapInk_c {o:Bool} {pe st:TypeId} {xs:List PStroke} {v:Value} {F:List Nat} (w:World) (h:(pStrokes pe st).rep o w xs [v] F) (hx:xs.length≤1000) (hxe:∀ l∈xs,l.length≤1000) :
 Calls Tryz.prog 158 #[.agg #[v],.func (.func 159) #[] #[]] w fun e w'=>∃ u F,e=.returned (.agg #[u])∧(pStrokes 128 124).rep true w' xs [u] F∧Fresh w.heap.size F∧Below w.heap.size w w':=by
 obtain ⟨A,c,rfl,hc1,hc2,-⟩:=pStrokes_open h;have H:=Lib.hid h;have HL:=Lib.hid hxe;have C1:=Lib.hid impl_copyInk1_c;clear h hxe
 go_enter Tryz.func158,Tryz.ntmps158
 go_upto_region 2 with fail
 have R0:=((Row.new w 59 #[.slice A xs.length c]).alloc (.cells #[.slice none 0 0] 59)).alloc (.cells #[.slice none 0 0] 59);have R1:=(Row.new (w.alloc (.cells #[.slice A xs.length c] 59)) 59 #[.slice none 0 0]).alloc (.cells #[.slice none 0 0] 59);have R2:=Row.new ((w.alloc (.cells #[.slice A xs.length c] 59)).alloc (.cells #[.slice none 0 0] 59)) 59 #[.slice none 0 0];have b0:Below w.heap.size w (((w.alloc (.cells #[.slice A xs.length c] 59)).alloc (.cells #[.slice none 0 0] 59)).alloc (.cells #[.slice none 0 0] 59)):=(((Below.refl _ _).alloc (Nat.le_refl _) _).alloc (by simp) _).alloc (by simp; omega) _;rw [World.size_alloc] at R1;rw [World.size_alloc,World.size_alloc] at R2;generalize ((w.alloc (.cells #[.slice A xs.length c] 59)).alloc (.cells #[.slice none 0 0] 59)).alloc (.cells #[.slice none 0 0] 59)=w0 at R0 R1 R2 b0 ⊢;have HR1:=Lib.hid R1;have HR2:=Lib.hid R2;have B0:=Lib.hid b0;have x0:=R0.c0;clear R0 R1 R2 b0
 go_wp2_with fail
 clear x0
 go_loopw [14] (fun i wr=>∃ (k:Nat) (u:Value) (G:List Nat),i=.int .i64 k∧k≤xs.length∧Hid (OwnInk wr (xs.take k) (w.heap.size+1+1) u G∧Row wr (w.heap.size+1) 59 [.slice none 0 0]∧Below w.heap.size w wr)) (fun i _=>xs.length - (intOf i).toNat)
 case atStart=>exact ⟨0,_,[],rfl,by omega,Lib.hid ⟨⟨HR2.out,slice_nil _ _ _ _,⟨by simp,by simp⟩⟩,HR1.out,B0.out⟩⟩
 case round =>
  obtain ⟨k,u,G,rfl,hk,all⟩:=hrel;have ALL:=Lib.hid all.out;clear all;obtain ⟨U,un,uc,rfl⟩:=slice_form ALL.out.1.rep
  by_cases hlt:k < xs.length
  · have gk:(k:Int) < (xs.length:Int):=by omega
    have gk0:(0:Int)≤(k:Int):=by omega
    have kw:=IntWalk.i64_in ((k:Int)+1) (by omega);have HN:=Lib.hid (show xs.take (k+1)=xs.take k++[xs[k]] from List.take_succ_eq_append_getElem hlt);have LN:=Lib.hid (show (xs.take k).length≤k by rw [List.length_take]; omega);obtain ⟨A',c',he,-,-,hr⟩:=pStrokes_open (H.out.below ALL.out.2.2);cases he;obtain ⟨bs,os,us,Fs,rfl,hbs,-,rs,-,cs⟩:=hr k hlt;obtain ⟨As,ks,rfl,-,-,-⟩:=pPoints_open rs;have hl:=HL.out _ (List.getElem_mem hlt);generalize xs[k]=sk at rs cs hl HN;have RS:=Lib.hid rs;have R7:=(Row.new wr 124 #[.slice As sk.length ks]).alloc (.cells #[.slice none 0 0] 124);have R8:=Row.new (wr.alloc (.cells #[.slice As sk.length ks] 124)) 124 #[.slice none 0 0];have b5:Below wr.heap.size wr ((wr.alloc (.cells #[.slice As sk.length ks] 124)).alloc (.cells #[.slice none 0 0] 124)):=((Below.refl _ _).alloc (Nat.le_refl _) _).alloc (by simp) _;rw [World.size_alloc] at R8;clear hr rs
    go_upto_region 6 with fail
    generalize (wr.alloc (.cells #[.slice As sk.length ks] 124)).alloc (.cells #[.slice none 0 0] 124)=w5 at R7 R8 b5 ⊢;have y0:=R7.c0;have B5:=Lib.hid b5;have HR8:=Lib.hid R8;clear cs R7 R8 b5
    go_wp2_with fail
    clear y0;obtain ⟨wk,hwk⟩:∃ x,x=wr:=⟨_,rfl⟩
    subst hwk
    go_loopw [21] (fun i wx=>∃ (j:Nat) (v:Value) (G:List Nat),i=.int .i64 j∧j≤sk.length∧Hid (OwnPts wx (sk.take j) (wk.heap.size+1) v G∧Below wk.heap.size wk wx)) (fun i _=>sk.length - (intOf i).toNat)
    case atStart=>exact ⟨0,_,[],rfl,by omega,Lib.hid ⟨⟨HR8.out,slice_nil _ _ _ _,⟨by simp,by simp⟩⟩,B5.out⟩⟩
    case round =>
     obtain ⟨j,v5,G5,rfl,hj,all⟩:=hrel;have ALL5:=Lib.hid all.out;clear all;obtain ⟨U5,n5,c5,rfl⟩:=slice_form ALL5.out.1.rep
     by_cases hjl:j < sk.length
     · have gj:(j:Int) < (sk.length:Int):=by omega
       have gj0:(0:Int)≤(j:Int):=by omega
       have jw:=IntWalk.i64_in ((j:Int)+1) (by omega);obtain ⟨A',c',he,-,-,hr⟩:=pPoints_open (RS.out.below ALL5.out.2);cases he;obtain ⟨bp,op,rfl,hbp,-,p0,p1,p2,hok⟩:=hr j hjl;have HNJ:=Lib.hid (show sk.take (j+1)=sk.take j++[sk[j]] from List.take_succ_eq_append_getElem hjl);have LNJ:=Lib.hid (show (sk.take j).length≤j by rw [List.length_take]; omega);generalize sk[j]=p at p0 p1 p2 hok HNJ;obtain ⟨px,py,pt⟩:=p;dsimp only at p0 p1 p2 hok;have HOK:=Lib.hid hok;have RP:=Row.new wr 128 #[.int .i64 px,.int .i64 py,.int .i64 pt];have b6:Below wr.heap.size wr (wr.alloc (.cells #[.int .i64 px,.int .i64 py,.int .i64 pt] 128)):=(Below.refl _ _).alloc (Nat.le_refl _) _;clear hr hok
       go_upto_region 9 with fail
       have HRP:=Lib.hid RP.drew;have OP:=Lib.hid (ALL5.out.1.later b6).drew;have BW:=Lib.hid (ALL5.out.2.trans (b6.mono ALL5.out.2.size)).drew;have hgne:wr.heap.size≠wk.heap.size+1:=by have:=ALL5.out.1.row.lt; omega
       have hS:(fun w':World=>w'.cell? ⟨wr.heap.size,0,none⟩=some (.int .i64 px)∧w'.cell? ⟨wr.heap.size,1,none⟩=some (.int .i64 py)∧w'.cell? ⟨wr.heap.size,2,none⟩=some (.int .i64 pt)) (wr.alloc (.cells #[.int .i64 px,.int .i64 py,.int .i64 pt] 128)).drew:=⟨RP.drew.c0,RP.drew.c1,RP.drew.c2⟩
       refine wp_region_held_drew (S:=(fun w':World=>w'.cell? ⟨wr.heap.size,0,none⟩=some (.int .i64 px)∧w'.cell? ⟨wr.heap.size,1,none⟩=some (.int .i64 py)∧w'.cell? ⟨wr.heap.size,2,none⟩=some (.int .i64 pt))) (by kernel_rfl) hS (fun _=>?_);have hGP:=Lib.hid (show ∀ x∈G5,x≠wr.heap.size from fun x hx=>Nat.ne_of_lt (ALL5.out.1.rep.blocks x hx));clear ALL5 p0 p1 p2 hbp RP b6;generalize (wr.alloc (.cells #[.int .i64 px,.int .i64 py,.int .i64 pt] 128)).drew=we at HRP OP BW hS ⊢;have HSX:=Lib.hid (fun (w':World) (b:Below we.heap.size we w')=>show (fun w':World=>w'.cell? ⟨wr.heap.size,0,none⟩=some (.int .i64 px)∧w'.cell? ⟨wr.heap.size,1,none⟩=some (.int .i64 py)∧w'.cell? ⟨wr.heap.size,2,none⟩=some (.int .i64 pt)) w' from ⟨(HRP.out.later b).c0,(HRP.out.later b).c1,(HRP.out.later b).c2⟩);generalize wr.heap.size=gP at HRP hS hgne HSX hGP ⊢;refine tJ 0 hS ?_;refine tJ 2 hS ?_;refine tJ 3 hS ?_;refine rJ2 1 4 (fun K hK=>?ga) (fun K hK=>?gb)
       case' ga =>
        have y0:=OP.out.row.c0
        go_simp
        refine bJ hK hS ?_;clear hK K y0;refine rJ 4 fun K hK=>?_
       all_goals (
        refine step_callV 159 (.tmp 27) #[.tmp 28] _ rfl (by go_simp) rfl #[.agg #[.int .i64 px,.int .i64 py,.int .i64 pt]] Tryz.call159 (by go_simp) (C1.out px py pt we) ?_;rintro e w4 ⟨rfl,b4⟩;refine ⟨_,rfl,?_⟩;have OP4:=Lib.hid (OP.out.later b4);have BW4:=Lib.hid (BW.out.trans (b4.mono BW.out.size));have HRP4:=Lib.hid (HRP.out.later b4);replace hS:=HSX.out w4 b4;clear b4;refine bJ hK hS ?_;clear hK K;simp only [Act.put,pA,pB,pC]
        )
       case' gb =>
        refine rJ2 1 5 (fun K hK=>?gc) (fun K hK=>?gd)
       case' gc =>
        have y0:=OP4.out.row.c0
        go_simp
        refine bJ hK hS ?_;clear hK K y0
       case' ga =>
        refine rJ 5 fun K hK=>?_
       case' gc =>
        refine rJ 5 fun K hK=>?_
       all_goals (
        go_simp
        have hal:Below w4.heap.size w4 (w4.alloc (.cells #[.int .i64 px,.int .i64 py,.int .i64 pt] 128)):=(Below.refl _ _).alloc (Nat.le_refl _) _;have hat:CellsAt (w4.alloc (.cells #[.int .i64 px,.int .i64 py,.int .i64 pt] 128)) (some ⟨w4.heap.size,0,none⟩) [.int .i64 px,.int .i64 py,.int .i64 pt]:=cellsAt_new _ _ _;have OP5:=Lib.hid (OP4.out.later hal);have BW5:=Lib.hid (BW4.out.trans (hal.mono BW4.out.size));have HRP5:=Lib.hid (HRP4.out.later hal);replace hS:=(show (fun w':World=>w'.cell? ⟨gP,0,none⟩=some (.int .i64 px)∧w'.cell? ⟨gP,1,none⟩=some (.int .i64 py)∧w'.cell? ⟨gP,2,none⟩=some (.int .i64 pt)) _ from ⟨HRP5.out.c0,HRP5.out.c1,HRP5.out.c2⟩)
        refine bJ hK hS ?_;generalize w4.alloc (.cells #[.int .i64 px,.int .i64 py,.int .i64 pt] 128)=w5b at hat OP5 BW5 HRP5 hS ⊢;clear hK K hal OP4 BW4 HRP4
        )
       case' gd =>
        have y0:=OP5.out.row.c0;refine rJ 1 fun K hK=>?_
        go_simp
        refine bJ hK hS ?_;clear hK K y0
       all_goals (
        refine rJ 6 fun K hK=>?_
        refine step_append_repX (T:=pPoint) (e:=128) (ys:=[⟨px,py,pt⟩]) (ec:=[.int .i64 px,.int .i64 py,.int .i64 pt]) rfl (.tmp 26) (.tmp 30) rfl Tryz.underlying60 Tryz.infoPointR rfl (by decide) rfl OP5.out.rep rfl (repL_pPoint [⟨px,py,pt⟩] (by intro z hz; simp only [List.mem_singleton] at hz; subst hz; exact HOK.out)) hat (by rw [List.append_nil]; exact OP5.out.fr.1) (by have:=LNJ.out; simp only [List.length_singleton,maxLen]; omega) (by have:=LNJ.out; simp only [List.length_singleton]; omega) ?_;intro v6 w6 F6 r6 o6 f6 x6;have hbn:wk.heap.size+1∉G5:=fun hin=>by have:=OP5.out.fr.2 _ hin; omega
        have RI6:Row w6 (wk.heap.size+1) 124 [.slice U5 n5 c5]:=(o6.block _ OP5.out.row.lt hbn).trans OP5.out.row;have RP6:Row w6 gP 128 [.int .i64 px,.int .i64 py,.int .i64 pt]:=(o6.block _ HRP5.out.lt (fun hin=>hGP.out _ hin rfl)).trans HRP5.out;have BW6:=Lib.hid (BW5.out.trans (o6.below (B:=wk.heap.size) BW5.out.size (fun b hb=>by have:=OP5.out.fr.2 _ hb; omega)));have f6':=f6 (wk.heap.size+1+1) (by rw [List.append_nil]; exact OP5.out.fr) (Nat.succ_le_of_lt OP5.out.row.lt);obtain ⟨V6,n6,c6,rfl⟩:=slice_form r6;replace hS:=(show (fun w':World=>w'.cell? ⟨gP,0,none⟩=some (.int .i64 px)∧w'.cell? ⟨gP,1,none⟩=some (.int .i64 py)∧w'.cell? ⟨gP,2,none⟩=some (.int .i64 pt)) w6 from ⟨RP6.c0,RP6.c1,RP6.c2⟩)
        refine bJ hK hS ?_;have OP7:=Lib.hid (show OwnPts (w6.setCell ⟨wk.heap.size+1,0,none⟩ (.slice V6 n6 c6)) (sk.take j++[⟨px,py,pt⟩]) (wk.heap.size+1) (.slice V6 n6 c6) F6 from ⟨RI6.set 0 _,Ty.rep.setCell (T:=pPoints 128) r6 (p:=⟨wk.heap.size+1,0,none⟩) (fun hin=>by have:=f6'.2 _ hin; dsimp only at this; omega) _,f6'⟩);have BW7:=Lib.hid (BW6.out.setCell (p:=⟨wk.heap.size+1,0,none⟩) (by show wk.heap.size≤wk.heap.size+1; omega) (.slice V6 n6 c6));have RP7:=Lib.hid (RP6.far (p:=⟨wk.heap.size+1,0,none⟩) hgne (.slice V6 n6 c6));have v0:=RI6.c0;have vF:=RI6.frozen;clear hK K r6 o6 f6 x6 hat OP5 BW5 HRP5 RI6 f6' hbn BW6 RP6;refine tJ 7 hS ?_;refine rJ 8 fun K hK=>?_
        go_simp
        replace hS:=(show (fun w':World=>w'.cell? ⟨gP,0,none⟩=some (.int .i64 px)∧w'.cell? ⟨gP,1,none⟩=some (.int .i64 py)∧w'.cell? ⟨gP,2,none⟩=some (.int .i64 pt)) _ from ⟨RP7.out.c0,RP7.out.c1,RP7.out.c2⟩)
        refine bJ hK hS ?_;clear hK K hS v0 vF;refine wpAnyH_done (by kernel_rfl) ?_ _
        go_wp2_with fail
        exact ⟨⟨j+1,_,F6,by go_num,by omega,Lib.hid ⟨by rw [HNJ.out]; exact OP7.out,BW7.out⟩⟩,by simp [intOf]; omega⟩
        )
     · obtain rfl:j=sk.length:=by omega
       have gj:¬ (sk.length:Int) < (sk.length:Int):=by omega
       have R5:=ALL5.out.1.rep;rw [List.take_length] at R5;have OI:=ALL.out.1.later ALL5.out.2;have y0:=OI.row.c0;have y1:=ALL5.out.1.row.c0;have FR5:=Lib.hid ALL5.out.1.fr;have DIS:=Lib.hid (show ∀ x,x∈G→x∈G5→False from fun x h1 h2=>by have:=ALL.out.1.rep.blocks x h1; have:=ALL5.out.1.fr.2 x h2; omega);have HR5:=Lib.hid R5;have HOI:=Lib.hid OI;have HR1b:=Lib.hid (ALL.out.2.1.later ALL5.out.2);have HBW:=Lib.hid (ALL.out.2.2.trans (ALL5.out.2.mono ALL.out.2.2.size));have hwkz:w.heap.size+1+1 < wk.heap.size:=ALL.out.1.row.lt;have HREP:=Lib.hid (show ((pStroke 128).slice 124).rep true (wr.alloc (.cells #[.slice U5 n5 c5] 124)) (xs.take k) [.slice U un uc] G from HOI.out.rep.alloc _);have HRP5:=Lib.hid (show repL (pStroke 128) true (wr.alloc (.cells #[.slice U5 n5 c5] 124)) [sk] [.slice U5 n5 c5] G5 from repL_single.2 (HR5.out.alloc _));clear R5 OI
       go_wp2_with (at_builtin; go_loud (refine wpList_append_repX (T:=pStroke 128) (e:=124) (ys:=[sk]) (ec:=[.slice U5 n5 c5]) rfl (.tmp 35) (.tmp 37) rfl Tryz.underlying57 Tryz.infoStrokeR rfl (by decide) rfl HREP.out rfl HRP5.out (cellsAt_new _ _ _) trivial (nodup_app HOI.out.fr.1 FR5.out.1 DIS.out) (by have:=LN.out; simp only [List.length_singleton,maxLen]; omega) (by have:=LN.out; simp only [List.length_singleton]; omega) ?_; intro v6 w6 F6 r6 o6 f6 x6; obtain ⟨V6,n6,c6,rfl⟩:=slice_form r6; have q6:Row w6 (w.heap.size+1+1) 59 [.slice U un uc]:=(o6.block _ (HOI.out.row.alloc _).lt (fun hin=>by have:=HOI.out.fr.2 _ hin; omega)).trans (HOI.out.row.alloc _); have v0:=q6.c0; have vF:=q6.frozen))
       have hG5:∀ b∈G5,w.heap.size+1+1+1≤b:=fun b hb=>by have:=FR5.out.2 b hb; omega
       have f6':=f6 (w.heap.size+1+1+1) ⟨nodup_app HOI.out.fr.1 FR5.out.1 DIS.out,fun b hb=>(List.mem_append.1 hb).elim (HOI.out.fr.2 b) (hG5 b)⟩ (by have:=HOI.out.row.lt; simp only [World.size_alloc]; omega);have BW6:=(HBW.out.alloc HBW.out.size (.cells #[.slice U5 n5 c5] 124)).trans (o6.below (B:=w.heap.size) (by have:=HBW.out.size; simp only [World.size_alloc]; omega) (fun b hb=>by have:=HOI.out.fr.2 _ hb; omega));have R16:Row w6 (w.heap.size+1) 59 [.slice none 0 0]:=(o6.block _ (HR1b.out.alloc _).lt (fun hin=>by have:=HOI.out.fr.2 _ hin; omega)).trans (HR1b.out.alloc _);exact ⟨⟨k+1,_,F6,by go_num,by omega,Lib.hid ⟨by rw [HN.out]; exact ⟨q6.set 0 _,Ty.rep.setCell (T:=pStrokes 128 124) r6 (p:=⟨w.heap.size+1+1,0,none⟩) (fun hin=>by have:=f6'.2 _ hin; dsimp only at this; omega) _,f6'⟩,R16.far (p:=⟨w.heap.size+1+1,0,none⟩) (by show w.heap.size+1≠w.heap.size+1+1; omega) _,BW6.setCell (p:=⟨w.heap.size+1+1,0,none⟩) (by show w.heap.size≤w.heap.size+1+1; omega) _⟩⟩,by simp [intOf]; omega⟩
  · obtain rfl:k=xs.length:=by omega
    have gk:¬ (xs.length:Int) < (xs.length:Int):=by omega
    have y0:=ALL.out.1.row.c0;have R1:=ALL.out.2.1;have v0:=R1.c0;have vF:=R1.frozen;have e0:=(R1.set 0 (.slice U un uc)).c0;have hne:w.heap.size+1∉G:=fun hin=>by have:=ALL.out.1.fr.2 _ hin; omega
    have RES:=Lib.hid (Ty.rep.setCell (T:=pStrokes 128 124) ALL.out.1.rep (p:=⟨w.heap.size+1,0,none⟩) hne (.slice U un uc));have BF:=Lib.hid (ALL.out.2.2.setCell (p:=⟨w.heap.size+1,0,none⟩) (by show w.heap.size≤w.heap.size+1; omega) (.slice U un uc));have FRR:=Lib.hid (ALL.out.1.fr.mono (show w.heap.size≤w.heap.size+1+1+1 by omega));clear R1 hne
    go_wp2_with fail
    refine bodyPost_ret (v:=.agg #[.slice U un uc]) (by simp only [results,Tryz.results158]; go_simp) rfl ?_;exact ⟨_,rfl,G,by rw [← List.take_length (l:=xs)]; exact RES.out,FRR.out,BF.out⟩
def encH:Option Int→Int
 | none=>1099511627776
 | some x=>x
theorem encH_min {x:Option Int} {y:Int} (h:y≤1099511627776):min (encH x) y=encH (minO x (some y)):=by
 cases x with
 | none=>show min 1099511627776 y=y; omega
 | some x=>rfl
def rowH (f:Nat→Option Int) (N:Nat):List Value:=(List.range N).map fun v=>.int .i64 (encH (f v))
theorem rowH_len (f:Nat→Option Int) (N:Nat):(rowH f N).length=N:=by simp [rowH]
theorem rowH_get (f:Nat→Option Int) {N v:Nat} (h:v < N):(rowH f N)[v]?=some (.int .i64 (encH (f v))):=by
 rw [rowH,List.getElem?_map,List.getElem?_range h]; rfl
theorem rowH_congr {f g:Nat→Option Int} {N:Nat} (h:∀ v,v < N→f v=g v):rowH f N=rowH g N:=by
 unfold rowH;exact List.map_congr_left fun v hv=>by rw [h v (List.mem_range.1 hv)]
theorem rowH_set {f g:Nat→Option Int} {N v:Nat} {x:Option Int} (hx:g v=x) (h:∀ u,u≠v→g u=f u):(rowH f N).set v (.int .i64 (encH x))=rowH g N:=by
 apply List.ext_getElem?;intro i;rw [List.getElem?_set,rowH_len]
 by_cases hi:v=i
 · subst hi
   rw [if_pos rfl]
   split
   · rename_i hlt; rw [rowH_get g hlt,hx]
   · rename_i hlt; rw [List.getElem?_eq_none (by rw [rowH_len]; omega)]
 · rw [if_neg hi]
   by_cases hlt:i < N
   · rw [rowH_get f hlt,rowH_get g hlt,h i (fun e=>hi e.symm)]
   · rw [List.getElem?_eq_none (by rw [rowH_len]; omega),List.getElem?_eq_none (by rw [rowH_len]; omega)]
theorem rowH_none (N:Nat):List.replicate N (Value.int .i64 1099511627776)=rowH (fun _=>none) N:=by
 apply List.ext_getElem?;intro i;rw [List.getElem?_replicate]
 by_cases h:i < N
 · rw [if_pos h,rowH_get _ h]; rfl
 · rw [if_neg h,List.getElem?_eq_none (by rw [rowH_len]; omega)]
section
variable {es:List LEdge} {tx:Nat→ByteArray}
def upK (es:List LEdge) (tx:Nat→ByteArray) (j k v:Nat):Option Int:=upE es tx (es.take j) k v
theorem upK_zero (k v:Nat):upK es tx 0 k v=none:=rfl
theorem upK_all (k v:Nat):upK es tx es.length k v=lcE es tx (k+1) v:=by rw [upK,List.take_length,lcE_up]
theorem upK_succ {j:Nat} (h:j < es.length) (k v:Nat):upK es tx (j+1) k v=if es[j].dst=v∧es[j].lab=tx k then minO (upK es tx j k v) ((lcE es tx k es[j].src).map (·+es[j].cost)) else upK es tx j k v:=by
 rw [upK,List.take_succ_eq_append_getElem h,upE_snoc]; rfl
def onK (es:List LEdge) (tx:Nat→ByteArray) (j k:Nat):Bool:=(es.take j).any fun e=>decide (e.lab=tx k) && (lcE es tx k e.src).isSome
theorem onK_succ {j:Nat} (h:j < es.length) (k:Nat):onK es tx (j+1) k=(onK es tx j k || (decide (es[j].lab=tx k) && (lcE es tx k es[j].src).isSome)):=by
 rw [onK,List.take_succ_eq_append_getElem h,List.any_append,← onK]; simp
theorem onK_dead {k n:Nat} (h:onK es tx es.length k=false) (hk:k < n) (v:Nat):lcE es tx n v=none:=by
 refine lcE_dead es tx (fun e he hl=>?_) n hk v;rw [onK,List.take_length,List.any_eq_false] at h;have:=h e he;simp only [hl,decide_true,Bool.true_and] at this;cases hc:lcE es tx k e.src with
 | none=>rfl
 | some x=>rw [hc] at this; simp at this
end
theorem impl_textCost_c {o:Bool} {ee:TypeId} {es:List LEdge} {t:ByteArray} {N:Nat} {v:Value} {F:List Nat} (w:World) (h:(pEdge.slice ee).rep o w es [v] F) (hN:1≤N∧N≤1000) (ht:t.size≤1000) (hd:∀ e∈es,e.src < N∧e.dst < N∧0≤e.cost∧e.cost≤100000) :
 Calls Tryz.prog 146 #[.agg #[.int .i64 (N:Nat),v],.string t] w fun e w'=>e=.returned (.int .i64 (encH (lcE es (letterAt t) t.size (N - 1))))∧Below w.heap.size w w':=by
 obtain ⟨A,c,rfl,hc1,hc2,-⟩:=pEdges_open h;have hlen:es.length≤9223372036854775807:=by unfold maxLen at hc2; omega
 have H:=Lib.hid h;have HD:=Lib.hid hd;have HCS:=Lib.hid (fun k v x (h:lcE es (letterAt t) k v=some x)=>lcE_small es (letterAt t) (fun e he=>(HD.out e he).2.2) k v x h);have mk:=fun w=>make_run (P:=Tryz.prog) (t:=265) (e:=2) rfl infoZ N (N:Int) rfl (by omega) (by unfold maxLen; omega) w
 have R0:=Row.new w 133 #[.int .i64 (N:Nat),.slice A es.length c];have b0:Below w.heap.size w (w.alloc (.cells #[.int .i64 (N:Nat),.slice A es.length c] 133)):=(Below.refl _ _).alloc (Nat.le_refl _) _;clear h hd
 go_enter Tryz.func146,Tryz.ntmps146
 go_upto_region 1 with fail
 generalize w.alloc (.cells #[.int .i64 (N:Nat),.slice A es.length c] 133)=w0 at R0 b0 ⊢;have HX:=Lib.hid (fun (w':World) (b:Below w0.heap.size w0 w')=>show w'.cell? ⟨w.heap.size,0,none⟩=some (.int .i64 (N:Nat))∧w'.cell? ⟨w.heap.size,1,none⟩=some (.slice A es.length c) from ⟨(R0.later b).c0,(R0.later b).c1⟩);have B0:=Lib.hid b0;have H0:=Lib.hid (H.out.below b0);have x0:=R0.c0;clear R0 b0
 go_upto_region 2 with fail
 have R1:=row_zeros w0 N;have b1:Below w0.heap.size w0 (w0.alloc (.cells (madeCells #[.int .i64 0] (N * int64.size)) 2)):=(Below.refl _ _).alloc (Nat.le_refl _) _;generalize hg:w0.alloc (.cells (madeCells #[.int .i64 0] (N * int64.size)) 2)=w1 at R1 b1 ⊢;clear hg;have HR1:=Lib.hid R1;have B1:=Lib.hid b1;clear R1 b1 x0
 go_wp2_with fail
 go_loopw [18] (fun i wr=>∃ (k:Nat),i=.int .i64 k∧k≤N∧Hid (Row wr w0.heap.size 2 (List.replicate k (.int .i64 1099511627776)++List.replicate (N - k) (.int .i64 0))∧Below w0.heap.size w0 wr)) (fun i _=>N - (intOf i).toNat)
 case atStart=>exact ⟨0,rfl,by omega,Lib.hid ⟨by simpa using HR1.out,B1.out⟩⟩
 case round =>
  obtain ⟨k,rfl,hk,all⟩:=hrel;have ALL:=Lib.hid all.out;clear all
  by_cases hlt:k < N
  · have gk:(k:Int) < (N:Int):=by omega
    have gk0:(0:Int)≤(k:Int):=by omega
    have kw:=IntWalk.i64_in ((k:Int)+1) (by omega);obtain ⟨u0,hu0⟩:=(ALL.out.1.canJ (i:=k) (j:=0) (by simp) (by simp; omega)).1;have vF:=ALL.out.1.frozen;have RP:=Lib.hid (ALL.out.1.put (i:=k) (j:=0) (by simp) (.int .i64 1099511627776))
    have HN1:=Lib.hid (show List.replicate k (Value.int .i64 1099511627776)++(List.replicate (N - k) (Value.int .i64 0)).set 0 (.int .i64 1099511627776)=List.replicate (k+1) (.int .i64 1099511627776)++List.replicate (N - (k+1)) (.int .i64 0) by
     rw [show N - k=(N - (k+1))+1 by omega,List.replicate_succ,List.set_cons_zero,List.replicate_succ',List.append_assoc]; rfl)
    have BF:=Lib.hid (ALL.out.2.setCell (p:=⟨w0.heap.size,k,none⟩) (Nat.le_refl _) (.int .i64 1099511627776))
    go_wp2_with fail
    exact ⟨⟨k+1,by go_num,by omega,Lib.hid ⟨by rw [← HN1.out]; exact RP.out,BF.out⟩⟩,by simp [intOf]; omega⟩
  · obtain rfl:N=k:=by omega
    have gk:¬ (N:Int) < (N:Int):=by omega
    have R2:=ALL.out.1;rw [Nat.sub_self,List.replicate_zero,List.append_nil,rowH_none] at R2;have R3:=R2.set 0 (.int .i64 0);rw [show (Value.int .i64 0)=.int .i64 (encH (some 0)) from rfl,rowH_set (g:=lcE es (letterAt t) 0) (by rw [lcE]; rfl) (fun u hu=>by rw [lcE,if_neg hu])] at R3;have HR3:=Lib.hid R3;have B3:=Lib.hid (ALL.out.2.setCell (p:=⟨w0.heap.size,0,none⟩) (Nat.le_refl _) (.int .i64 (encH (some 0))));obtain ⟨u0,hu0⟩:=(R2.can (i:=0) (by rw [rowH_len]; omega)).1;have vF:=R2.frozen;have gm:(0:Int) < (N:Int):=by omega
    clear R2 R3
    go_upto_region 8 with fail
    change Code.wp _ _ _ _ (wr.setCell ⟨w0.heap.size,0,none⟩ (.int .i64 (encH (some 0))))
    generalize wr.setCell ⟨w0.heap.size,0,none⟩ (.int .i64 (encH (some 0)))=wa at HR3 B3 ⊢;clear hu0 vF ALL HR1 B1
    go_wp2_with fail
    go_loopw [5,29] (fun s i wr=>∃ (k g:Nat),s=.slice (some ⟨g,0,none⟩) N N∧i=.int .i64 k∧k≤t.size∧Hid (Row wr g 2 (rowH (lcE es (letterAt t) k) N)∧Below w0.heap.size w0 wr)) (fun _ i _=>t.size - (intOf i).toNat)
    case atStart=>exact ⟨0,_,rfl,rfl,by omega,Lib.hid ⟨HR3.out,B3.out⟩⟩
    case round =>
     obtain ⟨k,g,rfl,rfl,hk,all⟩:=hrel;have ALL:=Lib.hid all.out;clear all HR3 B3;have x0:=(HX.out wr ALL.out.2).1
     by_cases hlt:k < t.size
     · have gk:(k:Int) < (t.size:Int):=by omega
       have gk0:(0:Int)≤(k:Int):=by omega
       obtain ⟨k1,hk1⟩:∃ x:Nat,x=k+1:=⟨_,rfl⟩
       have kw:IntKind.i64.wrap ((k:Int)+1)=(k1:Int):=(IntWalk.i64_in _ (by omega)).trans (by omega);have gk1:(k:Int)≤(k1:Int):=by omega
       have gk2:(k1:Int)≤(t.size:Int):=by omega
       have HK1:=Lib.hid hk1;have HLT:=Lib.hid (show letterAt t k=t.extract k k1 by rw [hk1]; rfl);clear hk1;obtain ⟨wk,hwk⟩:∃ x,x=wr:=⟨_,rfl⟩
       subst hwk
       go_upto_region 12 with fail
       have R5:=row_zeros wk N;have b5:Below wk.heap.size wk (wk.alloc (.cells (madeCells #[.int .i64 0] (N * int64.size)) 2)):=(Below.refl _ _).alloc (Nat.le_refl _) _;generalize hg:wk.alloc (.cells (madeCells #[.int .i64 0] (N * int64.size)) 2)=w5 at R5 b5 ⊢;clear hg;have HR5:=Lib.hid R5;have B5:=Lib.hid b5;clear R5 b5 x0
       go_wp2_with fail
       go_loopw [37] (fun i wr=>∃ (k:Nat),i=.int .i64 k∧k≤N∧Hid (Row wr wk.heap.size 2 (List.replicate k (.int .i64 1099511627776)++List.replicate (N - k) (.int .i64 0))∧Below wk.heap.size wk wr)) (fun i _=>N - (intOf i).toNat)
       case atStart=>exact ⟨0,rfl,by omega,Lib.hid ⟨by simpa using HR5.out,B5.out⟩⟩
       case round =>
        obtain ⟨m,rfl,hm,all⟩:=hrel;have ALL6:=Lib.hid all.out;clear all
        by_cases hml:m < N
        · have gm2:(m:Int) < (N:Int):=by omega
          have gm0:(0:Int)≤(m:Int):=by omega
          have mw:=IntWalk.i64_in ((m:Int)+1) (by omega);obtain ⟨u0,hu0⟩:=(ALL6.out.1.canJ (i:=m) (j:=0) (by simp) (by simp; omega)).1;have vF:=ALL6.out.1.frozen;have RP:=Lib.hid (ALL6.out.1.put (i:=m) (j:=0) (by simp) (.int .i64 1099511627776))
          have HN1:=Lib.hid (show List.replicate m (Value.int .i64 1099511627776)++(List.replicate (N - m) (Value.int .i64 0)).set 0 (.int .i64 1099511627776)=List.replicate (m+1) (.int .i64 1099511627776)++List.replicate (N - (m+1)) (.int .i64 0) by
           rw [show N - m=(N - (m+1))+1 by omega,List.replicate_succ,List.set_cons_zero,List.replicate_succ',List.append_assoc]; rfl)
          have BF:=Lib.hid (ALL6.out.2.setCell (p:=⟨wk.heap.size,m,none⟩) (Nat.le_refl _) (.int .i64 1099511627776))
          go_wp2_with fail
          exact ⟨⟨m+1,by go_num,by omega,Lib.hid ⟨by rw [← HN1.out]; exact RP.out,BF.out⟩⟩,by simp [intOf]; omega⟩
        · obtain rfl:N=m:=by omega
          have gm2:¬ (N:Int) < (N:Int):=by omega
          have R6:=ALL6.out.1;rw [Nat.sub_self,List.replicate_zero,List.append_nil,rowH_none] at R6
          have HR6:=Lib.hid (show Row wr wk.heap.size 2 (rowH (upK es (letterAt t) 0 k) N) from by
           rw [rowH_congr (g:=fun _=>none) (fun v _=>upK_zero k v)]; exact R6)
          clear R6 HR5 B5;have x1:=(HX.out wr (ALL.out.2.trans (ALL6.out.2.mono ALL.out.2.size))).2;have HON0:=Lib.hid (show onK es (letterAt t) 0 k=false from rfl)
          go_wp2_with fail
          clear x1
          go_loopw [10,47] (fun b i wx=>∃ (j:Nat),b=.bool (onK es (letterAt t) j k)∧i=.int .i64 j∧j≤es.length∧Hid (Row wx wk.heap.size 2 (rowH (upK es (letterAt t) j k) N)∧Below wk.heap.size wk wx)) (fun _ i _=>es.length - (intOf i).toNat)
          case atStart=>exact ⟨0,rfl,rfl,by omega,Lib.hid ⟨HR6.out,ALL6.out.2⟩⟩
          case round =>
           clear ALL6 HR6 HON0;obtain ⟨j,rfl,rfl,hj,all⟩:=hrel;obtain ⟨wx,hwx⟩:∃ x,x=wr:=⟨_,rfl⟩
           subst hwx;have ALL7:=Lib.hid all.out;clear all
           by_cases hjl:j < es.length
           · have gj:(j:Int) < (es.length:Int):=by omega
             have gj0:(0:Int)≤(j:Int):=by omega
             have jw:=IntWalk.i64_in ((j:Int)+1) (by omega);have BX:=Lib.hid (ALL.out.2.trans (ALL7.out.2.mono ALL.out.2.size));obtain ⟨A',c',he,-,-,hr⟩:=pEdges_open (H0.out.below BX.out);cases he;obtain ⟨be,oe,rfl,hbe,-,p0,p1,p2,p3,-⟩:=hr j hjl;have hde:=HD.out _ (List.getElem_mem hjl);have HUS:=Lib.hid (fun v=>upK_succ (tx:=letterAt t) hjl k v);have HOS:=Lib.hid (onK_succ (tx:=letterAt t) hjl k);generalize es[j]=e at p0 p1 p2 p3 hde HUS HOS;have RE:=Row.new wx 206 #[.int .i64 (e.src:Nat),.int .i64 (e.dst:Nat),.string e.lab,.int .i64 e.cost];have b6:Below wx.heap.size wx (wx.alloc (.cells #[.int .i64 (e.src:Nat),.int .i64 (e.dst:Nat),.string e.lab,.int .i64 e.cost] 206)):=(Below.refl _ _).alloc (Nat.le_refl _) _;have hce:=(ALL.out.1.later (ALL7.out.2.trans (b6.mono ALL7.out.2.size))).cell' (i:=e.src) (rowH_get _ hde.1);have HNX:=Lib.hid (ALL7.out.1.later b6);have BW6:=Lib.hid (ALL7.out.2.trans (b6.mono ALL7.out.2.size));have hwx2:wk.heap.size < wx.heap.size:=ALL7.out.1.lt;clear hr ALL7
             go_upto_region 21 with fail
             generalize wx.alloc (.cells #[.int .i64 (e.src:Nat),.int .i64 (e.dst:Nat),.string e.lab,.int .i64 e.cost] 206)=w6 at RE hce HNX BW6 ⊢;have HRE:=Lib.hid RE;have f0:=RE.c0;have f2:=RE.c2;have gs0:(0:Int)≤(e.src:Int):=by omega
             have gs1:(e.src:Int) < (N:Int):=by omega
             have gd0:(0:Int)≤(e.dst:Int):=by omega
             have gd1:(e.dst:Int) < (N:Int):=by omega
             clear p0 p1 p2 p3 hbe RE b6
             have HST:=Lib.hid (fun (h:¬ (e.lab=letterAt t k)∨lcE es (letterAt t) k e.src=none)=>(show rowH (upK es (letterAt t) j k) N=rowH (upK es (letterAt t) (j+1) k) N∧onK es (letterAt t) (j+1) k=onK es (letterAt t) j k from by
              constructor
              · refine rowH_congr fun v _=>?_
                rw [HUS.out v]
                split
                · rename_i h2
                  rcases h with h3 | h3
                  · exact absurd h2.2 h3
                  · rw [h3]; exact (minO_none _).symm
                · rfl
              · rw [HOS.out]
                rcases h with h3 | h3
                · simp [h3]
                · simp [h3]))
             by_cases hlab:e.lab=letterAt t k
             · have ht1:=(str_eqB (a:=e.lab) (b:=t.extract k k1) (by rw [hlab,HLT.out])).1
               have ht2:=(str_eqB (a:=e.lab) (b:=t.extract k k1) (by rw [hlab,HLT.out])).2;cases hlc:lcE es (letterAt t) k e.src with
               | none =>
                 rw [hlc] at hce;replace hce:w6.cell? ⟨g,e.src,none⟩=some (.int .i64 1099511627776):=hce;have g7:decide ((1099511627776:Int) < 1099511627776)=false:=rfl;have HQ:=Lib.hid (HST.out (.inr hlc));clear hlab
                 go_quiet (fail)
                 have RQ:=Lib.hid (HNX.out.drewN nq);have BQ:=Lib.hid (below_drewN BW6.out nq)
                 go_wp2_with fail
                 exact ⟨⟨j+1,by rw [HQ.out.2],by go_num,by omega,Lib.hid ⟨by rw [← HQ.out.1]; exact RQ.out,BQ.out⟩⟩,by simp [intOf]; omega⟩
               | some cv =>
                 rw [hlc] at hce;replace hce:w6.cell? ⟨g,e.src,none⟩=some (.int .i64 cv):=hce;have hcv:=HCS.out k e.src cv hlc;have hkb:(k:Int) * 100000≤100000000:=by omega
                 have g7:decide (cv < 1099511627776)=true:=decide_eq_true (by omega);have zs:=IntWalk.i64_in (cv+e.cost) (by omega);have HMN:=Lib.hid (encH_min (x:=upK es (letterAt t) j k e.dst) (y:=cv+e.cost) (by omega))
                 have HSET:=Lib.hid (show (rowH (upK es (letterAt t) j k) N).set e.dst (.int .i64 (encH (minO (upK es (letterAt t) j k e.dst) (some (cv+e.cost)))))=rowH (upK es (letterAt t) (j+1) k) N from
                  rowH_set (by rw [HUS.out,if_pos ⟨rfl,hlab⟩,hlc]; rfl) (fun u hu=>by rw [HUS.out,if_neg (fun h=>hu h.1.symm)]))
                 have HON:=Lib.hid (show onK es (letterAt t) (j+1) k=true by rw [HOS.out,hlc,hlab]; simp);clear hlab
                 go_quiet (fail)
                 obtain ⟨m9,rfl⟩:∃ n:Nat,n=nq:=⟨_,rfl⟩
                 replace HNX:=Lib.hid (HNX.out.drewN m9);replace BW6:=Lib.hid (below_drewN BW6.out m9);replace HRE:=Lib.hid (HRE.out.drewN m9);replace hce:(w6.drewN m9).cell? ⟨g,e.src,none⟩=some (.int .i64 cv):=hce;clear f0 f2;generalize World.drewN w6 m9=w7 at HNX BW6 HRE hce ⊢
                 go_upto_region 22 with fail
                 have hS:(fun w':World=>w'.cell? ⟨wx.heap.size,0,none⟩=some (.int .i64 (e.src:Nat))∧w'.cell? ⟨wx.heap.size,1,none⟩=some (.int .i64 (e.dst:Nat))∧w'.cell? ⟨wx.heap.size,3,none⟩=some (.int .i64 e.cost)∧w'.cell? ⟨g,e.src,none⟩=some (.int .i64 cv)) w7.drew:=⟨HRE.out.drew.c0,HRE.out.drew.c1,HRE.out.drew.c3,hce⟩
                 have hgl:g < wk.heap.size:=ALL.out.1.lt;refine wp_region_held_drew (S:=(fun w':World=>w'.cell? ⟨wx.heap.size,0,none⟩=some (.int .i64 (e.src:Nat))∧w'.cell? ⟨wx.heap.size,1,none⟩=some (.int .i64 (e.dst:Nat))∧w'.cell? ⟨wx.heap.size,3,none⟩=some (.int .i64 e.cost)∧w'.cell? ⟨g,e.src,none⟩=some (.int .i64 cv))) (by kernel_rfl) hS (fun _=>?_);replace HNX:=Lib.hid HNX.out.drew;replace BW6:=Lib.hid BW6.out.drew;replace HRE:=Lib.hid HRE.out.drew;clear hce;generalize w7.drew=we at HNX BW6 HRE hS ⊢;refine tJ 0 hS ?_;refine tJ 1 hS ?_;refine tJ 2 hS ?_;refine tJ 3 hS ?_;refine tJ 4 hS ?_;refine tJ 5 hS ?_;refine tJ 6 hS ?_;refine tJ 8 hS ?_;refine tJ 9 hS ?_;refine tJ 10 hS ?_;refine tJ 11 hS ?_;refine tJ 12 hS ?_;refine tJ 13 hS ?_;refine tJ 14 hS ?_;refine tJ 15 hS ?_;have hcn:=HNX.out.cell' (i:=e.dst) (rowH_get _ hde.2.1);have hcF:=HNX.out.frozen;refine rJ 7 fun K hK=>?_
                 go_simp
                 refine bJ hK hS ?_;clear hK K;refine tJ 16 hS ?_;refine tJ 17 hS ?_;rw [HMN.out];have hne1:wx.heap.size≠wk.heap.size:=by omega
                 have hne2:g≠wk.heap.size:=by omega
                 have RN:=Lib.hid (HNX.out.set e.dst (.int .i64 (encH (minO (upK es (letterAt t) j k e.dst) (some (cv+e.cost))))));have RE2:=HRE.out.far (p:=⟨wk.heap.size,e.dst,none⟩) hne1 (.int .i64 (encH (minO (upK es (letterAt t) j k e.dst) (some (cv+e.cost)))));have BF:=Lib.hid (BW6.out.setCell (p:=⟨wk.heap.size,e.dst,none⟩) (Nat.le_refl _) (.int .i64 (encH (minO (upK es (letterAt t) j k e.dst) (some (cv+e.cost))))));have hcg:=((BW6.out.setCell (p:=⟨wk.heap.size,e.dst,none⟩) (Nat.le_refl _) (.int .i64 (encH (minO (upK es (letterAt t) j k e.dst) (some (cv+e.cost)))))).cell (p:=⟨g,e.src,none⟩) hgl).trans ((BW6.out.cell (p:=⟨g,e.src,none⟩) hgl).symm.trans hS.2.2.2);refine rJ 18 fun K hK=>?_
                 go_simp
                 replace hS:=(show (fun w':World=>w'.cell? ⟨wx.heap.size,0,none⟩=some (.int .i64 (e.src:Nat))∧w'.cell? ⟨wx.heap.size,1,none⟩=some (.int .i64 (e.dst:Nat))∧w'.cell? ⟨wx.heap.size,3,none⟩=some (.int .i64 e.cost)∧w'.cell? ⟨g,e.src,none⟩=some (.int .i64 cv)) _ from ⟨RE2.c0,RE2.c1,RE2.c3,hcg⟩)
                 refine bJ hK hS ?_;clear hK K hS hcn hcF RE2 hcg;refine wpAnyH_done (by kernel_rfl) ?_ _
                 go_wp2_with fail
                 exact ⟨⟨j+1,by rw [HON.out],by go_num,by omega,Lib.hid ⟨by rw [← HSET.out]; exact RN.out,BF.out⟩⟩,by simp [intOf]; omega⟩
             · have ht1:=(str_neB (a:=e.lab) (b:=t.extract k k1) (fun h=>hlab (by rw [HLT.out,h]))).1
               have ht2:=(str_neB (a:=e.lab) (b:=t.extract k k1) (fun h=>hlab (by rw [HLT.out,h]))).2;have HQ:=Lib.hid (HST.out (.inl hlab));clear hlab
               go_quiet (fail)
               have RQ:=Lib.hid (HNX.out.drewN nq);have BQ:=Lib.hid (below_drewN BW6.out nq)
               go_wp2_with fail
               exact ⟨⟨j+1,by rw [HQ.out.2],by go_num,by omega,Lib.hid ⟨by rw [← HQ.out.1]; exact RQ.out,BQ.out⟩⟩,by simp [intOf]; omega⟩
           · obtain rfl:j=es.length:=by omega
             have gj:¬ (es.length:Int) < (es.length:Int):=by omega
             have HBF:=Lib.hid (ALL.out.2.trans (ALL7.out.2.mono ALL.out.2.size));cases hon:onK es (letterAt t) es.length k with
             | false =>
               have HDEAD:=Lib.hid (onK_dead hon hlt (N - 1));clear hon
               go_wp2_with fail
               go_ret;exact ⟨by rw [HDEAD.out]; rfl,B0.out.trans (HBF.out.mono B0.out.size)⟩
             | true =>
               have HROW:=Lib.hid (show Row wx wk.heap.size 2 (rowH (lcE es (letterAt t) (k+1)) N) from by
                rw [rowH_congr (g:=upK es (letterAt t) es.length k) (fun v _=>(upK_all k v).symm)]; exact ALL7.out.1)
               go_wp2_with fail
               have hk1':=HK1.out;exact ⟨⟨k+1,_,rfl,by rw [HK1.out],by omega,Lib.hid ⟨HROW.out,HBF.out⟩⟩,by simp [intOf]; omega⟩
     · obtain rfl:k=t.size:=by omega
       have gk:¬ (t.size:Int) < (t.size:Int):=by omega
       obtain ⟨x9,hx9⟩:∃ x:Nat,x=N - 1:=⟨_,rfl⟩
       have z9:IntKind.i64.wrap ((N:Int) - 1)=(x9:Int):=(IntWalk.i64_in _ (by omega)).trans (by omega);have gx0:(0:Int)≤(x9:Int):=by omega
       have gx1:(x9:Int) < (N:Int):=by omega
       have hcell:=ALL.out.1.cell' (i:=x9) (rowH_get _ (by omega));have HBF:=Lib.hid (B0.out.trans (ALL.out.2.mono B0.out.size));have HX9:=Lib.hid hx9;clear hx9
       go_wp2_with fail
       go_ret;exact ⟨by rw [HX9.out]; rfl,HBF.out⟩
end Go.Proofs.YtalmeogjhmblhaaGreat

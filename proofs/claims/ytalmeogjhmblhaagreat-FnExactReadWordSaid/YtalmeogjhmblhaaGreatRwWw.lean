/- The box of ink. Conditions: none. -/
import Derived.Test.YtalmeogjhmblhaaGreatTkw
import Derived.Test.YtalmeogjhmblhaaGreatRwLw
import Derived.Deep.Cut
import Derived.Deep.CutRange
namespace Go.Proofs.YtalmeogjhmblhaaGreat
open Go Go.RowKit
set_option maxHeartbeats 8000000
set_option maxRecDepth 100000
def boxAllK (xs:List PStroke) (k:Nat):BoxZ:=(xs.take k).foldl (fun b s=>joinZ b (boxOfZ s)) (boxOfZ (strk xs 0))
theorem boxAllK_all (xs:List PStroke):boxAllK xs xs.length=boxAllZ xs:=by rw [boxAllK,List.take_length]; rfl
theorem boxAllK_one {xs:List PStroke} (h:1≤xs.length):boxAllK xs 1=boxOfZ (strk xs 0):=by
 cases xs with
 | nil=>simp at h
 | cons p r=>exact joinZ_self _
theorem boxAllK_succ {xs:List PStroke} {k:Nat} (h:k < xs.length):boxAllK xs (k+1)=joinZ (boxAllK xs k) (boxOfZ xs[k]):=by
 rw [boxAllK,boxAllK,List.take_succ_eq_append_getElem h,List.foldl_append];rfl
section
variable {w w0:World} {g g' o B:Nat} {e:TypeId} {cs:List Value} {a b c d:Value}
theorem Row.set4 (h:Row w g e [a,b,c,d]) (p q r s:Value):Row ((((w.setCell ⟨g,0,none⟩ p).setCell ⟨g,1,none⟩ q).setCell ⟨g,2,none⟩ r).setCell ⟨g,3,none⟩ s) g e [p,q,r,s]:=(((h.set 0 p).set 1 q).set 2 r).set 3 s
theorem Row.far4 (h:Row w g' e cs) (hg:g'≠g) (p q r s:Value):Row ((((w.setCell ⟨g,0,none⟩ p).setCell ⟨g,1,none⟩ q).setCell ⟨g,2,none⟩ r).setCell ⟨g,3,none⟩ s) g' e cs:=(((h.far (p:=⟨g,0,none⟩) hg p).far (p:=⟨g,1,none⟩) hg q).far (p:=⟨g,2,none⟩) hg r).far (p:=⟨g,3,none⟩) hg s
theorem below_set4 (h:Below B w0 w) (hg:B≤g) (p q r s:Value):Below B w0 ((((w.setCell ⟨g,0,none⟩ p).setCell ⟨g,1,none⟩ q).setCell ⟨g,2,none⟩ r).setCell ⟨g,3,none⟩ s):=(((h.setCell (p:=⟨g,0,none⟩) hg p).setCell (p:=⟨g,1,none⟩) hg q).setCell (p:=⟨g,2,none⟩) hg r).setCell (p:=⟨g,3,none⟩) hg s
theorem cell_far4 (hg:g'≠g) (p q r s:Value):((((w.setCell ⟨g,0,none⟩ p).setCell ⟨g,1,none⟩ q).setCell ⟨g,2,none⟩ r).setCell ⟨g,3,none⟩ s).cell? ⟨g',o,none⟩=w.cell? ⟨g',o,none⟩:=by
 refine World.cell?_of_block ?_;rw [Below.heap_setCell _ ⟨g,3,none⟩ _ _ hg,Below.heap_setCell _ ⟨g,2,none⟩ _ _ hg,Below.heap_setCell _ ⟨g,1,none⟩ _ _ hg,Below.heap_setCell _ ⟨g,0,none⟩ _ _ hg]
end
theorem strokeB_both {s:PStroke} (h:strokeB s=true):1≤s.length∧s.length≤60:=by
 simp only [strokeB,Bool.and_eq_true,decide_eq_true_eq] at h;exact h.2
theorem impl_boxOfInk_c {ob:Bool} {pe e:TypeId} {xs:List PStroke} {v:Value} {F:List Nat} (w:World) (h:(pStrokes pe e).rep ob w xs [v] F) (hs:∀ s∈xs,strokeB s=true) (h1:1≤xs.length) :
 Calls Tryz.prog 225 #[.agg #[v]] w fun e w'=>e=.returned (boxVZ (boxAllZ xs))∧Below w.heap.size w w':=by
 obtain ⟨A,c,rfl,hc1,hc2,hr⟩:=pStrokes_open h;have CB:=Lib.hid (fun (s:PStroke) (hin:s∈xs) (wr:World) (u:Value) (Fk:List Nat) (r0:(pPoints pe).rep ob wr s [u] Fk)=>have hl:=strokeB_both (hs s hin); impl_boxOfStroke_c wr r0 hl.1 (by omega));have g0:(0:Int) < (xs.length:Int):=by omega
 have hml:xs.length≤9223372036854775807:=by unfold maxLen at hc2; omega
 obtain ⟨bs,os,u0,F0,rfl,hbs,hbF,r0,hF0,c0⟩:=hr 0 h1;have hin0:=List.getElem_mem h1;have HS0:=Lib.hid (strk_get h1);generalize xs[0]=s00 at r0 hin0 HS0;have B0:Below w.heap.size w ((w.alloc (.cells #[.slice (some ⟨bs,os,none⟩) xs.length c] 59)).alloc (.cells #[.int .i64 0,.int .i64 0,.int .i64 0,.int .i64 0] 310)):=((Below.refl _ _).alloc (Nat.le_refl _) _).alloc (by simp) _;have QG:=(Row.new w 59 #[.slice (some ⟨bs,os,none⟩) xs.length c]).alloc (.cells #[.int .i64 0,.int .i64 0,.int .i64 0,.int .i64 0] 310);have QR:=Row.new (w.alloc (.cells #[.slice (some ⟨bs,os,none⟩) xs.length c] 59)) 310 #[.int .i64 0,.int .i64 0,.int .i64 0,.int .i64 0];simp only [World.size_alloc] at QR;have x0:=QG.c0;have s0:=(B0.cell (p:=⟨bs,os+0,none⟩) hbs).trans c0;obtain ⟨A0,n0,k0,rfl⟩:=slice_form r0;have C0:=Lib.hid (CB.out s00 hin0 ((w.alloc (.cells #[.slice (some ⟨bs,os,none⟩) xs.length c] 59)).alloc (.cells #[.int .i64 0,.int .i64 0,.int .i64 0,.int .i64 0] 310)) _ F0 (r0.below B0));have H:=Lib.hid h;have ST:=Lib.hid (And.intro QR B0);have H1:=Lib.hid h1;simp only [Nat.add_zero] at s0;clear hr r0 hF0 c0 QR B0 h h1 hs QG
 go_enter Tryz.func225,Tryz.ntmps225
 go_wp2_with fail
 refine C0.out.mono ?_;rintro e w1 ⟨rfl,b1⟩;unfold boxVZ;have R1:=ST.out.1.later b1;have B1:=ST.out.2.trans (b1.mono ST.out.2.size);have hz1:w.heap.size+1 < w1.heap.size:=R1.lt;have x0:=(b1.cell (p:=⟨w.heap.size,0,none⟩) (by simp only [World.size_alloc]; omega)).trans x0;have hz0:w.heap.size < w1.heap.size:=by omega
 have bx0:boxAllK xs 0=boxOfZ s00:=by show boxOfZ (strk xs 0)=_; rw [HS0.out]
 generalize boxOfZ s00=nb at bx0 ⊢;have S1:=R1.alloc (.cells #[.int .i64 nb.x1,.int .i64 nb.y1,.int .i64 nb.x2,.int .i64 nb.y2] 310);have SX:=Row.new w1 310 #[.int .i64 nb.x1,.int .i64 nb.y1,.int .i64 nb.x2,.int .i64 nb.y2];have SB:=B1.alloc B1.size (.cells #[.int .i64 nb.x1,.int .i64 nb.y1,.int .i64 nb.x2,.int .i64 nb.y2] 310);have BX0:=Lib.hid bx0;have SZ:=Lib.hid (And.intro S1 (And.intro SX SB));clear b1 C0 ST R1 B1 bx0 S1 SX SB s0
 go_wp2_with fail
 clear x0
 go_loopw [14] (fun i wr=>∃ k:Nat,i=.int .i64 k∧k≤xs.length∧Hid (Row wr (w.heap.size+1) 310 [.int .i64 0,.int .i64 0,.int .i64 0,.int .i64 0]∧Row wr w1.heap.size 310 (boxL (boxAllK xs k))∧Below w.heap.size w wr)) (fun i _=>xs.length - (intOf i).toNat)
 case atStart=>exact ⟨0,rfl,Nat.zero_le _,by rw [BX0.out]; exact SZ⟩
 case round =>
  obtain ⟨k,rfl,hk,all⟩:=hrel;obtain ⟨R0,R2,hb⟩:=all.out;have hbs':=R2.lt;clear all SZ;generalize hbk:boxAllK xs k=bk at R2;have y0:=R2.c0;have y1:=R2.c1;have y2:=R2.c2;have y3:=R2.c3
  by_cases hlt:k < xs.length
  · obtain ⟨A',c',he,-,-,hr⟩:=pStrokes_open (H.out.below hb)
    cases he;obtain ⟨bs',os',u1,F1,e8,hbq,hbF1,r1,hF1,c1⟩:=hr k hlt;cases e8;obtain ⟨A1,n1,k1,rfl⟩:=slice_form r1;have gk:(k:Int) < (xs.length:Int):=by omega
    have gk0:(0:Int)≤(k:Int):=by omega
    have kw:=IntWalk.i64_in ((k:Int)+1) (by omega);have HN:=Lib.hid (show boxAllK xs (k+1)=joinZ bk (boxOfZ xs[k]) by rw [boxAllK_succ hlt,hbk]);have HB:=Lib.hid hb;have HR0:=Lib.hid R0;have HR2:=Lib.hid R2;have HR1:=Lib.hid r1;have hin:=List.getElem_mem hlt;have HIN:=Lib.hid hin;clear hr hF1 hb hbk R0 R2 r1 hin
    go_upto_region 5 with fail
    have hal:Below wr.heap.size wr (wr.alloc (.cells #[.slice A1 n1 k1] 124)):=(Below.refl _ _).alloc (Nat.le_refl _) _;have RS:=Row.new wr 124 #[.slice A1 n1 k1];have hw2:wr.heap.size < (wr.alloc (.cells #[.slice A1 n1 k1] 124)).heap.size:=by simp
    replace HB:=Lib.hid (HB.out.trans (hal.mono HB.out.size));replace HR0:=Lib.hid (HR0.out.later hal);replace HR2:=Lib.hid (HR2.out.later hal);replace HR1:=Lib.hid (HR1.out.below hal);have hbs2:=Nat.lt_of_lt_of_le hbs' hal.size;generalize wr.alloc (.cells #[.slice A1 n1 k1] 124)=wq at HB HR0 HR2 HR1 RS hw2 hbs2 ⊢;have c2:=RS.c0;have hS:wq.drew.cell? ⟨wr.heap.size,0,none⟩=some (.slice A1 n1 k1):=c2;clear hal y0 y1 y2 y3 c1 c2;refine wp_region_held_drew (S:=(fun w':World=>w'.cell? ⟨wr.heap.size,0,none⟩=some (.slice A1 n1 k1))) (by kernel_rfl) hS (fun _=>?_);replace HB:=Lib.hid HB.out.drew;replace HR0:=Lib.hid HR0.out.drew;replace HR2:=Lib.hid HR2.out.drew;replace HR1:=Lib.hid HR1.out.drew;replace hw2:wr.heap.size < wq.drew.heap.size:=hw2;replace hbs2:w1.heap.size < wq.drew.heap.size:=hbs2;generalize wq.drew=we at HB HR0 HR2 HR1 hw2 hbs2 hS ⊢;refine tJ 1 hS ?_;refine rJ2 0 2 (fun K hK=>?ga) (fun K hK=>?gb)
    case' ga =>
     have y0:=HR2.out.c0;have y1:=HR2.out.c1;have y2:=HR2.out.c2;have y3:=HR2.out.c3
     go_simp
     refine bJ hK hS ?_;clear hK K y0 y1 y2 y3;refine rJ 2 fun K hK=>?_
     refine step_call 273 #[.tmp 19] _ rfl rfl #[.agg #[.slice A1 n1 k1]] Tryz.call273 (by go_simp) (CB.out xs[k] HIN.out we _ F1 HR1.out) ?_;rintro e w2 ⟨rfl,b2⟩;refine ⟨_,rfl,?_⟩;replace hS:=(b2.cell (p:=⟨wr.heap.size,0,none⟩) hw2).trans hS;replace HB:=Lib.hid (HB.out.trans (b2.mono HB.out.size));replace HR0:=Lib.hid (HR0.out.later b2);replace HR2:=Lib.hid (HR2.out.later b2);replace hw2:=Nat.lt_of_lt_of_le hw2 b2.size;refine bJ hK hS ?_;clear hK K;simp only [Act.put,pA,pB,pC]
    case' gb =>
     refine step_call 273 #[.tmp 19] _ rfl rfl #[.agg #[.slice A1 n1 k1]] Tryz.call273 (by go_simp) (CB.out xs[k] HIN.out we _ F1 HR1.out) ?_;rintro e w2 ⟨rfl,b2⟩;refine ⟨_,rfl,?_⟩;replace hS:=(b2.cell (p:=⟨wr.heap.size,0,none⟩) hw2).trans hS;replace HB:=Lib.hid (HB.out.trans (b2.mono HB.out.size));replace HR0:=Lib.hid (HR0.out.later b2);replace HR2:=Lib.hid (HR2.out.later b2);replace hw2:=Nat.lt_of_lt_of_le hw2 b2.size;refine bJ hK hS ?_;clear hK K;simp only [Act.put,pA,pB,pC];have y0:=HR2.out.c0;have y1:=HR2.out.c1;have y2:=HR2.out.c2;have y3:=HR2.out.c3;refine rJ 0 fun K hK=>?_
     go_simp
     refine bJ hK hS ?_;clear hK K y0 y1 y2 y3
    all_goals (
     unfold boxVZ;refine rJ 3 fun K hK=>?_
     refine step_call 274 #[.tmp 18,.tmp 20] _ rfl rfl #[.agg #[.int .i64 bk.x1,.int .i64 bk.y1,.int .i64 bk.x2,.int .i64 bk.y2],.agg #[.int .i64 (boxOfZ xs[k]).x1,.int .i64 (boxOfZ xs[k]).y1,.int .i64 (boxOfZ xs[k]).x2,.int .i64 (boxOfZ xs[k]).y2]] Tryz.call274 (by go_simp) (impl_joinZ_c bk (boxOfZ xs[k]) w2) ?_;rintro e w3 ⟨rfl,b3⟩;refine ⟨_,rfl,?_⟩;replace hS:=(b3.cell (p:=⟨wr.heap.size,0,none⟩) hw2).trans hS;replace HB:=Lib.hid (HB.out.trans (b3.mono HB.out.size));replace HR0:=Lib.hid (HR0.out.later b3);replace HR2:=Lib.hid (HR2.out.later b3);replace hw2:=Nat.lt_of_lt_of_le hw2 b3.size;refine bJ hK hS ?_;clear hK K;simp only [Act.put,pA,pB,pC];rw [← HN.out];have HNB:=Lib.hid (rfl:boxAllK xs (k+1)=boxAllK xs (k+1));obtain ⟨nb2,hnb2⟩:∃ b,boxAllK xs (k+1)=b:=⟨_,rfl⟩
     rw [hnb2];replace HNB:=Lib.hid hnb2;clear hnb2;unfold boxVZ;have v0:=HR2.out.c0;have v1:=HR2.out.c1;have v2:=HR2.out.c2;have v3:=HR2.out.c3;have vF:=HR2.out.frozen;refine rJ 4 fun K hK=>?_
     go_simp
     replace hS:=(cell_far4 (g':=wr.heap.size) (o:=0) (g:=w1.heap.size) (by omega) (.int .i64 nb2.x1) (.int .i64 nb2.y1) (.int .i64 nb2.x2) (.int .i64 nb2.y2)).trans hS;refine bJ hK hS ?_;refine wpAnyH_done (by kernel_rfl) ?_ _;have T0:=HR0.out.far4 (g:=w1.heap.size) (by omega) (.int .i64 nb2.x1) (.int .i64 nb2.y1) (.int .i64 nb2.x2) (.int .i64 nb2.y2);have T2:=HR2.out.set4 (.int .i64 nb2.x1) (.int .i64 nb2.y1) (.int .i64 nb2.x2) (.int .i64 nb2.y2);have TB:=below_set4 HB.out (g:=w1.heap.size) (by omega) (.int .i64 nb2.x1) (.int .i64 nb2.y1) (.int .i64 nb2.x2) (.int .i64 nb2.y2);clear v0 v1 v2 v3 vF hK K hS
     go_wp2_with fail
     exact ⟨⟨k+1,by go_num,by omega,Lib.hid ⟨T0,(by rw [HNB.out]; exact T2),TB⟩⟩,by simp [intOf]; omega⟩)
  · have hke:k=xs.length:=by omega
    subst hke;rw [boxAllK_all] at hbk;have gk:¬ (xs.length:Int) < (xs.length:Int):=by omega
    have v0:=R0.c0;have v1:=R0.c1;have v2:=R0.c2;have v3:=R0.c3;have vF:=R0.frozen;have T0:=R0.set4 (.int .i64 bk.x1) (.int .i64 bk.y1) (.int .i64 bk.x2) (.int .i64 bk.y2);have TB:=below_set4 hb (g:=(w.heap.size+1)) (by omega) (.int .i64 bk.x1) (.int .i64 bk.y1) (.int .i64 bk.x2) (.int .i64 bk.y2);have e0:=T0.c0;have e1:=T0.c1;have e2:=T0.c2;have e3:=T0.c3;have HBK:=Lib.hid hbk;clear hbk hb H T0
    go_wp2_with fail
    rw [HBK.out];refine bodyPost_ret (v:=boxVZ bk) (by simp only [results,Tryz.results225]; go_simp; rfl) rfl ⟨rfl,TB⟩
theorem spec_l02All_c {ob:Bool} {pe e:TypeId} {xs:List PStroke} {A:Option Addr} {c gB oB:Nat} {F:List Nat} (w:World) (gl:gB < w.heap.size) (hcell:w.cell? ⟨gB,oB,none⟩=some (.slice A xs.length c)) (h:(pStrokes pe e).rep ob w xs [.slice A xs.length c] F) (hs:∀ s∈xs,strokeB s=true) (h1:1≤xs.length) :
 Calls Tryz.prog 216 #[.pointer (some ⟨gB,oB,none⟩)] w fun e w'=>e=.returned (boxVZ (boxAllZ xs))∧Below w.heap.size w w':=by
 obtain ⟨A',c',he,hc1,hc2,hr⟩:=pStrokes_open h;cases he;have CB:=Lib.hid (fun (s:PStroke) (hin:s∈xs) (wr:World) (A:Option Addr) (c g0 o0:Nat) (Fk:List Nat) (gl0:g0 < wr.heap.size) (hc0:wr.cell? ⟨g0,o0,none⟩=some (.slice A s.length c)) (r0:(pPoints pe).rep ob wr s [.slice A s.length c] Fk)=>have hl:=strokeB_both (hs s hin); spec_l02BoxOf_c wr gl0 hc0 r0 hl.1 (by omega));have g0:(0:Int) < (xs.length:Int):=by omega
 have hml:xs.length≤9223372036854775807:=by unfold maxLen at hc2; omega
 obtain ⟨bs,os,u0,F0,rfl,hbs,hbF,r0,hF0,c0⟩:=hr 0 h1;have hin0:=List.getElem_mem h1;have HS0:=Lib.hid (strk_get h1);generalize xs[0]=s00 at r0 hin0 HS0;have B0:Below w.heap.size w (w.alloc (.cells #[.int .i64 0,.int .i64 0,.int .i64 0,.int .i64 0] 310)):=(Below.refl _ _).alloc (Nat.le_refl _) _;have QR:=Row.new w 310 #[.int .i64 0,.int .i64 0,.int .i64 0,.int .i64 0];have x0:=(B0.cell (p:=⟨gB,oB,none⟩) gl).trans hcell;have s0:=(B0.cell (p:=⟨bs,os+0,none⟩) hbs).trans c0;obtain ⟨A0,n0,k0,rfl⟩:=slice_form r0;obtain ⟨A0',k0',he0,-,-,-⟩:=pPoints_open r0;cases he0;have C0:=Lib.hid (CB.out s00 hin0 (w.alloc (.cells #[.int .i64 0,.int .i64 0,.int .i64 0,.int .i64 0] 310)) A0 k0 bs (os+0) F0 (Nat.lt_of_lt_of_le hbs B0.size) s0 (r0.below B0));have H:=Lib.hid h;have ST:=Lib.hid (And.intro QR B0);have H1:=Lib.hid h1;have GL:=Lib.hid gl;have HC:=Lib.hid hcell;simp only [Nat.add_zero] at s0;clear hr r0 hF0 c0 QR B0 h h1 hs gl hcell
 go_enter Tryz.func216,Tryz.ntmps216
 go_wp2_with fail
 refine C0.out.mono ?_;rintro e w1 ⟨rfl,b1⟩;unfold boxVZ;have R1:=ST.out.1.later b1;have B1:=ST.out.2.trans (b1.mono ST.out.2.size);have hz1:w.heap.size+0 < w1.heap.size:=R1.lt;have x0:=(B1.cell (p:=⟨gB,oB,none⟩) GL.out).trans HC.out;have bx0:boxAllK xs 0=boxOfZ s00:=by show boxOfZ (strk xs 0)=_; rw [HS0.out]
 generalize boxOfZ s00=nb at bx0 ⊢;have S1:=R1.alloc (.cells #[.int .i64 nb.x1,.int .i64 nb.y1,.int .i64 nb.x2,.int .i64 nb.y2] 310);have SX:=Row.new w1 310 #[.int .i64 nb.x1,.int .i64 nb.y1,.int .i64 nb.x2,.int .i64 nb.y2];have SB:=B1.alloc B1.size (.cells #[.int .i64 nb.x1,.int .i64 nb.y1,.int .i64 nb.x2,.int .i64 nb.y2] 310);have BX0:=Lib.hid bx0;have SZ:=Lib.hid (And.intro S1 (And.intro SX SB));clear b1 C0 ST R1 B1 bx0 S1 SX SB s0
 go_wp2_with fail
 clear x0
 go_loopw [4] (fun i wr=>∃ k:Nat,i=.int .i64 k∧1≤k∧k≤xs.length∧Hid (Row wr w.heap.size 310 [.int .i64 0,.int .i64 0,.int .i64 0,.int .i64 0]∧Row wr w1.heap.size 310 (boxL (boxAllK xs k))∧Below w.heap.size w wr)) (fun i _=>xs.length - (intOf i).toNat)
 case atStart=>exact ⟨1,rfl,Nat.le_refl _,H1.out,by rw [boxAllK_one H1.out,HS0.out,← show boxAllK xs 0=boxOfZ s00 from (show boxOfZ (strk xs 0)=_ by rw [HS0.out]),BX0.out]; exact SZ⟩
 case round =>
  obtain ⟨k,rfl,hk1,hk,all⟩:=hrel;obtain ⟨R0,R2,hb⟩:=all.out;have hbs':=R2.lt;clear all SZ;generalize hbk:boxAllK xs k=bk at R2;have y0:=R2.c0;have y1:=R2.c1;have y2:=R2.c2;have y3:=R2.c3
  by_cases hlt:k < xs.length
  · obtain ⟨A',c',he,-,-,hr⟩:=pStrokes_open (H.out.below hb)
    cases he;obtain ⟨bs',os',u1,F1,e8,hbq,hbF1,r1,hF1,c1⟩:=hr k hlt;cases e8;obtain ⟨A1,n1,k1,rfl⟩:=slice_form r1;have gk:(k:Int) < (xs.length:Int):=by omega
    have gk0:(0:Int)≤(k:Int):=by omega
    have kw:=IntWalk.i64_in ((k:Int)+1) (by omega);have HN:=Lib.hid (show boxAllK xs (k+1)=joinZ bk (boxOfZ xs[k]) by rw [boxAllK_succ hlt,hbk]);have HB:=Lib.hid hb;have HR0:=Lib.hid R0;have HR2:=Lib.hid R2;have HR1:=Lib.hid r1;have hin:=List.getElem_mem hlt;have HIN:=Lib.hid hin;clear hr hF1 hb hbk R0 R2 r1 hin;have x0:=(HB.out.cell (p:=⟨gB,oB,none⟩) GL.out).trans HC.out;have gB':=Nat.lt_of_lt_of_le GL.out HB.out.size;obtain ⟨A1',k1',he1,-,-,-⟩:=pPoints_open HR1.out;cases he1
    go_upto_region 5 with fail
    have hS:wr.drew.cell? ⟨gB,oB,none⟩=some (.slice (some ⟨bs,os,none⟩) xs.length c):=x0;obtain ⟨wq,hwq⟩:∃ W,W=wr:=⟨_,rfl⟩
    subst hwq;have hbs2:=hbs';have hw2:=gB';clear y0 y1 y2 y3;refine wp_region_held_drew (S:=(fun w':World=>w'.cell? ⟨gB,oB,none⟩=some (.slice (some ⟨bs,os,none⟩) xs.length c))) (by kernel_rfl) hS (fun _=>?_);replace HB:=Lib.hid HB.out.drew;replace HR0:=Lib.hid HR0.out.drew;replace HR2:=Lib.hid HR2.out.drew;replace HR1:=Lib.hid HR1.out.drew;replace hw2:gB < wq.drew.heap.size:=hw2;replace hbs2:w1.heap.size < wq.drew.heap.size:=hbs2;replace hbq:bs < wq.drew.heap.size:=hbq;replace c1:wq.drew.cell? ⟨bs,os+k,none⟩=_:=c1;generalize wq.drew=we at HB HR0 HR2 HR1 hw2 hbs2 hS hbq c1 x0 ⊢;refine tJ 1 hS ?_;refine tJ 2 hS ?_;refine tJ 3 hS ?_;refine tJ 4 hS ?_;refine tJ 5 hS ?_;refine tJ 6 hS ?_;refine rJ2 0 7 (fun K hK=>?ga) (fun K hK=>?gb)
    case' ga =>
     have y0:=HR2.out.c0;have y1:=HR2.out.c1;have y2:=HR2.out.c2;have y3:=HR2.out.c3
     go_simp
     refine bJ hK hS ?_;clear hK K y0 y1 y2 y3;refine rJ 7 fun K hK=>?_
     refine step_call 262 #[.tmp 26] _ rfl rfl #[.pointer (some ⟨bs,os+k,none⟩)] Tryz.call262 (by go_simp) (CB.out xs[k] HIN.out we A1 k1 bs (os+k) F1 hbq c1 HR1.out) ?_;rintro e w2 ⟨rfl,b2⟩;refine ⟨_,rfl,?_⟩;replace hS:=(b2.cell (p:=⟨gB,oB,none⟩) hw2).trans hS;replace HB:=Lib.hid (HB.out.trans (b2.mono HB.out.size));replace HR0:=Lib.hid (HR0.out.later b2);replace HR2:=Lib.hid (HR2.out.later b2);replace hw2:=Nat.lt_of_lt_of_le hw2 b2.size;refine bJ hK hS ?_;clear hK K;simp only [Act.put,pA,pB,pC]
    case' gb =>
     refine step_call 262 #[.tmp 26] _ rfl rfl #[.pointer (some ⟨bs,os+k,none⟩)] Tryz.call262 (by go_simp) (CB.out xs[k] HIN.out we A1 k1 bs (os+k) F1 hbq c1 HR1.out) ?_;rintro e w2 ⟨rfl,b2⟩;refine ⟨_,rfl,?_⟩;replace hS:=(b2.cell (p:=⟨gB,oB,none⟩) hw2).trans hS;replace HB:=Lib.hid (HB.out.trans (b2.mono HB.out.size));replace HR0:=Lib.hid (HR0.out.later b2);replace HR2:=Lib.hid (HR2.out.later b2);replace hw2:=Nat.lt_of_lt_of_le hw2 b2.size;refine bJ hK hS ?_;clear hK K;simp only [Act.put,pA,pB,pC];have y0:=HR2.out.c0;have y1:=HR2.out.c1;have y2:=HR2.out.c2;have y3:=HR2.out.c3;refine rJ 0 fun K hK=>?_
     go_simp
     refine bJ hK hS ?_;clear hK K y0 y1 y2 y3
    all_goals (
     unfold boxVZ;refine rJ 8 fun K hK=>?_
     refine step_call 266 #[.tmp 20,.tmp 27] _ rfl rfl #[.agg #[.int .i64 bk.x1,.int .i64 bk.y1,.int .i64 bk.x2,.int .i64 bk.y2],.agg #[.int .i64 (boxOfZ xs[k]).x1,.int .i64 (boxOfZ xs[k]).y1,.int .i64 (boxOfZ xs[k]).x2,.int .i64 (boxOfZ xs[k]).y2]] Tryz.call266 (by go_simp) (spec_joinZ_c bk (boxOfZ xs[k]) w2) ?_;rintro e w3 ⟨rfl,b3⟩;refine ⟨_,rfl,?_⟩;replace hS:=(b3.cell (p:=⟨gB,oB,none⟩) hw2).trans hS;replace HB:=Lib.hid (HB.out.trans (b3.mono HB.out.size));replace HR0:=Lib.hid (HR0.out.later b3);replace HR2:=Lib.hid (HR2.out.later b3);replace hw2:=Nat.lt_of_lt_of_le hw2 b3.size;refine bJ hK hS ?_;clear hK K;simp only [Act.put,pA,pB,pC];rw [← HN.out];have HNB:=Lib.hid (rfl:boxAllK xs (k+1)=boxAllK xs (k+1));obtain ⟨nb2,hnb2⟩:∃ b,boxAllK xs (k+1)=b:=⟨_,rfl⟩
     rw [hnb2];replace HNB:=Lib.hid hnb2;clear hnb2;unfold boxVZ;have v0:=HR2.out.c0;have v1:=HR2.out.c1;have v2:=HR2.out.c2;have v3:=HR2.out.c3;have vF:=HR2.out.frozen;refine rJ 9 fun K hK=>?_
     go_simp
     replace hS:=(cell_far4 (g':=gB) (o:=oB) (g:=w1.heap.size) (by have:=GL.out; omega) (.int .i64 nb2.x1) (.int .i64 nb2.y1) (.int .i64 nb2.x2) (.int .i64 nb2.y2)).trans hS;refine bJ hK hS ?_;refine wpAnyH_done (by kernel_rfl) ?_ _;have T0:=HR0.out.far4 (g:=w1.heap.size) (by omega) (.int .i64 nb2.x1) (.int .i64 nb2.y1) (.int .i64 nb2.x2) (.int .i64 nb2.y2);have T2:=HR2.out.set4 (.int .i64 nb2.x1) (.int .i64 nb2.y1) (.int .i64 nb2.x2) (.int .i64 nb2.y2);have TB:=below_set4 HB.out (g:=w1.heap.size) (by omega) (.int .i64 nb2.x1) (.int .i64 nb2.y1) (.int .i64 nb2.x2) (.int .i64 nb2.y2);clear v0 v1 v2 v3 vF hK K hS x0
     go_wp2_with fail
     exact ⟨⟨k+1,by go_num,by omega,by omega,Lib.hid ⟨T0,(by rw [HNB.out]; exact T2),TB⟩⟩,by simp [intOf]; omega⟩)
  · have hke:k=xs.length:=by omega
    subst hke;rw [boxAllK_all] at hbk;have gk:¬ (xs.length:Int) < (xs.length:Int):=by omega
    have v0:=R0.c0;have v1:=R0.c1;have v2:=R0.c2;have v3:=R0.c3;have vF:=R0.frozen;have T0:=R0.set4 (.int .i64 bk.x1) (.int .i64 bk.y1) (.int .i64 bk.x2) (.int .i64 bk.y2);have TB:=below_set4 hb (g:=w.heap.size) (by omega) (.int .i64 bk.x1) (.int .i64 bk.y1) (.int .i64 bk.x2) (.int .i64 bk.y2);have e0:=T0.c0;have e1:=T0.c1;have e2:=T0.c2;have e3:=T0.c3;have HBK:=Lib.hid hbk;have x0:=(hb.cell (p:=⟨gB,oB,none⟩) GL.out).trans HC.out;clear hbk hb H T0
    go_wp2_with fail
    rw [HBK.out];refine bodyPost_ret (v:=boxVZ bk) (by simp only [results,Tryz.results216]; go_simp; rfl) rfl ⟨rfl,TB⟩
end Go.Proofs.YtalmeogjhmblhaaGreat

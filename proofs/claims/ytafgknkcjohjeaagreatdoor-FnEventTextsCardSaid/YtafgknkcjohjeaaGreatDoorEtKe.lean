/- A drawn session in its block. Conditions: none. -/
import Derived.Test.YtafgknkcjohjeaaGreatDoorEtJe
import Derived.Test.YtafgknkcjohjeaaGreatDoorEtGe
import Derived.Test.YtafgknkcjohjeaaGreatDoorRcWordse
import Derived.Test.YtafgknkcjohjeaaGreatDoorInkGe
import Derived.Test.YtafgknkcjohjeaaGreatDoorStrSe
import Derived.Test.YtafgknkcjohjeaaGreatDoorSlOpse
import Derived.Test.YtafgknkcjohjeaaGreatDoorRyPe
import Derived.Lib.Overlaps
import Derived.Laws.NewBlocks
import Derived.Laws.Externs
import Derived.Laws.IdiomStrings
import Derived.Test.YtafgknkcjohjeaaGreatDoorRowe
import Derived.Test.YtafgknkcjohjeaaGreatDoorMarke
import Derived.Test.YtafgknkcjohjeaaGreatDoorCmpe
import Derived.Test.YtafgknkcjohjeaaGreatDoorLibe
import Derived.Shelf.SlSortCmp.NoneTotal
import Derived.Shelf.SlSortCmp.WholeK
import Derived.Test.YtafgknkcjohjeaaGreatDoorProg
namespace Go.Proofs.YtafgknkcjohjeaaGreatDoor
open Go Go.RowKit
theorem sess_small {q:PSess} (h:sessB q=true):SsSmall q∧q.strokes.length≤16∧(∀ l∈q.strokes,l.length≤60)∧q.opn.length≤60∧q.words.length≤60∧(0≤q.time∧q.time≤3600000):=by
 obtain ⟨h1,h2,h3,h4,h5,h6,h7⟩:=sessB_parts h;obtain ⟨s1,s2,s3,s4,s5,s6,s7,s8,s9⟩:=setup_parts h1;have hw:q.strokes.length≤16:=inkB_few h2
 have hl:∀ l∈q.strokes,l.length≤60:=fun l hl=>by
  obtain ⟨k,hk,rfl⟩:=List.getElem_of_mem hl;exact strokeB_len (inkB_stroke h2 hk)
 have ho:q.opn.length≤60:=by
  simp only [openB,Bool.or_eq_true,Bool.and_eq_true,decide_eq_true_eq] at h5;rcases h5 with h | h
  · omega
  · exact strokeB_len h.1
 have he:q.setup.entries.length≤60:=by simp only [lexB,Bool.and_eq_true,decide_eq_true_eq] at s7; exact s7.2
 have hb:q.setup.bigrams.length≤60:=by simp only [modelB,Bool.and_eq_true,decide_eq_true_eq] at s8; exact s8.2.2
 exact ⟨⟨⟨by omega,fun l hl=>by have:=(tempB_parts (s1 l hl)).2.2.2; omega,by omega,by omega⟩,by omega,fun l h=>by have:=hl l h; omega,by omega,by omega⟩,hw,hl,ho,h7,h3⟩
def SeAt (lo gx:Nat) (q:PSess) (w:World):Prop:=∃ a0 a1 a2 a3 a4 a5 F0 F1 F2 F3 F4 F5,OwnSs w gx q a0 a1 a2 a3 a4 a5 F0 F1 F2 F3 F4 F5∧∀ x∈F0++(F1++(F2++(F3++(F4++F5)))),lo≤x
theorem SeAt.later {lo gx:Nat} {q:PSess} {w w':World} (h:SeAt lo gx q w) (b:Below w.heap.size w w'):SeAt lo gx q w':=by
 obtain ⟨a0,a1,a2,a3,a4,a5,F0,F1,F2,F3,F4,F5,ow,fr⟩:=h;exact ⟨a0,a1,a2,a3,a4,a5,F0,F1,F2,F3,F4,F5,ow.later b,fr⟩
theorem SeAt.lt {lo gx:Nat} {q:PSess} {w:World} (h:SeAt lo gx q w):gx < w.heap.size:=by
 obtain ⟨a0,a1,a2,a3,a4,a5,F0,F1,F2,F3,F4,F5,ow,fr⟩:=h;exact ow.row.lt
theorem SeAt.onl {lo gx g:Nat} {q:PSess} {w w':World} (h:SeAt lo gx q w) (b:Only [g] w w') (h1:g < lo) (h2:g≠gx):SeAt lo gx q w':=by
 obtain ⟨a0,a1,a2,a3,a4,a5,F0,F1,F2,F3,F4,F5,ow,fr⟩:=h;exact ⟨a0,a1,a2,a3,a4,a5,F0,F1,F2,F3,F4,F5,ow.only b (by simp only [List.mem_singleton]; omega) (fun x hx hin=>by simp only [List.mem_singleton] at hin; have:=fr x hx; omega),fr⟩
def set13 (w:World) (g:Nat) (c0 c1 c2 c3 c4 c5 c6 c7 c8 c9 c10 c11 c12:Value):World:=((((((((((((w.setCell ⟨g,0,none⟩ c0).setCell ⟨g,1,none⟩ c1).setCell ⟨g,2,none⟩ c2).setCell ⟨g,3,none⟩ c3).setCell ⟨g,4,none⟩ c4).setCell ⟨g,5,none⟩ c5).setCell ⟨g,6,none⟩ c6).setCell ⟨g,7,none⟩ c7).setCell ⟨g,8,none⟩ c8).setCell ⟨g,9,none⟩ c9).setCell ⟨g,10,none⟩ c10).setCell ⟨g,11,none⟩ c11).setCell ⟨g,12,none⟩ c12
section
variable {w:World} {g:Nat} {c0 c1 c2 c3 c4 c5 c6 c7 c8 c9 c10 c11 c12:Value}
theorem row_set13 {e:TypeId} {u0 u1 u2 u3 u4 u5 u6 u7 u8 u9 u10 u11 u12:Value} (R:Row w g e [u0,u1,u2,u3,u4,u5,u6,u7,u8,u9,u10,u11,u12]):Row (set13 w g c0 c1 c2 c3 c4 c5 c6 c7 c8 c9 c10 c11 c12) g e [c0,c1,c2,c3,c4,c5,c6,c7,c8,c9,c10,c11,c12] :=
 (((((((((((((R.set 0 c0).set 1 c1).set 2 c2).set 3 c3).set 4 c4).set 5 c5).set 6 c6).set 7 c7).set 8 c8).set 9 c9).set 10 c10).set 11 c11).set 12 c12)
theorem only_set13:Only [g] w (set13 w g c0 c1 c2 c3 c4 c5 c6 c7 c8 c9 c10 c11 c12) :=
 (((((((((((((Only.refl [g] w).set (p:=⟨g,0,none⟩) (by simp) c0).set (p:=⟨g,1,none⟩) (by simp) c1).set (p:=⟨g,2,none⟩) (by simp) c2).set (p:=⟨g,3,none⟩) (by simp) c3).set (p:=⟨g,4,none⟩) (by simp) c4).set (p:=⟨g,5,none⟩) (by simp) c5).set (p:=⟨g,6,none⟩) (by simp) c6).set (p:=⟨g,7,none⟩) (by simp) c7).set (p:=⟨g,8,none⟩) (by simp) c8).set (p:=⟨g,9,none⟩) (by simp) c9).set (p:=⟨g,10,none⟩) (by simp) c10).set (p:=⟨g,11,none⟩) (by simp) c11).set (p:=⟨g,12,none⟩) (by simp) c12
end
theorem SessIs.form13 {q:PSess} {v:Value} {F:List Nat} {w:World} (h:SessIs idsI true w q v F):∃ A0 k0 A1 k1 A2 k2 A3 k3 A4 k4 A5 k5,v=.agg #[.int .i64 q.setup.band,.slice A0 q.setup.temps.length k0,.int .i64 q.setup.points,.int .i64 q.setup.most,.int .i64 q.setup.pen,.slice A1 q.setup.entries.length k1,.int .i64 q.setup.dflt,.slice A2 q.setup.bigrams.length k2,.int .i64 q.setup.pause,.slice A3 q.strokes.length k3,.slice A4 q.opn.length k4,.int .i64 q.time,.slice A5 q.words.length k5]:=by
 obtain ⟨a0,a1,a2,a3,a4,a5,F0,F1,F2,F3,F4,F5,rfl,rfl,h0,h1,h2,h3,h4,h5⟩:=h;obtain ⟨A0,k0,rfl⟩:=slice_len h0;obtain ⟨A1,k1,rfl⟩:=slice_len h1;obtain ⟨A2,k2,rfl⟩:=slice_len h2;obtain ⟨A3,k3,rfl⟩:=slice_len h3;obtain ⟨A4,k4,rfl⟩:=slice_len h4;obtain ⟨A5,k5,rfl⟩:=slice_len h5;exact ⟨A0,k0,A1,k1,A2,k2,A3,k3,A4,k4,A5,k5,rfl⟩
theorem SeAt.of {lo gx:Nat} {q:PSess} {c0 c1 c2 c3 c4 c5 c6 c7 c8 c9 c10 c11 c12:Value} {F:List Nat} {w:World} (h:SessIs idsI true w q (.agg #[c0,c1,c2,c3,c4,c5,c6,c7,c8,c9,c10,c11,c12]) F) (fr:Fresh lo F) (R:Row w gx 45 [c0,c1,c2,c3,c4,c5,c6,c7,c8,c9,c10,c11,c12]) (hx:gx∉F):SeAt lo gx q w:=by
 obtain ⟨a0,a1,a2,a3,a4,a5,F0,F1,F2,F3,F4,F5,e,rfl,h0,h1,h2,h3,h4,h5⟩:=h;injection e with e
 simp only [Array.mk.injEq,List.cons.injEq,and_true] at e;obtain ⟨rfl,rfl,rfl,rfl,rfl,rfl,rfl,rfl,rfl,rfl,rfl,rfl,rfl⟩:=e;exact ⟨_,_,_,_,_,_,F0,F1,F2,F3,F4,F5,⟨R,h0,h1,h2,h3,h4,h5,fr.1,hx⟩,fr.2⟩
theorem SeAt.put13 {lo gx:Nat} {q:PSess} {u0 u1 u2 u3 u4 u5 u6 u7 u8 u9 u10 u11 u12 c0 c1 c2 c3 c4 c5 c6 c7 c8 c9 c10 c11 c12:Value} {F:List Nat} {w:World} (h:SessIs idsI true w q (.agg #[c0,c1,c2,c3,c4,c5,c6,c7,c8,c9,c10,c11,c12]) F) (fr:Fresh lo F) (R:Row w gx 45 [u0,u1,u2,u3,u4,u5,u6,u7,u8,u9,u10,u11,u12]) (hx:gx∉F):SeAt lo gx q (set13 w gx c0 c1 c2 c3 c4 c5 c6 c7 c8 c9 c10 c11 c12) :=
 SeAt.of (h.only only_set13 (fun x hx' hin=>by simp only [List.mem_singleton] at hin; subst hin; exact hx hx')) fr (row_set13 R) hx
structure DwSt (B g lo gx m:Nat) (code:List UInt8) (w wr:World) (q:PSess):Prop where
 ss:SeAt lo gx q wr
 src:SrcIs B g code m wr
 onl:Only [g] w wr
 res:Row wr w.heap.size 45 [.int .i64 0,.slice none 0 0,.int .i64 0,.int .i64 0,.int .i64 0,.slice none 0 0,.int .i64 0,.slice none 0 0,.int .i64 0,.slice none 0 0,.slice none 0 0,.int .i64 0,.slice none 0 0]
section
variable {B g lo gx m m':Nat} {code:List UInt8} {w wr wy:World} {q q':PSess}
theorem DwSt.later (h:DwSt B g lo gx m code w wr q) (b:Below wr.heap.size wr wy):DwSt B g lo gx m code w wy q :=
 ⟨h.ss.later b,h.src.below b,h.onl.trans (Only.of_below b),h.res.later b⟩
theorem DwSt.more (h:DwSt B g lo gx m code w wr q) (hm:m≤m'):DwSt B g lo gx m' code w wr q:=⟨h.ss,h.src.more hm,h.onl,h.res⟩
theorem DwSt.on (h:DwSt B g lo gx m code w wr q) (o:Only [g] wr wy) (s:SrcIs B g code m' wy) (h1:g < w.heap.size) (h2:w.heap.size < gx) (h3:w.heap.size≤lo):DwSt B g lo gx m' code w wy q :=
 ⟨h.ss.onl o (by omega) (by omega),s,h.onl.trans o,h.res.onl o (by simp only [List.mem_singleton]; omega)⟩
theorem DwSt.put {D:List Nat} (h:DwSt B g lo gx m code w wr q) (o:Only D wr wy) (hD:∀ z∈D,w.heap.size < z) (hB:B≤w.heap.size) (s:SeAt lo gx q' wy):DwSt B g lo gx m code w wy q' :=
 ⟨s,h.src.only o (fun z hz=>by have:=hD z hz; omega),only_ownE h.onl o (fun z hz=>by have:=hD z hz; omega),h.res.onl o (fun hin=>by have:=hD _ hin; omega)⟩
theorem DwSt.put13 {u0 u1 u2 u3 u4 u5 u6 u7 u8 u9 u10 u11 u12 c0 c1 c2 c3 c4 c5 c6 c7 c8 c9 c10 c11 c12:Value} {F:List Nat} (h:DwSt B g lo gx m code w wr q) (hv:SessIs idsI true wr q' (.agg #[c0,c1,c2,c3,c4,c5,c6,c7,c8,c9,c10,c11,c12]) F) (fr:Fresh lo F) (R:Row wr gx 45 [u0,u1,u2,u3,u4,u5,u6,u7,u8,u9,u10,u11,u12]) (hx:gx∉F) (hw:w.heap.size < gx) (hB:B≤w.heap.size):DwSt B g lo gx m code w (set13 wr gx c0 c1 c2 c3 c4 c5 c6 c7 c8 c9 c10 c11 c12) q' :=
 h.put only_set13 (fun z hz=>by simp only [List.mem_singleton] at hz; omega) hB (SeAt.put13 hv fr R hx)
end
theorem finS_none {q:PSess} (h:¬ q.strokes.length=0) (h2:¬ ((readZ q).2.2=0∧q.words.length < 60)):finS rdZ q=({ q with strokes:=[] },noneT):=by
 rw [finS,if_neg h,rdZ]
 by_cases h0:(readZ q).2.2=0
 · rw [if_pos h0]
   show (if q.words.length < 60 then _ else _)=_
   rw [if_neg (fun hl=>h2 ⟨h0,hl⟩)]
 · rw [if_neg h0]
theorem finS_some {q:PSess} (h:¬ q.strokes.length=0) (h0:(readZ q).2.2=0) (hl:q.words.length < 60):finS rdZ q=({ q with strokes:=[],words:=q.words++[(readZ q).1] },wordT++(readZ q).1):=by
 rw [finS,if_neg h,rdZ,if_pos h0]
 show (if q.words.length < 60 then _ else _)=_
 rw [if_pos hl]
theorem finS_zero {q:PSess} (h:q.strokes.length=0):finS rdZ q=(q,⟨#[]⟩):=by rw [finS,if_pos h]; rfl
theorem readZ_size {q:PSess} (hb:sessB q=true) (h0:(readZ q).2.2=0):(readZ q).1.size≤10:=by
 have:=rdZ_ok q (readZ q).1 hb (by rw [rdZ,if_pos h0]);exact (isWord_size this).2
theorem Tryz.infoHyp:(Tryz.prog.info? 169).map (fun i=>(i.zero,i.size,i.bytes))=some (some (.agg #[.string .empty,.int .i64 0]),pHyp.size,24):=by kernel_rfl
def cmpI (a b:Int):Int:=if a < b then -1 else if b < a then 1 else 0
def ordE (x y:LEdge):Int:=if x.src=y.src then (if x.dst=y.dst then cmpF x.lab y.lab else cmpI x.dst y.dst) else cmpI x.src y.src
theorem cmpI_pos (a b:Nat):decide (0 < cmpI a b)=decide (b < a):=by
 unfold cmpI
 by_cases h:(a:Int) < b
 · rw [if_pos h,decide_eq_false (by omega),decide_eq_false (by omega)]
 · rw [if_neg h]
   by_cases h2:(b:Int) < a
   · rw [if_pos h2,decide_eq_true (by omega),decide_eq_true (by omega)]
   · rw [if_neg h2,decide_eq_false (by omega),decide_eq_false (by omega)]
theorem cmpF_pos (a b:ByteArray):decide (0 < cmpF a b)=bLess b a:=by
 unfold cmpF;rcases bLess_sto.cases a b with ⟨h1,h2,-,-⟩ | rfl | ⟨h1,h2,-,-⟩
 · rw [h1,h2]; simp
 · rw [bLess_sto.irr]; simp
 · rw [h1,h2]; simp
theorem ordE_pos {x y:LEdge} (h:¬ SameKey x y):decide (0 < ordE x y)=edgeLt y x:=by
 unfold ordE
 by_cases h1:x.src=y.src
 · simp only [if_pos h1]
   by_cases h2:x.dst=y.dst
   · simp only [if_pos h2,cmpF_pos]
     have h3:¬ y.lab=x.lab:=fun e=>h ⟨h1,h2,e.symm⟩
     simp [edgeLt,h1,h2,h3]
   · simp only [if_neg h2,cmpI_pos]
     have h3:¬ y.dst=x.dst:=fun e=>h2 e.symm
     simp [edgeLt,h1,h3]
 · simp only [if_neg h1,cmpI_pos]
   have h3:¬ y.src=x.src:=fun e=>h1 e.symm
   simp [edgeLt,h3]
theorem spec_l15Sign_c (a b:Int) (w:World):Calls Tryz.prog 130 #[.int .i64 a,.int .i64 b] w fun e w'=>e=.returned (.int .i64 (cmpI a b))∧w'=w:=by
 by_cases h1:a < b
 · have e1:decide (a < b)=true:=decide_eq_true h1
   have HE:=Lib.hid (show cmpI a b=-1 by unfold cmpI; rw [if_pos h1])
   go_enter Tryz.func130,Tryz.ntmps130
   go_wp2_with fail
   go_ret;exact ⟨by rw [HE.out]; rfl,rfl⟩
 · have e1:decide (a < b)=false:=decide_eq_false h1
   by_cases h2:b < a
   · have e2:decide (b < a)=true:=decide_eq_true h2
     have HE:=Lib.hid (show cmpI a b=1 by unfold cmpI; rw [if_neg h1,if_pos h2])
     go_enter Tryz.func130,Tryz.ntmps130
     go_wp2_with fail
     go_ret;exact ⟨by rw [HE.out]; rfl,rfl⟩
   · have e2:decide (b < a)=false:=decide_eq_false h2
     have HE:=Lib.hid (show cmpI a b=0 by unfold cmpI; rw [if_neg h1,if_neg h2])
     go_enter Tryz.func130,Tryz.ntmps130
     go_wp2_with fail
     go_ret;exact ⟨by rw [HE.out]; rfl,rfl⟩
set_option maxRecDepth 100000 in
set_option maxHeartbeats 4000000 in
theorem spec_l15Order_c {x y:LEdge} {ga oa gb ob:Nat} (w:World) (a0:w.cell? ⟨ga,oa,none⟩=some (.int .i64 x.src)) (a1:w.cell? ⟨ga,oa+1,none⟩=some (.int .i64 x.dst)) (a2:w.cell? ⟨ga,oa+2,none⟩=some (.string x.lab))
 (b0:w.cell? ⟨gb,ob,none⟩=some (.int .i64 y.src)) (b1:w.cell? ⟨gb,ob+1,none⟩=some (.int .i64 y.dst)) (b2:w.cell? ⟨gb,ob+2,none⟩=some (.string y.lab)) :
 Calls Tryz.prog 115 #[.pointer (some ⟨ga,oa,none⟩),.pointer (some ⟨gb,ob,none⟩)] w fun e w'=>e=.returned (.int .i64 (ordE x y))∧Below w.heap.size w w':=by
 obtain ⟨xs,xd,xl,xc⟩:=x;obtain ⟨ys,yd,yl,yc⟩:=y;dsimp only at a0 a1 a2 b0 b1 b2;have CS:=Lib.hid (fun (a b:Int) (w:World)=>spec_l15Sign_c a b w);generalize hxs:(xs:Int)=xi at *;generalize hys:(ys:Int)=yi at *;generalize hxd:(xd:Int)=xj at *;generalize hyd:(yd:Int)=yj at *
 by_cases h1:xi=yi
 · have e1:(xi == yi)=true:=by rw [h1]; simp
   have e1':(xi != yi)=false:=by rw [h1]; simp
   by_cases h2:xj=yj
   · have e2:(xj == yj)=true:=by rw [h2]; simp
     have e2':(xj != yj)=false:=by rw [h2]; simp
     have HE:=Lib.hid (show ordE ⟨xs,xd,xl,xc⟩ ⟨ys,yd,yl,yc⟩=cmpF xl yl by unfold ordE; rw [if_pos (show xs=ys by omega),if_pos (show xd=yd by omega)]);clear hxs hys hxd hyd h1 h2 CS;have hcs:=bLess_sto.cases xl yl;unfold bLess at hcs;rcases hcs with ⟨h3,h4,h5,-⟩ | h5 | ⟨h3,h4,h5,-⟩
     · have HE2:=Lib.hid (show cmpF xl yl=-1 by unfold cmpF bLess; rw [h3]; rfl)
       go_enter Tryz.func115,Tryz.ntmps115
       go_wp2_with fail
       go_quiet (fail)
       go_wp2_with fail
       go_quiet (fail)
       go_wp2_with fail
       go_quiet (fail)
       go_wp2_with fail
       go_ret;exact ⟨by rw [HE.out,HE2.out]; rfl,by simp only [World.drewN_drewN]; exact below_drewN (Below.refl _ _) _⟩
     · subst h5
       have h3:=bl_irr xl.toList;have HE2:=Lib.hid (show cmpF xl xl=0 by unfold cmpF bLess; rw [h3]; rfl)
       go_enter Tryz.func115,Tryz.ntmps115
       go_wp2_with fail
       go_quiet (fail)
       go_wp2_with fail
       go_quiet (fail)
       go_wp2_with fail
       go_quiet (fail)
       go_wp2_with fail
       go_quiet (fail)
       go_wp2_with fail
       go_ret;exact ⟨by rw [HE.out,HE2.out]; rfl,by simp only [World.drewN_drewN]; exact below_drewN (Below.refl _ _) _⟩
     · have HE2:=Lib.hid (show cmpF xl yl=1 by unfold cmpF bLess; rw [h3,h4]; rfl)
       obtain ⟨q1,q2⟩:=str_neB h5;clear h5
       go_enter Tryz.func115,Tryz.ntmps115
       go_wp2_with fail
       go_quiet (fail)
       go_wp2_with fail
       go_quiet (fail)
       go_wp2_with fail
       go_quiet (fail)
       go_wp2_with fail
       go_quiet (fail)
       go_wp2_with fail
       go_ret;exact ⟨by rw [HE.out,HE2.out]; rfl,by simp only [World.drewN_drewN]; exact below_drewN (Below.refl _ _) _⟩
   · have e2:(xj == yj)=false:=beq_false_of_ne h2
     have e2':(xj != yj)=true:=by simp [bne,e2]
     have HE:=Lib.hid (show ordE ⟨xs,xd,xl,xc⟩ ⟨ys,yd,yl,yc⟩=cmpI xj yj by unfold ordE; rw [if_pos (show xs=ys by omega),if_neg (show ¬ xd=yd by omega),hxd,hyd]);clear hxs hys hxd hyd h1 h2
     go_enter Tryz.func115,Tryz.ntmps115
     go_wp2_with fail
     go_quiet (fail)
     obtain ⟨n1,hn1⟩:∃ n:Nat,n=nq:=⟨_,rfl⟩
     subst hn1
     go_wp2_with fail
     go_quiet (fail)
     obtain ⟨wq,hwq,HQ,x0,x1,y0,y1⟩:∃ W,W=World.drewN (World.drewN w n1) nq∧Hid (Below w.heap.size w W)∧W.cell? ⟨ga,oa,none⟩=some (.int .i64 xi)∧W.cell? ⟨ga,oa+1,none⟩=some (.int .i64 xj)∧W.cell? ⟨gb,ob,none⟩=some (.int .i64 yi)∧W.cell? ⟨gb,ob+1,none⟩=some (.int .i64 yj):=⟨_,rfl,Lib.hid (by simp only [World.drewN_drewN]; exact below_drewN (Below.refl _ _) _),a0,a1,b0,b1⟩
     rw [← hwq];clear hwq a0 a1 b0 b1
     go_wp2_with fail
     go_quiet ((go_at_call 130; exact Calls.quiet_of_same (CS.out _ _ _)))
     go_wp2_with fail
     go_ret;exact ⟨by rw [HE.out]; rfl,below_drewN HQ.out _⟩
 · have e1:(xi == yi)=false:=beq_false_of_ne h1
   have e1':(xi != yi)=true:=by simp [bne,e1]
   have HE:=Lib.hid (show ordE ⟨xs,xd,xl,xc⟩ ⟨ys,yd,yl,yc⟩=cmpI xi yi by unfold ordE; rw [if_neg (show ¬ xs=ys by omega),hxs,hys]);clear hxs hys hxd hyd h1
   go_enter Tryz.func115,Tryz.ntmps115
   go_wp2_with fail
   go_quiet (fail)
   obtain ⟨wq,hwq,HQ,x0,x1,y0,y1⟩:∃ W,W=World.drewN w nq∧Hid (Below w.heap.size w W)∧W.cell? ⟨ga,oa,none⟩=some (.int .i64 xi)∧W.cell? ⟨ga,oa+1,none⟩=some (.int .i64 xj)∧W.cell? ⟨gb,ob,none⟩=some (.int .i64 yi)∧W.cell? ⟨gb,ob+1,none⟩=some (.int .i64 yj):=⟨_,rfl,Lib.hid (below_drewN (Below.refl _ _) _),a0,a1,b0,b1⟩
   rw [← hwq];clear hwq a0 a1 b0 b1
   go_wp2_with fail
   go_quiet ((go_at_call 130; exact Calls.quiet_of_same (CS.out _ _ _)))
   go_wp2_with fail
   go_ret;exact ⟨by rw [HE.out]; rfl,below_drewN HQ.out _⟩
end Go.Proofs.YtafgknkcjohjeaaGreatDoor

/- The arcs of a stroke: how far each point is along it. Conditions: none. -/
import Derived.Test.YtafgknkcjohjeaaGreatDoorTke
import Derived.Test.YtafgknkcjohjeaaGreatDoorRcWordse
import Derived.Test.YtafgknkcjohjeaaGreatDoorSlOpse
import Derived.Deep.Cut
import Derived.Deep.CutRange
namespace Go.Proofs.YtafgknkcjohjeaaGreatDoor
open Go Go.RowKit
def GivesO {α:Type} (T:Ty α) (a:α) (w:World) (e:Ending) (w':World):Prop:=∃ u F,e=.returned u∧T.rep true w' a [u] F∧Fresh w.heap.size F∧Below w.heap.size w w'
theorem infoZ:(Tryz.prog.info? 2).map (fun i=>(i.zero,i.size,i.bytes))=some (some (.int .i64 0),int64.size,8):=by kernel_rfl
def arcs (s:PStroke) (k:Nat):List Int:=(List.range k).map (arcZ s)
theorem arcs_len (s:PStroke) (k:Nat):(arcs s k).length=k:=by simp [arcs]
theorem arcs_succ (s:PStroke) (k:Nat):arcs s (k+1)=arcs s k++[arcZ s k]:=by simp [arcs,List.range_succ]
theorem arcs_get {s:PStroke} {j k:Nat} (h:j < (arcs s k).length):(arcs s k)[j]=arcZ s j:=by simp [arcs]
theorem stroke_pts {s:PStroke} (hs:strokeB s=true):s.length≤60∧1≤s.length∧∀ j (h:j < s.length),pointB s[j]=true∧s[j]=pt s j:=by
 have hs':=hs;unfold strokeB at hs;simp only [Bool.and_eq_true,decide_eq_true_eq] at hs;refine ⟨hs.2.2,hs.2.1,fun j h=>⟨?_,(pt_get h).symm⟩⟩;rw [← pt_get h];rw [strokeB,Bool.and_eq_true] at hs';have:=ptsOk_get hs'.1 h;rw [ptOk,Bool.and_eq_true] at this;exact this.1
theorem arcs_one (w:World) (s:PStroke):(nums 2).rep true (w.alloc (.cells #[.int .i64 0] 2)) (arcs s 1) [.slice (some ⟨w.heap.size,0,none⟩) 1 1] [w.heap.size] :=
 slice_of_row (xs:=[(0:Int)]) (Row.new w _ _) (repL_nums _ (by intro s hs; simp at hs; subst hs; constructor <;> omega)) (by simp [maxLen])
set_option maxRecDepth 100000 in
set_option maxHeartbeats 4000000 in
theorem spec_l06Arcs_c {ob:Bool} {e:TypeId} {s:PStroke} {A:Option Addr} {c gB oB:Nat} {F:List Nat} (w:World) (gl:gB < w.heap.size) (hcell:w.cell? ⟨gB,oB,none⟩=some (.slice A s.length c)) (h:(pPoints e).rep ob w s [.slice A s.length c] F) (hs:strokeB s=true) :
 Calls Tryz.prog 117 #[.pointer (some ⟨gB,oB,none⟩)] w (GivesO (nums 2) (arcs s s.length) w):=by
 obtain ⟨hl60,hl1,hpt⟩:=stroke_pts hs;have H:=Lib.hid h;have a1:=arcs_one w s;have cB:(w.alloc (.cells #[.int .i64 0] 2)).cell? ⟨gB,oB,none⟩=some (.slice A s.length c) :=  (World.cell?_alloc_past (w:=w) _ _ _ gl).trans hcell;have bB:Below w.heap.size w (w.alloc (.cells #[.int .i64 0] 2)):=(Below.refl _ _).alloc (Nat.le_refl _) _;have zB:gB < (w.alloc (.cells #[.int .i64 0] 2)).heap.size:=by simp only [World.size_alloc]; omega
 have fB:Fresh w.heap.size [w.heap.size]∧(∀ b∈[w.heap.size],b≠gB):=⟨⟨by simp,by simp⟩,by intro b hb; simp only [List.mem_singleton] at hb; omega⟩
 have ST:=Lib.hid (And.intro a1 (And.intro fB.1 (And.intro fB.2 (And.intro bB (And.intro cB zB)))));clear a1 cB bB zB fB h hcell
 go_enter Tryz.func117,Tryz.ntmps117
 go_wp2_with fail
 go_loopw [3,4] (fun l i wr=>∃ (k:Nat) (v:Value) (G:List Nat),l=v∧i=.int .i64 k∧1≤k∧k≤s.length∧Hid ((nums 2).rep true wr (arcs s k) [v] G∧Fresh w.heap.size G∧(∀ b∈G,b≠gB)∧Below w.heap.size w wr∧wr.cell? ⟨gB,oB,none⟩=some (.slice A s.length c)∧gB < wr.heap.size)) (fun _ i _=>s.length - (intOf i).toNat)
 case atStart=>exact ⟨1,_,_,rfl,rfl,by omega,hl1,ST⟩
 case round =>
  obtain ⟨k,vk,G,rfl,rfl,hk1,hk,all⟩:=hrel;obtain ⟨rep,fr,hGg,hb,c0,hgB⟩:=all.out;have hbs:=hb.size;clear all
  (try subst eo)
  (try subst eg)
  by_cases hlt:k < s.length
  · obtain ⟨k1,rfl⟩:∃ k1,k=k1+1:=⟨k - 1,by omega⟩
    obtain ⟨A',c',he,-,-,hr⟩:=pPoints_open (H.out.below hb);cases he;obtain ⟨bp,op,rfl,hbp,hbF,p0,p1,p2,-⟩:=hr k1 (by omega);have hbpw:bp < w.heap.size:=(pPoints e).lt H.out _ hbF;obtain ⟨bp',op',e8,-,-,q0,q1,q2,-⟩:=hr (k1+1) hlt;cases e8;obtain ⟨U,un,uc,rfl⟩:=slice_form rep;obtain ⟨A',c',he,-,-,hu⟩:=nums_open rep;simp only [Value.slice.injEq,arcs_len] at he;obtain ⟨hA,hun,hc⟩:=he;obtain ⟨ub,uo,hU,hub,-,u0,-⟩:=hu k1 (by rw [arcs_len]; omega);subst hun;rw [hU] at hA;subst hA;clear hU hc;rw [arcs_get] at u0;have hpa:=(hpt k1 (by omega)).1;have hpb:=(hpt (k1+1) hlt).1;have CL:=Lib.hid (fun w=>spec_l05Length_c s[k1] s[k1+1] w hpa hpb);have hle:arcZ s (k1+1)=arcZ s k1+lenZ s[k1] s[k1+1]:=by rw [(hpt k1 (by omega)).2,(hpt (k1+1) hlt).2]; rfl
    have hz1:=arcZ_small hs k1 (by omega);have hz2:=lenZ_small hpa hpb;have hz3:=arcZ_small hs (k1+1) hlt;have kw:=IntWalk.i64_in (((k1+1:Nat):Int)+1) (by omega);have km:IntKind.i64.wrap (((k1+1:Nat):Int) - 1)=(k1:Int):=by rw [IntWalk.i64_in _ (by omega)]; omega
    have ka:=IntWalk.i64_in (arcZ s k1+lenZ s[k1] s[k1+1]) (by omega);have g1:((k1+1:Nat):Int) < (s.length:Int):=by omega
    have g2:(k1:Int) < (s.length:Int):=by omega
    have g3:(k1:Int) < ((k1+1:Nat):Int):=by omega
    have g4:(k1:Int) < (k1:Int)+1:=by omega
    have HLE:=Lib.hid hle;have REP:=Lib.hid rep;have FR:=Lib.hid fr;have HG:=Lib.hid hGg;have HB:=Lib.hid hb;clear hr hu rep fr hGg hb hle hpt hpa hpb H ST;generalize hkk:((k1+1:Nat):Int)=kk at kw km g1 g3 ⊢;have gk:kk.toNat=k1+1:=by omega
    have g5:0≤kk:=by omega
    have HKK:=Lib.hid hkk;clear hkk
    go_upto_region 5 with fail
    have hS:(fun w':World=>w'.cell? ⟨gB,oB,none⟩=some (.slice (some ⟨bp,op,none⟩) s.length c)∧w'.cell? ⟨bp,op+k1 * 3,none⟩=some (.int .i64 s[k1].x)∧w'.cell? ⟨bp,op+k1 * 3+1,none⟩=some (.int .i64 s[k1].y)∧w'.cell? ⟨bp,op+k1 * 3+2,none⟩=some (.int .i64 s[k1].t)∧w'.cell? ⟨bp,op+(k1+1) * 3,none⟩=some (.int .i64 s[k1+1].x)∧w'.cell? ⟨bp,op+(k1+1) * 3+1,none⟩=some (.int .i64 s[k1+1].y)∧w'.cell? ⟨bp,op+(k1+1) * 3+2,none⟩=some (.int .i64 s[k1+1].t)) wr.drew:=⟨c0,p0,p1,p2,q0,q1,q2⟩
    dsimp only at hS;refine wp_region_held_drew (S:=(fun w':World=>w'.cell? ⟨gB,oB,none⟩=some (.slice (some ⟨bp,op,none⟩) s.length c)∧w'.cell? ⟨bp,op+k1 * 3,none⟩=some (.int .i64 s[k1].x)∧w'.cell? ⟨bp,op+k1 * 3+1,none⟩=some (.int .i64 s[k1].y)∧w'.cell? ⟨bp,op+k1 * 3+2,none⟩=some (.int .i64 s[k1].t)∧w'.cell? ⟨bp,op+(k1+1) * 3,none⟩=some (.int .i64 s[k1+1].x)∧w'.cell? ⟨bp,op+(k1+1) * 3+1,none⟩=some (.int .i64 s[k1+1].y)∧w'.cell? ⟨bp,op+(k1+1) * 3+2,none⟩=some (.int .i64 s[k1+1].t))) (by kernel_rfl) hS (fun _=>?_);replace c0:wr.drew.cell? _=_:=c0;replace p0:wr.drew.cell? _=_:=p0;replace p1:wr.drew.cell? _=_:=p1;replace p2:wr.drew.cell? _=_:=p2;replace q0:wr.drew.cell? _=_:=q0;replace q1:wr.drew.cell? _=_:=q1;replace q2:wr.drew.cell? _=_:=q2;replace u0:wr.drew.cell? _=_:=u0;replace hbp:bp < wr.drew.heap.size:=hbp;replace hgB:gB < wr.drew.heap.size:=hgB;replace hub:ub < wr.drew.heap.size:=hub;replace REP:=Lib.hid REP.out.drew;replace HB:=Lib.hid HB.out.drew;generalize wr.drew=wd at c0 p0 p1 p2 q0 q1 q2 u0 hbp hgB hub REP HB hS ⊢;refine tJ 0 hS ?_;refine tJ 1 hS ?_;refine tJ 2 hS ?_;refine tJ 3 hS ?_;refine tJ 4 hS ?_;refine tJ 6 hS ?_;refine tJ 7 hS ?_;refine tJ 8 hS ?_;refine tJ 9 hS ?_;refine tJ 10 hS ?_;refine tJ 11 hS ?_;refine tJ 12 hS ?_;refine tJ 13 hS ?_;refine tJ 14 hS ?_;refine tJ 15 hS ?_;refine tJ 16 hS ?_;refine tJ 17 hS ?_;refine tJ 18 hS ?_;refine tJ 19 hS ?_;refine tJ 20 hS ?_;refine rJ2 5 21 (fun K hK=>?ga) (fun K hK=>?gb)
    case' ga =>
     go_simp
     refine bJ hK hS ?_;clear hK K;refine rJ 21 fun K hK=>?_
     refine step_call 131 #[.tmp 28,.tmp 35] _ rfl rfl #[.agg #[.int .i64 s[k1].x,.int .i64 s[k1].y,.int .i64 s[k1].t],.agg #[.int .i64 s[k1+1].x,.int .i64 s[k1+1].y,.int .i64 s[k1+1].t]] Tryz.call131 (by go_simp) (CL.out wd) ?_;rintro e w2 ⟨rfl,b2⟩;refine ⟨_,rfl,?_⟩;replace c0:=(b2.cell (p:=⟨gB,_,none⟩) hgB).trans c0;replace p0:=(b2.cell (p:=⟨bp,_,none⟩) hbp).trans p0;replace p1:=(b2.cell (p:=⟨bp,_,none⟩) hbp).trans p1;replace p2:=(b2.cell (p:=⟨bp,_,none⟩) hbp).trans p2;replace q0:=(b2.cell (p:=⟨bp,_,none⟩) hbp).trans q0;replace q1:=(b2.cell (p:=⟨bp,_,none⟩) hbp).trans q1;replace q2:=(b2.cell (p:=⟨bp,_,none⟩) hbp).trans q2;replace hS:=(⟨c0,p0,p1,p2,q0,q1,q2⟩:w2.cell? ⟨gB,oB,none⟩=some (.slice (some ⟨bp,op,none⟩) s.length c)∧w2.cell? ⟨bp,op+k1 * 3,none⟩=some (.int .i64 s[k1].x)∧w2.cell? ⟨bp,op+k1 * 3+1,none⟩=some (.int .i64 s[k1].y)∧w2.cell? ⟨bp,op+k1 * 3+2,none⟩=some (.int .i64 s[k1].t)∧w2.cell? ⟨bp,op+(k1+1) * 3,none⟩=some (.int .i64 s[k1+1].x)∧w2.cell? ⟨bp,op+(k1+1) * 3+1,none⟩=some (.int .i64 s[k1+1].y)∧w2.cell? ⟨bp,op+(k1+1) * 3+2,none⟩=some (.int .i64 s[k1+1].t))
     replace hbp:=Nat.lt_of_lt_of_le hbp b2.size;replace hgB:=Nat.lt_of_lt_of_le hgB b2.size;replace REP:=Lib.hid (REP.out.below b2);replace HB:=Lib.hid (HB.out.trans (b2.mono HB.out.size));clear b2 u0;refine bJ hK hS ?_;clear hK K;simp only [Act.put,pA,pB,pC]
    case' gb =>
     refine step_call 131 #[.tmp 28,.tmp 35] _ rfl rfl #[.agg #[.int .i64 s[k1].x,.int .i64 s[k1].y,.int .i64 s[k1].t],.agg #[.int .i64 s[k1+1].x,.int .i64 s[k1+1].y,.int .i64 s[k1+1].t]] Tryz.call131 (by go_simp) (CL.out wd) ?_;rintro e w2 ⟨rfl,b2⟩;refine ⟨_,rfl,?_⟩;replace c0:=(b2.cell (p:=⟨gB,_,none⟩) hgB).trans c0;replace p0:=(b2.cell (p:=⟨bp,_,none⟩) hbp).trans p0;replace p1:=(b2.cell (p:=⟨bp,_,none⟩) hbp).trans p1;replace p2:=(b2.cell (p:=⟨bp,_,none⟩) hbp).trans p2;replace q0:=(b2.cell (p:=⟨bp,_,none⟩) hbp).trans q0;replace q1:=(b2.cell (p:=⟨bp,_,none⟩) hbp).trans q1;replace q2:=(b2.cell (p:=⟨bp,_,none⟩) hbp).trans q2;replace u0:=(b2.cell (p:=⟨ub,_,none⟩) hub).trans u0;replace hS:=(⟨c0,p0,p1,p2,q0,q1,q2⟩:w2.cell? ⟨gB,oB,none⟩=some (.slice (some ⟨bp,op,none⟩) s.length c)∧w2.cell? ⟨bp,op+k1 * 3,none⟩=some (.int .i64 s[k1].x)∧w2.cell? ⟨bp,op+k1 * 3+1,none⟩=some (.int .i64 s[k1].y)∧w2.cell? ⟨bp,op+k1 * 3+2,none⟩=some (.int .i64 s[k1].t)∧w2.cell? ⟨bp,op+(k1+1) * 3,none⟩=some (.int .i64 s[k1+1].x)∧w2.cell? ⟨bp,op+(k1+1) * 3+1,none⟩=some (.int .i64 s[k1+1].y)∧w2.cell? ⟨bp,op+(k1+1) * 3+2,none⟩=some (.int .i64 s[k1+1].t))
     replace hbp:=Nat.lt_of_lt_of_le hbp b2.size;replace hgB:=Nat.lt_of_lt_of_le hgB b2.size;replace REP:=Lib.hid (REP.out.below b2);replace HB:=Lib.hid (HB.out.trans (b2.mono HB.out.size));clear b2;refine bJ hK hS ?_;clear hK K;simp only [Act.put,pA,pB,pC];refine rJ 5 fun K hK=>?_
     go_simp
     refine bJ hK hS ?_;clear hK K u0
    all_goals (
     refine tJ 22 hS ?_;refine rJ 23 fun K hK=>?_
     go_simp
     replace c0:(w2.alloc (.cells #[.int .i64 (arcZ s k1+lenZ s[k1] s[k1+1])] 2)).cell? _=_:=(World.cell?_alloc_past (w:=w2) _ _ _ hgB).trans c0;replace p0:(w2.alloc (.cells #[.int .i64 (arcZ s k1+lenZ s[k1] s[k1+1])] 2)).cell? _=_:=(World.cell?_alloc_past (w:=w2) _ _ _ hbp).trans p0;replace p1:(w2.alloc (.cells #[.int .i64 (arcZ s k1+lenZ s[k1] s[k1+1])] 2)).cell? _=_:=(World.cell?_alloc_past (w:=w2) _ _ _ hbp).trans p1;replace p2:(w2.alloc (.cells #[.int .i64 (arcZ s k1+lenZ s[k1] s[k1+1])] 2)).cell? _=_:=(World.cell?_alloc_past (w:=w2) _ _ _ hbp).trans p2;replace q0:(w2.alloc (.cells #[.int .i64 (arcZ s k1+lenZ s[k1] s[k1+1])] 2)).cell? _=_:=(World.cell?_alloc_past (w:=w2) _ _ _ hbp).trans q0;replace q1:(w2.alloc (.cells #[.int .i64 (arcZ s k1+lenZ s[k1] s[k1+1])] 2)).cell? _=_:=(World.cell?_alloc_past (w:=w2) _ _ _ hbp).trans q1;replace q2:(w2.alloc (.cells #[.int .i64 (arcZ s k1+lenZ s[k1] s[k1+1])] 2)).cell? _=_:=(World.cell?_alloc_past (w:=w2) _ _ _ hbp).trans q2;replace hS:=(⟨c0,p0,p1,p2,q0,q1,q2⟩:(w2.alloc (.cells #[.int .i64 (arcZ s k1+lenZ s[k1] s[k1+1])] 2)).cell? ⟨gB,oB,none⟩=some (.slice (some ⟨bp,op,none⟩) s.length c)∧(w2.alloc (.cells #[.int .i64 (arcZ s k1+lenZ s[k1] s[k1+1])] 2)).cell? ⟨bp,op+k1 * 3,none⟩=some (.int .i64 s[k1].x)∧(w2.alloc (.cells #[.int .i64 (arcZ s k1+lenZ s[k1] s[k1+1])] 2)).cell? ⟨bp,op+k1 * 3+1,none⟩=some (.int .i64 s[k1].y)∧(w2.alloc (.cells #[.int .i64 (arcZ s k1+lenZ s[k1] s[k1+1])] 2)).cell? ⟨bp,op+k1 * 3+2,none⟩=some (.int .i64 s[k1].t)∧(w2.alloc (.cells #[.int .i64 (arcZ s k1+lenZ s[k1] s[k1+1])] 2)).cell? ⟨bp,op+(k1+1) * 3,none⟩=some (.int .i64 s[k1+1].x)∧(w2.alloc (.cells #[.int .i64 (arcZ s k1+lenZ s[k1] s[k1+1])] 2)).cell? ⟨bp,op+(k1+1) * 3+1,none⟩=some (.int .i64 s[k1+1].y)∧(w2.alloc (.cells #[.int .i64 (arcZ s k1+lenZ s[k1] s[k1+1])] 2)).cell? ⟨bp,op+(k1+1) * 3+2,none⟩=some (.int .i64 s[k1+1].t))
     refine bJ hK hS ?_;clear hK K;have hz2:=HB.out.size;replace REP:=Lib.hid (REP.out.alloc (.cells #[.int .i64 (arcZ s k1+lenZ s[k1] s[k1+1])] 2));replace HB:=Lib.hid (HB.out.alloc hz2 (.cells #[.int .i64 (arcZ s k1+lenZ s[k1] s[k1+1])] 2));have hat:CellsAt (w2.alloc (.cells #[.int .i64 (arcZ s k1+lenZ s[k1] s[k1+1])] 2)) (some ⟨w2.heap.size,0,none⟩) [.int .i64 (arcZ s k1+lenZ s[k1] s[k1+1])]:=cellsAt_new _ _ _;replace hbp:bp < (w2.alloc (.cells #[.int .i64 (arcZ s k1+lenZ s[k1] s[k1+1])] 2)).heap.size:=by rw [World.size_alloc]; omega
     replace hgB:gB < (w2.alloc (.cells #[.int .i64 (arcZ s k1+lenZ s[k1] s[k1+1])] 2)).heap.size:=by rw [World.size_alloc]; exact Nat.lt_succ_of_lt hgB
     generalize w2.alloc (.cells #[.int .i64 (arcZ s k1+lenZ s[k1] s[k1+1])] 2)=w3 at c0 p0 p1 p2 q0 q1 q2 hbp hgB REP HB hS hat ⊢;generalize w2.heap.size=gA at hat ⊢;refine rJ 24 fun K hK=>?_
     refine step_append_repX (T:=int64) (e:=2) (ys:=[arcZ s k1+lenZ s[k1] s[k1+1]]) (ec:=[.int .i64 (arcZ s k1+lenZ s[k1] s[k1+1])]) rfl (.tmp 15) (.tmp 38) rfl Tryz.underlying65 infoZ rfl (by decide) rfl REP.out rfl (repL_nums _ (by intro z hz; simp only [List.mem_singleton] at hz; subst hz; constructor <;> omega)) hat (by rw [List.append_nil]; exact FR.out.1) (by rw [arcs_len]; simp [maxLen]; omega) (by rw [arcs_len]; simp; omega) ?_;intro v6 w6 F6 r6 o6 f6 x6;have hgn:gB∉G:=fun hin=>HG.out _ hin rfl
     have hpn:bp∉G:=fun hin=>by have:=FR.out.2 _ hin; omega
     have hgn6:∀ b∈F6,b≠gB:=fun b hb he=>by
      rcases x6.1 b hb with h1 | h1
      · rw [List.append_nil] at h1; exact HG.out _ h1 he
      · omega
     have R6:=Lib.hid r6;obtain ⟨V6,n6,c6,rfl⟩:=slice_form r6;replace c0:w6.cell? _=_:=(World.cell?_of_block (o6.block _ hgB hgn)).trans c0;replace p0:w6.cell? _=_:=(World.cell?_of_block (o6.block _ hbp hpn)).trans p0;replace p1:w6.cell? _=_:=(World.cell?_of_block (o6.block _ hbp hpn)).trans p1;replace p2:w6.cell? _=_:=(World.cell?_of_block (o6.block _ hbp hpn)).trans p2;replace q0:w6.cell? _=_:=(World.cell?_of_block (o6.block _ hbp hpn)).trans q0;replace q1:w6.cell? _=_:=(World.cell?_of_block (o6.block _ hbp hpn)).trans q1;replace q2:w6.cell? _=_:=(World.cell?_of_block (o6.block _ hbp hpn)).trans q2;replace hS:=(⟨c0,p0,p1,p2,q0,q1,q2⟩:w6.cell? ⟨gB,oB,none⟩=some (.slice (some ⟨bp,op,none⟩) s.length c)∧w6.cell? ⟨bp,op+k1 * 3,none⟩=some (.int .i64 s[k1].x)∧w6.cell? ⟨bp,op+k1 * 3+1,none⟩=some (.int .i64 s[k1].y)∧w6.cell? ⟨bp,op+k1 * 3+2,none⟩=some (.int .i64 s[k1].t)∧w6.cell? ⟨bp,op+(k1+1) * 3,none⟩=some (.int .i64 s[k1+1].x)∧w6.cell? ⟨bp,op+(k1+1) * 3+1,none⟩=some (.int .i64 s[k1+1].y)∧w6.cell? ⟨bp,op+(k1+1) * 3+2,none⟩=some (.int .i64 s[k1+1].t))
     refine bJ hK hS ?_;clear hK K;have hF6:=Lib.hid (f6 w.heap.size (by simpa using FR.out) HB.out.size);have HB6:=Lib.hid (HB.out.trans (o6.below (B:=w.heap.size) HB.out.size FR.out.2));have hg6:=Nat.lt_of_lt_of_le hgB o6.size;clear r6 o6 f6 x6 REP HB;refine tJ 25 hS ?_;refine wpAnyH_done (by kernel_rfl) ?_ _;clear hS p0 p1 p2 q0 q1 q2
     go_wp2_with fail
     go_roundw
     case rel=>exact ⟨k1+2,_,F6,rfl,by rw [← HKK.out]; first | rfl | go_num,by omega,by omega,Lib.hid ⟨by rw [show k1+2=k1+1+1 from rfl,arcs_succ,HLE.out]; exact R6.out,hF6.out,hgn6,HB6.out,c0,hg6⟩⟩
     case measure=>simp [intOf]; have:=HKK.out; omega)
  · obtain rfl:k=s.length:=by omega
    have REP:=Lib.hid rep;have FR:=Lib.hid fr;have HB:=Lib.hid hb;obtain ⟨U,un,uc,rfl⟩:=slice_form rep;have g1:¬ ((s.length:Int) < (s.length:Int)):=by omega
    clear rep fr hb hGg
    go_wp2_with fail
    go_ret;exact ⟨_,G,rfl,REP.out,FR.out,HB.out⟩
end Go.Proofs.YtafgknkcjohjeaaGreatDoor

/- Lists of places. Conditions: none. -/
import Derived.Test.YtafgknkcjohjeaaGreatDoorRwLe
import Derived.Test.YtafgknkcjohjeaaGreatDoorTyFeate
import Derived.Deep.Cut
import Derived.Deep.CutRange
namespace Go.Proofs.YtafgknkcjohjeaaGreatDoor
open Go Go.RowKit
set_option maxHeartbeats 8000000
set_option maxRecDepth 100000
def pSpot:Ty (Int × Int):=int64.prod int64
theorem pSpot_rep {o:Bool} {w:World} {s:Int × Int} {cs:List Value} {F:List Nat}:pSpot.rep o w s cs F↔cs=[.int .i64 s.1,.int .i64 s.2]∧F=[]∧I64 s.1∧I64 s.2:=by
 constructor
 · rintro ⟨_,_,_,_,rfl,rfl,⟨rfl,rfl,h0⟩,⟨rfl,rfl,h1⟩⟩
   exact ⟨rfl,rfl,h0,h1⟩
 · rintro ⟨rfl,rfl,h0,h1⟩
   exact ⟨_,_,[],[],rfl,rfl,⟨rfl,rfl,h0⟩,⟨rfl,rfl,h1⟩⟩
def pSpots (e:TypeId):Ty (List (Int × Int)):=pSpot.slice e
theorem pSpots_open {o:Bool} {w:World} {e:TypeId} {xs:List (Int × Int)} {v:Value} {F:List Nat} (h:(pSpots e).rep o w xs [v] F) :
 ∃ A c,v=.slice A xs.length c∧xs.length≤c∧c≤maxLen∧∀ k (hk:k < xs.length),∃ b off,A=some ⟨b,off,none⟩∧b < w.heap.size∧b∈F ∧
  w.cell? ⟨b,off+k * 2,none⟩=some (.int .i64 xs[k].1)∧w.cell? ⟨b,off+k * 2+1,none⟩=some (.int .i64 xs[k].2)∧I64 xs[k].1∧I64 xs[k].2:=by
 obtain ⟨A,c,hv,h1,h2,h3⟩:=slice_open h;refine ⟨A,c,hv,h1,h2,fun k hk=>?_⟩;obtain ⟨b,off,ck,Fk,hA,hb,hin,hr,_,hc⟩:=h3 k hk;obtain ⟨rfl,rfl,i0,i1⟩:=pSpot_rep.1 hr;exact ⟨b,off,hA,hb,hin,hc 0 _ rfl,by rw [Nat.add_assoc]; exact hc 1 _ rfl,i0,i1⟩
def pSpotCells (s:Int × Int):List Value:=[.int .i64 s.1,.int .i64 s.2]
theorem repL_pSpot {o:Bool} {w:World}:∀ (xs:List (Int × Int)),(∀ s∈xs,I64 s.1∧I64 s.2)→repL pSpot o w xs (xs.flatMap pSpotCells) []
 | [],_=>⟨rfl,rfl⟩
 | s :: r,h=>⟨_,_,[],[],rfl,rfl,pSpot_rep.2 ⟨rfl,rfl,h s (by simp)⟩,repL_pSpot r (fun t ht=>h t (by simp [ht]))⟩
theorem infoSpot:(Tryz.prog.info? 179).map (fun i=>(i.zero,i.size,i.bytes))=some (some (.agg #[.int .i64 0,.int .i64 0]),pSpot.size,16):=by kernel_rfl
def spots (s:PStroke) (n k:Nat):List (Int × Int):=(List.range k).map (spotN s n)
theorem spots_len (s:PStroke) (n k:Nat):(spots s n k).length=k:=by simp [spots]
theorem spots_succ (s:PStroke) (n k:Nat):spots s n (k+1)=spots s n k++[spotN s n k]:=by simp [spots,List.range_succ]
theorem spots_get {s:PStroke} {n j k:Nat} (h:j < (spots s n k).length):(spots s n k)[j]=spotN s n j:=by simp [spots]
theorem spotN_in {s:PStroke} (hs:strokeB s=true) {n k:Nat} (hn:2≤n):(0≤(spotN s n k).1∧(spotN s n k).1≤4095)∧(0≤(spotN s n k).2∧(spotN s n k).2≤4095):=by
 obtain ⟨hl60,hl1,hpt⟩:=stroke_pts hs
 have hb:∀ j,j < s.length→(0≤(pt s j).x∧(pt s j).x≤4095)∧(0≤(pt s j).y∧(pt s j).y≤4095):=fun j hj=>by
  have:=(hpt j hj).1;rw [(hpt j hj).2] at this;simp only [pointB,inR,Bool.and_eq_true,decide_eq_true_eq] at this;omega
 exact spotZ_in hs (by omega) (by omega) (fun j hj=>(hb j hj).1) (fun j hj=>(hb j hj).2)
theorem spec_l06Resample_c {ob:Bool} {e:TypeId} {s:PStroke} {A:Option Addr} {c gB oB n:Nat} {F:List Nat} (w:World) (gl:gB < w.heap.size) (hcell:w.cell? ⟨gB,oB,none⟩=some (.slice A s.length c)) (h:(pPoints e).rep ob w s [.slice A s.length c] F) (hs:strokeB s=true) (hn:2≤n∧n≤24) :
 Calls Tryz.prog 91 #[.pointer (some ⟨gB,oB,none⟩),.int .i64 (n:Int)] w (GivesO (pSpots 179) (spots s n n) w):=by
 have CA:=Lib.hid (spec_l06Arcs_c w gl hcell h hs);have CT:=Lib.hid (fun (wr w1:World) (va:Value) (Fa:List Nat) (k:Nat) (hk:k < n) (b:Below w.heap.size w wr) (ra:(nums 2).rep true wr (arcs s s.length) [va] Fa)=>spec_l06At_c (part:=(k:Int)) (parts:=(n:Int) - 1) wr (Nat.lt_of_lt_of_le gl b.size) ((b.cell (p:=⟨gB,oB,none⟩) gl).trans hcell) (h.below b) ra hs (by omega) (by omega));have kn:=IntWalk.i64_in ((n:Int) - 1) (by omega);clear h hcell gl
 go_enter Tryz.func91,Tryz.ntmps91
 go_wp2_with fail
 refine CA.out.mono ?_;rintro e w1 ⟨va,Fa,rfl,ra,fa,b1⟩;have RA:=Lib.hid ra;have B1:=Lib.hid b1;clear ra fa b1 CA
 go_wp2_with fail
 go_loopw [6,7] (fun l i wr=>∃ (k:Nat) (v:Value) (G:List Nat),l=v∧i=.int .i64 k∧k≤n∧Hid ((pSpots 179).rep true wr (spots s n k) [v] G∧Fresh w1.heap.size G∧Below w1.heap.size w1 wr)) (fun _ i _=>n - (intOf i).toNat)
 case atStart =>
  exact ⟨0,_,[w1.heap.size],rfl,rfl,by omega,Lib.hid ⟨slice_of_row (T:=pSpot) (xs:=[]) (Row.new w1 _ _) ⟨rfl,rfl⟩ (by simp [maxLen]),⟨by simp,by simp⟩,(Below.refl _ _).alloc (Nat.le_refl _) _⟩⟩
 case round =>
  obtain ⟨k,vk,G,rfl,rfl,hk,all⟩:=hrel;obtain ⟨rep,fr,hb⟩:=all.out;have REP:=Lib.hid rep;have FR:=Lib.hid fr;have HB:=Lib.hid hb;clear all;obtain ⟨U,un,uc,rfl⟩:=slice_form rep;clear rep fr hb
  by_cases hlt:k < n
  · have gk:(k:Int) < (n:Int):=by omega
    have kw:=IntWalk.i64_in ((k:Int)+1) (by omega);have hwr:=B1.out.trans (HB.out.mono B1.out.size);have C:=Lib.hid (CT.out wr w1 va Fa k hlt hwr (RA.out.below HB.out));have hsn:spotZ s (k:Int) ((n:Int) - 1)=spotN s n k:=rfl;rw [hsn] at C;have hin:=spotN_in hs hn.1 (k:=k);have OKS:=Lib.hid (show ∀ z∈[spotN s n k],I64 z.1∧I64 z.2 by intro z hz; simp only [List.mem_singleton] at hz; subst hz; constructor <;> constructor <;> omega);have SU:=Lib.hid (spots_succ s n k);have SL:=Lib.hid (spots_len s n k);clear hwr hsn hin CT;generalize hsp:spotN s n k=sp at *;obtain ⟨px,py⟩:=sp;dsimp only at C;clear hsp;obtain ⟨UA,ua,uac,rfl⟩:=slice_form RA.out
    go_wp2_with fail
    refine C.out.mono ?_;rintro e w2 ⟨rfl,b2⟩;replace REP:=Lib.hid (REP.out.below b2);replace HB:=Lib.hid (HB.out.trans (b2.mono HB.out.size));clear b2
    go_wp2_with (at_builtin; refine wpList_append_repX (T:=pSpot) (e:=179) (ys:=[(px,py)]) (ec:=[.int .i64 px,.int .i64 py]) rfl (.tmp 16) (.tmp 23) rfl Tryz.underlying176 infoSpot rfl (by decide) rfl (REP.out.alloc _) rfl (repL_pSpot _ OKS.out) (cellsAt_new _ _ _) trivial (by rw [List.append_nil]; exact FR.out.1) (by have:=SL.out; simp only [List.length_singleton,maxLen]; omega) (by have:=SL.out; simp only [List.length_singleton]; omega) ?_; intro v6 w6 F6 r6 o6 q6 x6)
    have hz6:=HB.out.size;have f6:Fresh w1.heap.size F6:=q6 w1.heap.size (by rw [List.append_nil]; exact FR.out) (by simp only [World.size_alloc]; omega);have b6:=(HB.out.alloc hz6 (.cells #[.int .i64 px,.int .i64 py] 179)).trans (o6.below (B:=w1.heap.size) (by simp only [World.size_alloc]; omega) FR.out.2);refine ⟨⟨k+1,v6,F6,rfl,by go_num,by omega,Lib.hid ⟨?_,f6,b6⟩⟩,by simp [intOf]; omega⟩;rw [SU.out];exact r6
  · obtain rfl:k=n:=by omega
    have gk:¬ (k:Int) < (k:Int):=by omega
    clear CT
    go_wp2_with fail
    go_ret;exact ⟨_,G,rfl,REP.out,⟨FR.out.1,fun b hb=>Nat.le_trans B1.out.size (FR.out.2 b hb)⟩,B1.out.trans (HB.out.mono B1.out.size)⟩
def featsK (s:PStroke) (b:BoxZ) (n k:Nat):List PFeat:=(List.range k).map (featZ s b n)
theorem featsK_len (s:PStroke) (b:BoxZ) (n k:Nat):(featsK s b n k).length=k:=by simp [featsK]
theorem featsK_succ (s:PStroke) (b:BoxZ) (n k:Nat):featsK s b n (k+1)=featsK s b n k++[featZ s b n k]:=by simp [featsK,List.range_succ]
def dirK (s:PStroke) (n:Nat):Nat→Int
 | 0=>0
 | k+1=>featD s n k
theorem featD_eq (s:PStroke) (n k:Nat):featD s n k=if k+1 < n∧spotN s n (k+1)≠spotN s n k then dirZ ((spotN s n (k+1)).1 - (spotN s n k).1) ((spotN s n (k+1)).2 - (spotN s n k).2) else dirK s n k:=by
 cases k <;> rfl
theorem featD_last {s:PStroke} {n k:Nat} (h:¬ k+1 < n):featD s n k=dirK s n k:=by rw [featD_eq,if_neg (fun g=>h g.1)]
theorem featD_stay {s:PStroke} {n k:Nat} (h1:(spotN s n (k+1)).1 - (spotN s n k).1=0) (h2:(spotN s n (k+1)).2 - (spotN s n k).2=0):featD s n k=dirK s n k:=by
 rw [featD_eq,if_neg];rintro ⟨-,h⟩;exact h (Prod.ext (by omega) (by omega))
theorem featD_move {s:PStroke} {n k:Nat} (h:k+1 < n) (hd:¬ ((spotN s n (k+1)).1 - (spotN s n k).1=0∧(spotN s n (k+1)).2 - (spotN s n k).2=0)):featD s n k=dirZ ((spotN s n (k+1)).1 - (spotN s n k).1) ((spotN s n (k+1)).2 - (spotN s n k).2):=by
 rw [featD_eq,if_pos ⟨h,fun he=>hd (by rw [he]; omega)⟩]
theorem spotN_box {s:PStroke} {b:BoxZ} (hs:strokeB s=true) (hin:InZ (boxOfZ s) b) {n k:Nat} (hn:2≤n):(b.x1≤(spotN s n k).1∧(spotN s n k).1≤b.x2)∧(b.y1≤(spotN s n k).2∧(spotN s n k).2≤b.y2) :=
 spotZ_in hs (by omega) (by omega) (fun _ hj=>⟨((boxOfZ_pt hj).trans hin).1,((boxOfZ_pt hj).trans hin).2.2.1⟩) (fun _ hj=>⟨((boxOfZ_pt hj).trans hin).2.1,((boxOfZ_pt hj).trans hin).2.2.2⟩)
theorem featZ_ok {s:PStroke} {b:BoxZ} (hs:strokeB s=true) (hin:InZ (boxOfZ s) b) {n k:Nat} (hn:2≤n):pFeatOk (featZ s b n k):=by
 have hsp:=spotN_box hs hin hn (k:=k);have h1:=normZ_small (p:=spotN s n k) (b:=b) hsp.1 hsp.2;have h2:=featD_small s n k;refine ⟨?_,?_,?_⟩
 all_goals
  simp only [featZ];constructor <;> omega
theorem Tryz.infoFeatW:(Tryz.prog.info? 182).map (fun i=>(i.zero,i.size,i.bytes))=some (some (.agg #[.int .i64 0,.int .i64 0,.int .i64 0]),pFeat.size,24):=by kernel_rfl
theorem spec_l08Stroke_c {ob:Bool} {e:TypeId} {s:PStroke} {A:Option Addr} {c gB oB n:Nat} {F:List Nat} {b:BoxZ} (w:World) (gl:gB < w.heap.size) (hcell:w.cell? ⟨gB,oB,none⟩=some (.slice A s.length c)) (h:(pPoints e).rep ob w s [.slice A s.length c] F) (hs:strokeB s=true) (hn:2≤n∧n≤24) (hb:BoxInZ b) (hin:InZ (boxOfZ s) b) :
 Calls Tryz.prog 61 #[.pointer (some ⟨gB,oB,none⟩),.int .i64 (n:Int),.agg #[.int .i64 b.x1,.int .i64 b.y1,.int .i64 b.x2,.int .i64 b.y2]] w (GivesO (pFeats 182) (featsZ s b n) w):=by
 have b0:Below w.heap.size w (w.alloc (.cells #[.int .i64 b.x1,.int .i64 b.y1,.int .i64 b.x2,.int .i64 b.y2] 133)):=(Below.refl _ _).alloc (Nat.le_refl _) _;have CA:=Lib.hid (spec_l06Resample_c (w.alloc (.cells #[.int .i64 b.x1,.int .i64 b.y1,.int .i64 b.x2,.int .i64 b.y2] 133)) (Nat.lt_of_lt_of_le gl b0.size) ((b0.cell (p:=⟨gB,oB,none⟩) gl).trans hcell) (h.below b0) hs hn);have RX:=Row.new w 133 #[.int .i64 b.x1,.int .i64 b.y1,.int .i64 b.x2,.int .i64 b.y2];have l0:w.heap.size < (w.alloc (.cells #[.int .i64 b.x1,.int .i64 b.y1,.int .i64 b.x2,.int .i64 b.y2] 133)).heap.size:=by simp
 have ST:=Lib.hid (And.intro RX (And.intro l0 b0));have CN:=Lib.hid (fun (w:World) (k:Nat)=>spec_l07Normal_c (spotN s n k) b w hb (spotN_box hs hin hn.1 (k:=k)).1 (spotN_box hs hin hn.1 (k:=k)).2);have FO:=Lib.hid (fun k=>featZ_ok hs hin hn.1 (k:=k));have SI:=Lib.hid (fun k=>spotN_in hs hn.1 (k:=k));clear h hcell gl RX l0 b0 hb hin hs
 go_enter Tryz.func61,Tryz.ntmps61
 go_wp2_with fail
 refine CA.out.mono ?_;rintro e w1 ⟨va,Fa,rfl,ra,fa,b1⟩;obtain ⟨RX,l0,b0⟩:=ST.out;have RX1:=Lib.hid (RX.later b1);have B1:=Lib.hid (b0.trans (b1.mono b0.size));have L1:=Nat.lt_of_lt_of_le l0 b1.size;have RA:=Lib.hid ra;clear fa b1 CA ST RX l0 b0 ra;obtain ⟨Au,uc,rfl,-,-,-⟩:=pSpots_open RA.out;rw [spots_len] at RA ⊢
 go_wp2_with fail
 go_loopw [8,9,10] (fun l d i wr=>∃ (k:Nat) (v:Value) (G:List Nat),l=v∧d=.int .i64 (dirK s n k)∧i=.int .i64 k∧k≤n∧Hid ((pFeats 182).rep true wr (featsK s b n k) [v] G∧Fresh w1.heap.size G∧Below w1.heap.size w1 wr)) (fun _ _ i _=>n - (intOf i).toNat)
 case atStart =>
  exact ⟨0,_,[w1.heap.size],rfl,rfl,rfl,by omega,Lib.hid ⟨slice_of_row (T:=pFeat) (xs:=[]) (Row.new w1 _ _) ⟨rfl,rfl⟩ (by simp [maxLen]),⟨by simp,by simp⟩,(Below.refl _ _).alloc (Nat.le_refl _) _⟩⟩
 case round =>
  obtain ⟨k,vk,G,rfl,rfl,rfl,hk,all⟩:=hrel;obtain ⟨rep,fr,hb⟩:=all.out;have REP:=Lib.hid rep;have FR:=Lib.hid fr;have HB:=Lib.hid hb;clear all;obtain ⟨U,un,uc2,rfl⟩:=slice_form rep;clear rep fr
  by_cases hlt:k < n
  · obtain ⟨A',c',he,-,-,hu⟩:=pSpots_open (RA.out.below hb)
    simp only [Value.slice.injEq,spots_len] at he;obtain ⟨hA1,-,hA2⟩:=he;subst hA1;subst hA2;obtain ⟨sb,so,rfl,hsb,-,a0,a1,-⟩:=hu k (by rw [spots_len]; omega);rw [spots_get] at a0 a1;have RX2:=RX1.out.below hb L1;have x0:=RX2.c0;have x1:=RX2.c1;have x2:=RX2.c2;have x3:=RX2.c3;have hbx:=Nat.lt_of_lt_of_le L1 hb.size;have hsi:=SI.out k;have gk:(k:Int) < (n:Int):=by omega
    have kw:=IntWalk.i64_in ((k:Int)+1) (by omega);have FD:=Lib.hid (⟨_,rfl⟩:∃ d,featD s n k=d);have HU:=Lib.hid hu;clear hu hb RX2
    go_upto_if 28 with fail
    go_cut [9] from 18 to 76 (fun d wx=>d=.int .i64 (featD s n k)∧∃ m,wx=wr.drewN m)
    case first =>
     by_cases hl2:k+1 < n
     · obtain ⟨sb',so',e8,-,-,c0,c1,-⟩:=HU.out (k+1) (by rw [spots_len]; omega)
       cases e8;rw [spots_get] at c0 c1;have hsj:=SI.out (k+1);have g1:(k:Int)+1 < (n:Int):=by omega
       have k1:((k:Int)+1).toNat=k+1:=by omega
       have k0:(0:Int)≤(k:Int)+1:=by omega
       obtain ⟨dx,hdx⟩:∃ d,(spotN s n (k+1)).1 - (spotN s n k).1=d:=⟨_,rfl⟩
       obtain ⟨dy,hdy⟩:∃ d,(spotN s n (k+1)).2 - (spotN s n k).2=d:=⟨_,rfl⟩
       have kx:IntKind.i64.wrap ((spotN s n (k+1)).1 - (spotN s n k).1)=dx:=by rw [hdx]; exact IntWalk.i64_in _ (by omega)
       have ky:IntKind.i64.wrap ((spotN s n (k+1)).2 - (spotN s n k).2)=dy:=by rw [hdy]; exact IntWalk.i64_in _ (by omega)
       have CS:=Lib.hid (fun w=>spec_l05Sector_c dx dy w (by omega) (by omega));have FS:=Lib.hid (fun h1 h2=>featD_stay (s:=s) (n:=n) (k:=k) h1 h2);have FM:=Lib.hid (fun hd=>featD_move (s:=s) (n:=n) (k:=k) hl2 hd);rw [hdx,hdy] at FS FM;clear hsi hsj hdx hdy FD HU CN FO SI
       go_wp2_with fail
       go_quiet (fail)
       obtain ⟨m9,rfl⟩:∃ n:Nat,n=nq:=⟨_,rfl⟩
       replace a0:(World.drewN _ m9).cell? _=_:=a0;replace a1:(World.drewN _ m9).cell? _=_:=a1;replace c0:(World.drewN _ m9).cell? _=_:=c0;replace c1:(World.drewN _ m9).cell? _=_:=c1;obtain ⟨w9,hw9⟩:∃ W,W=wr.drewN m9:=⟨_,rfl⟩
       rw [← hw9] at a0 a1 c0 c1 ⊢;have HW:=Lib.hid hw9;clear hw9
       go_wp2_with fail
       go_quiet (fail)
       obtain ⟨m8,rfl⟩:∃ n:Nat,n=nq:=⟨_,rfl⟩
       clear kx ky c0 c1 k1 k0 g1 a0 a1
       by_cases hdx:dx=0
       · by_cases hdy:dy=0
         · have hd:=FS.out hdx hdy
           have HD:=Lib.hid hd;subst hdx;subst hdy;clear hd FS FM CS
           go_wp2_with fail
           go_meet
           case rel=>exact ⟨by rw [HD.out],_,by rw [HW.out,World.drewN_drewN]⟩
         · have hd:=FM.out (fun h=>hdy h.2)
           have HD:=Lib.hid hd;have g2:decide (dy=0)=false:=by simp; omega
           have g3:(dy == 0)=false:=by simp; omega
           have g4:(dy != 0)=true:=by simp; omega
           subst hdx;clear hd FS FM
           go_wp2_with fail
           refine (CS.out _).mono ?_;rintro e w2 ⟨rfl,he⟩;rw [he]
           go_wp2_with fail
           go_meet
           case rel=>exact ⟨by rw [HD.out],_,by rw [HW.out,World.drewN_drewN]⟩
       · have hd:=FM.out (fun h=>hdx h.1)
         have HD:=Lib.hid hd;have g2:decide (dx=0)=false:=by simp; omega
         have g3:(dx == 0)=false:=by simp; omega
         have g4:(dx != 0)=true:=by simp; omega
         clear hd FS FM
         go_wp2_with fail
         refine (CS.out _).mono ?_;rintro e w2 ⟨rfl,he⟩;rw [he]
         go_wp2_with fail
         go_meet
         case rel=>exact ⟨by rw [HD.out],_,by rw [HW.out,World.drewN_drewN]⟩
     · have g1:¬ (k:Int)+1 < (n:Int):=by omega
       have HD:=Lib.hid (featD_last (s:=s) hl2);clear FD HU CN FO SI
       go_wp2_with fail
       go_meet
       case rel=>exact ⟨by rw [HD.out],0,rfl⟩
    case rest =>
     obtain ⟨wq,hwq⟩:∃ W,W=wc:=⟨_,rfl⟩
     subst hwq;obtain ⟨rfl,m,hm⟩:=hcut;obtain ⟨x0,x1,x2,x3⟩:(wq.cell? ⟨w.heap.size,0,none⟩=some (.int .i64 b.x1))∧(wq.cell? ⟨w.heap.size,1,none⟩=some (.int .i64 b.y1))∧(wq.cell? ⟨w.heap.size,2,none⟩=some (.int .i64 b.x2))∧(wq.cell? ⟨w.heap.size,3,none⟩=some (.int .i64 b.y2)):=by rw [hm]; exact ⟨x0,x1,x2,x3⟩
     obtain ⟨a0,a1⟩:(wq.cell? ⟨sb,so+k * 2,none⟩=some (.int .i64 (spotN s n k).1))∧(wq.cell? ⟨sb,so+k * 2+1,none⟩=some (.int .i64 (spotN s n k).2)):=by rw [hm]; exact ⟨a0,a1⟩
     have hsb':sb < wq.heap.size:=by rw [hm]; exact hsb
     have hbx':w.heap.size < wq.heap.size:=by rw [hm]; exact hbx
     have REP0:=REP.out.drewN m;have HB0:=below_drewN HB.out m;rw [← hm] at REP0 HB0;have REP1:=Lib.hid REP0;have HB1:=Lib.hid HB0;clear REP0 HB0 hm hsb hbx HU;have hsb:=hsb';have hbx:=hbx';clear hsb' hbx';have FZ:=Lib.hid (show featZ s b n k=⟨(normZ (spotN s n k) b).1,(normZ (spotN s n k) b).2,featD s n k⟩ from rfl);have OKS:=Lib.hid (FO.out k);have SU:=Lib.hid (featsK_succ s b n k);have SL:=Lib.hid (featsK_len s b n k);have C:=Lib.hid (fun w=>CN.out w k);generalize normZ (spotN s n k) b=np at C FZ;obtain ⟨nx,ny⟩:=np;dsimp only at C FZ;generalize hfd:featD s n k=fd at FZ ⊢;have HFD:=Lib.hid hfd;clear hfd CN FO SI hsi FD
     have KS:∀ w',Below wq.heap.size wq w'→(w'.cell? ⟨w.heap.size,0,none⟩=some (.int .i64 b.x1)∧w'.cell? ⟨w.heap.size,1,none⟩=some (.int .i64 b.y1)∧w'.cell? ⟨w.heap.size,2,none⟩=some (.int .i64 b.x2)∧w'.cell? ⟨w.heap.size,3,none⟩=some (.int .i64 b.y2)∧w'.cell? ⟨sb,so+k * 2,none⟩=some (.int .i64 (spotN s n k).1)∧w'.cell? ⟨sb,so+k * 2+1,none⟩=some (.int .i64 (spotN s n k).2)):=fun w' b =>
      ⟨(b.cell (p:=⟨w.heap.size,0,none⟩) hbx).trans x0,(b.cell (p:=⟨w.heap.size,1,none⟩) hbx).trans x1,(b.cell (p:=⟨w.heap.size,2,none⟩) hbx).trans x2,(b.cell (p:=⟨w.heap.size,3,none⟩) hbx).trans x3,(b.cell (p:=⟨sb,_,none⟩) hsb).trans a0,(b.cell (p:=⟨sb,_,none⟩) hsb).trans a1⟩
     have D0:Below wq.heap.size wq wq.drew:=(Below.refl _ _).drew;have D1:Below wq.heap.size wq (wq.drew.alloc (.cells #[.int .i64 0,.int .i64 0] 179)):=D0.alloc (Nat.le_refl _) _;have gk0:(0:Int)≤(k:Int):=by omega
     go_upto_region 12 with fail
     go_cut [13] from 62 to 67 (fun s13 wx=>∃ gp,s13=.pointer (some ⟨gp,0,none⟩)∧Row wx gp 179 [.int .i64 nx,.int .i64 ny]∧Below wq.heap.size wq wx)
     case first =>
      go_region_held3 (fun w':World=>w'.cell? ⟨w.heap.size,0,none⟩=some (.int .i64 b.x1)∧w'.cell? ⟨w.heap.size,1,none⟩=some (.int .i64 b.y1)∧w'.cell? ⟨w.heap.size,2,none⟩=some (.int .i64 b.x2)∧w'.cell? ⟨w.heap.size,3,none⟩=some (.int .i64 b.y2)∧w'.cell? ⟨sb,so+k * 2,none⟩=some (.int .i64 (spotN s n k).1)∧w'.cell? ⟨sb,so+k * 2+1,none⟩=some (.int .i64 (spotN s n k).2)) (first | exact KS _ D0 | exact KS _ D1 | exact KS _ (D0.trans (b3.mono D0.size)) | exact KS _ (D1.trans (b3.mono D1.size)) | exact KS _ ((D0.trans (b3.mono D0.size)).alloc (Nat.le_trans D0.size b3.size) _) | exact KS _ (((D1.trans (b3.mono D1.size)).setCell (p:=⟨wq.heap.size,0,none⟩) (Nat.le_refl _) _).setCell (p:=⟨wq.heap.size,1,none⟩) (Nat.le_refl _) _) | go_keep) (first | (go_at_call 93; refine (C.out _).mono ?_; rintro e w3 ⟨rfl,b3⟩; (try (have rn:Row w3 wq.heap.size 179 [.int .i64 0,.int .i64 0]:=(Row.new wq.drew 179 #[.int .i64 0,.int .i64 0]).later b3; have v0:w3.cell? ⟨wq.heap.size,0,none⟩=some (.int .i64 0):=rn.c0; have v1:w3.cell? ⟨wq.heap.size,1,none⟩=some (.int .i64 0):=rn.c1; have vF:∀ i,w3.frozen? ⟨wq.heap.size,i,none⟩=false:=rn.frozen))))
      all_goals
       go_wp2_with fail
       go_meet
       case rel =>
        first
         | exact ⟨_,rfl,(rn.set 0 (.int .i64 nx)).set 1 (.int .i64 ny),((D1.trans (b3.mono D1.size)).setCell (p:=⟨wq.heap.size,0,none⟩) (Nat.le_refl _) (.int .i64 nx)).setCell (p:=⟨wq.heap.size,1,none⟩) (Nat.le_refl _) (.int .i64 ny)⟩
         | exact ⟨_,rfl,Row.new w3 179 #[.int .i64 nx,.int .i64 ny],(D0.trans (b3.mono D0.size)).alloc (Nat.le_trans D0.size b3.size) (.cells #[.int .i64 nx,.int .i64 ny] 179)⟩
     case rest =>
      obtain ⟨wp,hwp⟩:∃ W,W=wc:=⟨_,rfl⟩
      subst hwp;obtain ⟨gp,rfl,rs,ds⟩:=hcut;have y0:=rs.c0;have y1:=rs.c1;have REP2:=Lib.hid (REP1.out.below ds);have HB2:=Lib.hid (HB1.out.trans (ds.mono HB1.out.size));clear rs ds D0 D1 KS x0 x1 x2 x3 a0 a1 REP HB C REP1 HB1
      go_wp2_with (at_builtin; refine wpList_append_repX (T:=pFeat) (e:=182) (ys:=[⟨nx,ny,fd⟩]) (ec:=[.int .i64 nx,.int .i64 ny,.int .i64 fd]) rfl (.tmp 68) (.tmp 75) rfl Tryz.underlying108 Tryz.infoFeatW rfl (by decide) rfl (REP2.out.alloc _) rfl (repL_pFeat [⟨nx,ny,fd⟩] (by intro z hz; simp only [List.mem_singleton] at hz; subst hz; rw [← FZ.out]; exact OKS.out)) (cellsAt_new _ _ _) trivial (by rw [List.append_nil]; exact FR.out.1) (by have:=SL.out; simp only [List.length_singleton,maxLen]; omega) (by have:=SL.out; simp only [List.length_singleton]; omega) ?_; intro v6 w6 F6 r6 o6 q6 x6)
      have hz6:=HB2.out.size;have f6:Fresh w1.heap.size F6:=q6 w1.heap.size (by rw [List.append_nil]; exact FR.out) (by simp only [World.size_alloc] at hz6 ⊢; omega);have b6:=(HB2.out.alloc hz6 (.cells #[.int .i64 nx,.int .i64 ny,.int .i64 fd] 182)).trans (o6.below (B:=w1.heap.size) (by simp only [World.size_alloc] at hz6 ⊢; omega) FR.out.2);refine ⟨⟨k+1,v6,F6,rfl,by rw [← HFD.out]; rfl,by go_num,by omega,Lib.hid ⟨?_,f6,b6⟩⟩,by simp [intOf]; omega⟩;rw [SU.out,FZ.out];exact r6
  · obtain rfl:k=n:=by omega
    have gk:¬ (k:Int) < (k:Int):=by omega
    clear CN FO SI hb
    go_wp2_with fail
    go_ret;exact ⟨_,G,rfl,REP.out,⟨FR.out.1,fun b hb=>Nat.le_trans B1.out.size (FR.out.2 b hb)⟩,B1.out.trans (HB.out.mono B1.out.size)⟩
end Go.Proofs.YtafgknkcjohjeaaGreatDoor

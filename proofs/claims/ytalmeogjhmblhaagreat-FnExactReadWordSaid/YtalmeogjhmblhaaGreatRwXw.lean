/- Features of ink: plain facts, and the reference. Conditions: none. -/
import Derived.Test.YtalmeogjhmblhaaGreatTkw
import Derived.Test.YtalmeogjhmblhaaGreatRwPw
import Derived.Test.YtalmeogjhmblhaaGreatRwWw
import Derived.Test.YtalmeogjhmblhaaGreatRwLw
import Derived.Test.YtalmeogjhmblhaaGreatRyUw
import Derived.Test.YtalmeogjhmblhaaGreatRwFw
import Derived.Test.YtalmeogjhmblhaaGreatRoww
namespace Go.Proofs.YtalmeogjhmblhaaGreat
open Go Go.RowKit
set_option maxHeartbeats 8000000
set_option maxRecDepth 100000
theorem slice_elems {α:Type} {T:Ty α} {e:TypeId} {o:Bool} {w:World} {xs:List α} {v:Value} {F:List Nat} (h:(T.slice e).rep o w xs [v] F) :
 ∃ A c ec F0 F1,v=.slice A xs.length c∧F=F0++F1∧repL T o w xs ec F1∧CellsAt w A ec:=by
 obtain ⟨A,c,ec,F0,F1,hv,rfl,-,-,hr,-,ha,-⟩:=h;simp only [List.cons.injEq,and_true] at hv;subst hv;refine ⟨A,c,ec,F0,F1,rfl,rfl,hr,fun h0=>?_⟩;have hl:=repL_len hr
 have:0 < xs.length:=by
  rcases Nat.eq_zero_or_pos xs.length with h | h
  · rw [h,Nat.zero_mul] at hl; omega
  · exact h
 obtain ⟨b,off,rfl,-,hc⟩:=ha this;exact ⟨b,off,rfl,hc⟩
theorem boxAllZ_small {xs:List PStroke} (hs:∀ s∈xs,strokeB s=true) (h1:1≤xs.length):BoxInZ (boxAllZ xs):=by
 have hin:InZ (boxAllZ xs) ⟨0,0,4095,4095⟩:=by
  have all:∀ s∈xs,InZ (boxOfZ s) ⟨0,0,4095,4095⟩:=fun s hin=>by
   have:=boxOfZ_small (hs s hin);unfold BoxInZ at this;simp only [InZ]; omega
  refine foldZ_least _ _ xs _ ?_ all;rw [strk_get h1]; exact all _ (List.getElem_mem _)
 have h0:=boxAllZ_in (List.getElem_mem (l:=xs) (n:=0) h1);have h2:=boxOfZ_small (hs _ (List.getElem_mem (l:=xs) (n:=0) h1));unfold BoxInZ at h2 ⊢;simp only [InZ] at h0 hin;omega
def featsU (xs:List PStroke) (n k:Nat):List PFeat:=(xs.take k).flatMap fun s=>featsZ s (boxAllZ xs) n
theorem featsU_all (xs:List PStroke) (n:Nat):featsU xs n xs.length=featsInk xs n:=by rw [featsU,List.take_length]; rfl
theorem featsU_succ {xs:List PStroke} {n k:Nat} (h:k < xs.length):featsU xs n (k+1)=featsU xs n k++featsZ xs[k] (boxAllZ xs) n:=by
 rw [featsU,List.take_succ_eq_append_getElem h,List.flatMap_append];simp [featsU]
theorem featsZ_len (s:PStroke) (b:BoxZ) (n:Nat):(featsZ s b n).length=n:=by simp [featsZ]
theorem featsU_len {xs:List PStroke} {n:Nat}:∀ {k:Nat},k≤xs.length→(featsU xs n k).length=k * n
 | 0,_=>by simp [featsU]
 | k+1,h=>by rw [featsU_succ (by omega),List.length_append,featsU_len (by omega),featsZ_len,Nat.add_mul]; omega
theorem spec_l08Of_c {ob:Bool} {pe e:TypeId} {xs:List PStroke} {A:Option Addr} {c gB oB n:Nat} {F:List Nat} (w:World) (gl:gB < w.heap.size) (hcell:w.cell? ⟨gB,oB,none⟩=some (.slice A xs.length c)) (h:(pStrokes pe e).rep ob w xs [.slice A xs.length c] F) (hs:∀ s∈xs,strokeB s=true) (h1:1≤xs.length) (h16:xs.length≤16) (hn:2≤n∧n≤24) :
 Calls Tryz.prog 178 #[.pointer (some ⟨gB,oB,none⟩),.int .i64 (n:Int)] w (GivesO (pFeats 347) (featsInk xs n) w):=by
 have CA:=Lib.hid (spec_l02All_c w gl hcell h hs h1);have hbx:=boxAllZ_small hs h1;have CS:=Lib.hid (fun (wr:World) (s:PStroke) (hin:s∈xs) (A:Option Addr) (c g0 o0:Nat) (Fk:List Nat) (gl0:g0 < wr.heap.size) (hc0:wr.cell? ⟨g0,o0,none⟩=some (.slice A s.length c)) (r0:(pPoints pe).rep ob wr s [.slice A s.length c] Fk)=>spec_l08Stroke_c (n:=n) wr gl0 hc0 r0 (hs s hin) hn hbx (boxAllZ_in hin));have H:=Lib.hid h;have GL:=Lib.hid gl;have HC:=Lib.hid hcell;have HOK:=Lib.hid (fun s (hin:s∈xs) k=>featZ_ok (hs s hin) (boxAllZ_in hin) hn.1 (k:=k));clear h hbx hs
 go_enter Tryz.func178,Tryz.ntmps178
 go_wp2_with fail
 refine CA.out.mono ?_;rintro e w1 ⟨rfl,b1⟩;unfold boxVZ;generalize hbb:boxAllZ xs=bb at CS HOK ⊢;have HBB:=Lib.hid hbb;have RX:=Row.new w1 310 #[.int .i64 bb.x1,.int .i64 bb.y1,.int .i64 bb.x2,.int .i64 bb.y2];have B1:=b1.alloc b1.size (.cells #[.int .i64 bb.x1,.int .i64 bb.y1,.int .i64 bb.x2,.int .i64 bb.y2] 310)
 go_upto_region 2 with fail
 have l1:w1.heap.size < (w1.alloc (.cells #[.int .i64 bb.x1,.int .i64 bb.y1,.int .i64 bb.x2,.int .i64 bb.y2] 310)).heap.size:=by simp
 generalize w1.alloc (.cells #[.int .i64 bb.x1,.int .i64 bb.y1,.int .i64 bb.x2,.int .i64 bb.y2] 310)=w2 at RX B1 l1 ⊢;have HRX:=Lib.hid RX;have HB1:=Lib.hid B1;have hsz:=b1.size;have x0:=(B1.cell (p:=⟨gB,oB,none⟩) GL.out).trans HC.out;clear RX B1 CA hbb b1 hcell gl
 go_wp2_with fail
 clear x0
 go_loopw [6,7] (fun l i wr=>∃ (k:Nat) (v:Value) (G:List Nat),l=v∧i=.int .i64 k∧k≤xs.length∧Hid ((pFeats 347).rep true wr (featsU xs n k) [v] G∧Fresh w2.heap.size G∧Below w2.heap.size w2 wr)) (fun _ i _=>xs.length - (intOf i).toNat)
 case atStart =>
  exact ⟨0,_,[w2.heap.size],rfl,rfl,by omega,Lib.hid ⟨slice_of_row (T:=pFeat) (xs:=[]) (Row.new w2 _ _) ⟨rfl,rfl⟩ (by simp [maxLen]),⟨by simp,by simp⟩,(Below.refl _ _).alloc (Nat.le_refl _) _⟩⟩
 case round =>
  obtain ⟨k,vk,G,rfl,rfl,hk,all⟩:=hrel;obtain ⟨rep,fr,hb⟩:=all.out;have hbw:Below w.heap.size w wr:=HB1.out.trans (hb.mono HB1.out.size);have x0:=(hbw.cell (p:=⟨gB,oB,none⟩) GL.out).trans HC.out;have gB':=Nat.lt_of_lt_of_le GL.out hbw.size;obtain ⟨U,un,uc2,rfl⟩:=slice_form rep
  by_cases hlt:k < xs.length
  · obtain ⟨A',c',he,-,-,hr⟩:=pStrokes_open (H.out.below hbw)
    cases he;obtain ⟨bs,os,u1,F1,rfl,hbq,-,r1,-,c1⟩:=hr k hlt;obtain ⟨A1,k1,rfl,-,-,-⟩:=pPoints_open r1;have gk:(k:Int) < (xs.length:Int):=by omega
    have gk0:(0:Int)≤(k:Int):=by omega
    have kw:=IntWalk.i64_in ((k:Int)+1) (by omega);have HN:=Lib.hid (featsU_succ (n:=n) hlt);have HL:=Lib.hid (featsU_len (n:=n) (k:=k) hk);have hin:=List.getElem_mem hlt;have HIN:=Lib.hid hin;have rx:=HRX.out.below hb l1;have hS:(fun w':World=>w'.cell? ⟨gB,oB,none⟩=some (.slice (some ⟨bs,os,none⟩) xs.length c)∧w'.cell? ⟨w1.heap.size,0,none⟩=some (.int .i64 bb.x1)∧w'.cell? ⟨w1.heap.size,1,none⟩=some (.int .i64 bb.y1)∧w'.cell? ⟨w1.heap.size,2,none⟩=some (.int .i64 bb.x2)∧w'.cell? ⟨w1.heap.size,3,none⟩=some (.int .i64 bb.y2)) wr.drew:=⟨x0,rx.c0,rx.c1,rx.c2,rx.c3⟩
    have HS:=Lib.hid (fun (w':World) (b:Below w2.heap.size w2 w')=>show (w'.cell? ⟨gB,oB,none⟩=some (.slice (some ⟨bs,os,none⟩) xs.length c)∧w'.cell? ⟨w1.heap.size,0,none⟩=some (.int .i64 bb.x1)∧w'.cell? ⟨w1.heap.size,1,none⟩=some (.int .i64 bb.y1)∧w'.cell? ⟨w1.heap.size,2,none⟩=some (.int .i64 bb.x2)∧w'.cell? ⟨w1.heap.size,3,none⟩=some (.int .i64 bb.y2)) from
     ⟨((HB1.out.trans (b.mono HB1.out.size)).cell (p:=⟨gB,oB,none⟩) GL.out).trans HC.out,(HRX.out.below b l1).c0,(HRX.out.below b l1).c1,(HRX.out.below b l1).c2,(HRX.out.below b l1).c3⟩)
    have REP:=Lib.hid rep.drew;have HB:=Lib.hid hb.drew;have R1:=Lib.hid r1.drew;have FR:=Lib.hid fr;have hbq':bs < wr.drew.heap.size:=hbq;have c1':wr.drew.cell? ⟨bs,os+k,none⟩=some (.slice A1 xs[k].length k1):=c1;clear hr r1 rx rep hb fr all hin
    go_upto_region 6 with fail
    refine wp_region_held_drew (S:=(fun w':World=>w'.cell? ⟨gB,oB,none⟩=some (.slice (some ⟨bs,os,none⟩) xs.length c)∧w'.cell? ⟨w1.heap.size,0,none⟩=some (.int .i64 bb.x1)∧w'.cell? ⟨w1.heap.size,1,none⟩=some (.int .i64 bb.y1)∧w'.cell? ⟨w1.heap.size,2,none⟩=some (.int .i64 bb.x2)∧w'.cell? ⟨w1.heap.size,3,none⟩=some (.int .i64 bb.y2))) (by kernel_rfl) hS (fun _=>?_);clear x0 c1 hbq hbw;generalize wr.drew=we at REP HB R1 hbq' c1' hS ⊢;refine tJ 0 hS ?_;refine tJ 1 hS ?_;refine tJ 2 hS ?_;refine tJ 3 hS ?_;refine tJ 4 hS ?_;refine tJ 5 hS ?_;refine tJ 6 hS ?_;refine tJ 7 hS ?_;refine tJ 8 hS ?_;refine rJ 9 fun K hK=>?_
    refine step_call 217 #[.tmp 26,.tmp 27,.tmp 28] _ rfl rfl #[.pointer (some ⟨bs,os+k,none⟩),.int .i64 (n:Int),.agg #[.int .i64 bb.x1,.int .i64 bb.y1,.int .i64 bb.x2,.int .i64 bb.y2]] Tryz.call217 (by go_simp) (CS.out we xs[k] HIN.out A1 k1 bs (os+k) F1 hbq' c1' R1.out) ?_;rintro e w3 ⟨u3,F3,rfl,r3,f3,b3⟩;refine ⟨_,rfl,?_⟩;replace hS:=HS.out w3 (HB.out.trans (b3.mono HB.out.size));replace HB:=Lib.hid (HB.out.trans (b3.mono HB.out.size));replace REP:=Lib.hid (REP.out.below b3);clear b3 R1 c1' hbq';refine bJ hK hS ?_;clear hK K;simp only [Act.put,pA,pB,pC];obtain ⟨A3,k3,ec,G0,G1,rfl,rfl,hel,hat⟩:=slice_elems r3;obtain ⟨-,hG1⟩:=repL_pFeat_inv hel;subst hG1;rw [featsZ_len] at *;have hkn:k * n≤16 * 24:=Nat.mul_le_mul (by omega) hn.2;refine rJ 10 fun K hK=>?_
    refine step_append_repX (T:=pFeat) (e:=347) (ys:=featsZ xs[k] bb n) (ec:=ec) rfl (.tmp 20) (.tmp 29) rfl Tryz.underlying258 Tryz.infoFeatW rfl (by decide) rfl REP.out (by rw [featsZ_len]; rfl) hel hat (by rw [List.append_nil]; exact FR.out.1) (by rw [HL.out,featsZ_len]; simp only [maxLen]; omega) (by rw [HL.out,featsZ_len]; omega) ?_;intro v6 w6 F6 r6 o6 f6 x6;obtain ⟨V6,n6,c6,rfl⟩:=slice_form r6;have HB6:=HB.out.trans (o6.below (B:=w2.heap.size) HB.out.size FR.out.2);have f6':=f6 w2.heap.size (by rw [List.append_nil]; exact FR.out) HB.out.size;replace hS:=HS.out w6 HB6;refine bJ hK hS ?_;clear hK K;have ST:=Lib.hid (And.intro r6 (And.intro f6' HB6));clear r6 o6 f6 x6 HB6 f6' hat hel r3 f3;refine tJ 11 hS ?_;refine wpAnyH_done (by kernel_rfl) ?_ _;clear hS
    go_wp2_with fail
    exact ⟨⟨k+1,_,F6,rfl,by go_num,by omega,Lib.hid ⟨by rw [HN.out,HBB.out]; exact ST.out.1,ST.out.2.1,ST.out.2.2⟩⟩,by simp [intOf]; omega⟩
  · obtain rfl:k=xs.length:=by omega
    have gk:¬ (xs.length:Int) < (xs.length:Int):=by omega
    rw [featsU_all] at rep;have REP:=Lib.hid rep;have FR:=Lib.hid fr;have HB:=Lib.hid hb;clear all rep fr hb hbw
    go_wp2_with fail
    go_ret;exact ⟨_,G,rfl,REP.out,⟨FR.out.1,fun b hb=>Nat.le_trans HB1.out.size (FR.out.2 b hb)⟩,HB1.out.trans (HB.out.mono HB1.out.size)⟩
def hI (o:Option Nat):Int:=match o with | some h=>(h:Int) | none=>-1
theorem homeI_hI (xs:List PStroke) (k:Nat):homeI xs k=hI (homeZ xs k):=rfl
def hmN (xs:List PStroke) (s k:Nat):Option Nat × Int:=homeN (fun j=>isDotZ (strk xs j)) (fun j=>commonZ (boxOfZ (strk xs s)) (boxOfZ (strk xs j))) k
theorem homeI_not {xs:List PStroke} {s:Nat} (h:isDotZ (strk xs s)=false):homeI xs s=-1:=by
 rw [homeI_hI,homeZ,if_neg (by rw [h]; decide)]; rfl
theorem homeI_dot {xs:List PStroke} {s:Nat} (h:isDotZ (strk xs s)=true):homeI xs s=hI (hmN xs s s).1:=by
 rw [homeI_hI,homeZ,if_pos h]; rfl
theorem common_small {b d:BoxZ} (hb:BoxInZ b) (hd:BoxInZ d):-5000≤commonZ d b∧commonZ d b≤5000:=by
 unfold BoxInZ at hb hd; unfold commonZ; omega
theorem hmN_small {xs:List PStroke} {s:Nat} (hs:∀ x∈xs,strokeB x=true) (hsx:s < xs.length):∀ k,k≤xs.length→1≤(hmN xs s k).2∧(hmN xs s k).2≤5000
 | 0,_=>by simp [hmN,homeN]
 | k+1,h=>by
   have ih:=hmN_small hs hsx k (by omega);have hb:BoxInZ (boxOfZ (strk xs k)):=by rw [strk_get (by omega)]; exact boxOfZ_small (hs _ (List.getElem_mem _))
   have hd:BoxInZ (boxOfZ (strk xs s)):=by rw [strk_get hsx]; exact boxOfZ_small (hs _ (List.getElem_mem _))
   have hc:=common_small hb hd;unfold hmN at ih ⊢;rw [homeN_succ]
   split
   · dsimp only; omega
   · exact ih
theorem impl_homeOf_c {o:Bool} {pe st:TypeId} {xs:List PStroke} {v:Value} {F:List Nat} {s:Nat} (w:World) (h:(pStrokes pe st).rep o w xs [v] F) (hs:∀ x∈xs,strokeB x=true) (hsx:s < xs.length) (h16:xs.length≤16) :
 Calls Tryz.prog 234 #[.agg #[v],.int .i64 (s:Int)] w fun e w'=>e=.returned (.int .i64 (homeI xs s))∧Below w.heap.size w w':=by
 obtain ⟨A,c,rfl,hc1,hc2,hr⟩:=pStrokes_open h;have CD:=Lib.hid (fun (wr:World) (k:Nat) (hk:k < xs.length) (u:Value) (Fk:List Nat) (r:(pPoints pe).rep o wr xs[k] [u] Fk)=>impl_isDot_c wr r (hs _ (List.getElem_mem hk)));have CB:=Lib.hid (fun (wr:World) (k:Nat) (hk:k < xs.length) (u:Value) (Fk:List Nat) (r:(pPoints pe).rep o wr xs[k] [u] Fk)=>have hl:=strokeB_both (hs _ (List.getElem_mem hk)); impl_boxOfStroke_c wr r hl.1 (by omega));have SM:=Lib.hid (fun k hk=>hmN_small hs hsx k hk);have BS:=Lib.hid (fun k (hk:k < xs.length)=>(boxOfZ_small (hs _ (List.getElem_mem hk)):BoxInZ (boxOfZ xs[k])));have H:=Lib.hid h;have R0:=Row.new w 59 #[.slice A xs.length c];have b0:Below w.heap.size w (w.alloc (.cells #[.slice A xs.length c] 59)):=(Below.refl _ _).alloc (Nat.le_refl _) _;have gs:(s:Int) < (xs.length:Int):=by omega
 have gs0:(0:Int)≤(s:Int):=by omega
 have gs1:(s:Int)≤(xs.length:Int):=by omega
 have gs2:(s:Int)≤(c:Int):=by omega
 have HST:=Lib.hid (strk_get hsx);clear hr h hs
 go_enter Tryz.func234,Tryz.ntmps234
 go_upto_region 1 with fail
 generalize w.alloc (.cells #[.slice A xs.length c] 59)=w0 at R0 b0 ⊢;have HR0:=Lib.hid R0;have B0:=Lib.hid b0;obtain ⟨A',c',he,-,-,hr⟩:=pStrokes_open (H.out.below b0);cases he;obtain ⟨bs,os,us,Fs,rfl,hbs,-,rs,-,cs⟩:=hr s hsx;obtain ⟨As,ns,ks,rfl⟩:=slice_form rs;have RS:=Lib.hid rs;have x0:=R0.c0;clear hr R0 b0
 go_wp2_with fail
 refine (CD.out w0 s hsx _ Fs rs).mono ?_;rintro e w1 ⟨rfl,b1⟩;have R1:=HR0.out.later b1;have HR1:=Lib.hid R1;have B1:=Lib.hid (B0.out.trans (b1.mono B0.out.size));have RS1:=Lib.hid (rs.below b1);replace cs:=(b1.cell (p:=⟨bs,_,none⟩) hbs).trans cs;replace x0:=R1.c0;clear b1 rs R1 RS;cases hd:isDotZ xs[s]
 · have HRES:=Lib.hid (homeI_not (xs:=xs) (s:=s) (by rw [HST.out]; exact hd))
   clear hd
   go_wp2_with fail
   go_ret;exact ⟨by rw [HRES.out]; rfl,B1.out⟩
 · have HRES:=Lib.hid (homeI_dot (xs:=xs) (s:=s) (by rw [HST.out]; exact hd))
   clear hd
   go_wp2_with fail
   refine (CB.out w1 s hsx _ Fs RS1.out).mono ?_;rintro e w2 ⟨rfl,b2⟩;unfold boxVZ;have hdb:=BS.out s hsx;have HDB:=Lib.hid (show boxOfZ (strk xs s)=boxOfZ xs[s] by rw [HST.out]);generalize boxOfZ xs[s]=d at hdb HDB ⊢;have RD:=Row.new w2 310 #[.int .i64 d.x1,.int .i64 d.y1,.int .i64 d.x2,.int .i64 d.y2];have b3:=b2.alloc b2.size (.cells #[.int .i64 d.x1,.int .i64 d.y1,.int .i64 d.x2,.int .i64 d.y2] 310);have R3:=HR1.out.later b3;have B3:=Lib.hid (B1.out.trans (b3.mono B1.out.size));have l3:w2.heap.size < (w2.alloc (.cells #[.int .i64 d.x1,.int .i64 d.y1,.int .i64 d.x2,.int .i64 d.y2] 310)).heap.size:=by simp
   go_upto_region 4 with fail
   generalize w2.alloc (.cells #[.int .i64 d.x1,.int .i64 d.y1,.int .i64 d.x2,.int .i64 d.y2] 310)=w3 at RD R3 B3 l3 b3 ⊢;replace x0:=R3.c0;have HRD:=Lib.hid RD;clear RD R3 b2 b3 cs RS1 HR1 B1 HR0 B0 hbs
   go_wp2_with fail
   clear x0
   go_loopw [6,7,30] (fun hm mo i wr=>∃ k:Nat,i=.int .i64 k∧k≤s∧hm=.int .i64 (hI (hmN xs s k).1)∧mo=.int .i64 (hmN xs s k).2∧Hid (Below w3.heap.size w3 wr)) (fun _ _ i _=>s - (intOf i).toNat)
   case atStart=>exact ⟨0,rfl,Nat.zero_le _,rfl,rfl,Lib.hid (Below.refl _ _)⟩
   case round =>
    obtain ⟨k,rfl,hk,rfl,rfl,hb⟩:=hrel
    by_cases hlt:k < s
    · have hkx:k < xs.length:=by omega
      obtain ⟨A',c',he,-,-,hr⟩:=pStrokes_open (H.out.below (B3.out.trans (hb.out.mono B3.out.size)));cases he;obtain ⟨bk,ok,uk,Fk,e8,hbk,-,rk,-,ck⟩:=hr k hkx;cases e8;obtain ⟨Ak,nk,kk,rfl⟩:=slice_form rk;have gk:(k:Int) < (s:Int):=by omega
      have gk0:(0:Int)≤(k:Int):=by omega
      have kw:=IntWalk.i64_in ((k:Int)+1) (by omega);have hal:Below wr.heap.size wr (wr.alloc (.cells #[.slice Ak nk kk] 124)):=(Below.refl _ _).alloc (Nat.le_refl _) _;have RK:=Row.new wr 124 #[.slice Ak nk kk];have lk:wr.heap.size < (wr.alloc (.cells #[.slice Ak nk kk] 124)).heap.size:=by simp
      have HB:=Lib.hid (hb.out.trans (hal.mono hb.out.size));have HRK:=Lib.hid (rk.below hal);have hbx:=BS.out k hkx;have hsm:=SM.out k (by omega);have hcm:=common_small hbx hdb
      have HSUC:=Lib.hid (show hmN xs s (k+1)=if isDotZ xs[k]=false∧(hmN xs s k).2≤commonZ d (boxOfZ xs[k]) then (some k,commonZ d (boxOfZ xs[k])) else hmN xs s k by
       have:=homeN_succ (fun j=>isDotZ (strk xs j)) (fun j=>commonZ (boxOfZ (strk xs s)) (boxOfZ (strk xs j))) k;rw [strk_get hkx,HDB.out] at this;unfold hmN;rw [HDB.out];exact this)
      have CBK:=Lib.hid (fun wr r=>CB.out wr k hkx (.slice Ak nk kk) Fk r);have CDK:=Lib.hid (fun wr r=>CD.out wr k hkx (.slice Ak nk kk) Fk r);generalize hmN xs s k=hm at hsm HSUC ⊢;have hcz:commonZ d (boxOfZ xs[k])=min (boxOfZ xs[k]).x2 (d.x2+40) - max (boxOfZ xs[k]).x1 (d.x1 - 40)+1:=rfl;generalize boxOfZ xs[k]=b at hbx hcm HSUC CBK hcz;generalize commonZ d b=cm at hcm HSUC hcz;obtain ⟨ho,mo⟩:=hm;dsimp only at hsm HSUC ⊢;clear hr rk hal hb
      go_upto_region 8 with fail
      generalize wr.alloc (.cells #[.slice Ak nk kk] 124)=wq at RK lk HB HRK ⊢;have y0:=RK.c0;have HRKB:=Lib.hid RK;clear RK ck hbk
      go_wp2_with fail
      refine (CBK.out wq HRK.out).mono ?_;rintro e w5 ⟨rfl,b5⟩;unfold boxVZ;have RB:=Row.new w5 310 #[.int .i64 b.x1,.int .i64 b.y1,.int .i64 b.x2,.int .i64 b.y2];have b6:=b5.alloc b5.size (.cells #[.int .i64 b.x1,.int .i64 b.y1,.int .i64 b.x2,.int .i64 b.y2] 310)
      go_upto_region 9 with fail
      generalize w5.alloc (.cells #[.int .i64 b.x1,.int .i64 b.y1,.int .i64 b.x2,.int .i64 b.y2] 310)=w6 at RB b6 ⊢;have HB6:=Lib.hid (HB.out.trans (b6.mono HB.out.size));have RD6:=HRD.out.below HB6.out l3;have d0:=RD6.c0;have d2:=RD6.c2;have c0:=RB.c0;have c2:=RB.c2;have RK6:=HRKB.out.later b6;have HRK6:=Lib.hid (HRK.out.below b6);replace y0:=RK6.c0;clear RB RD6 RK6 b5 b6 HRKB HRK HB;unfold BoxInZ at hbx;have hdb':=hdb;unfold BoxInZ at hdb';have z1:=IntWalk.i64_in (d.x2+40) (by omega);have z2:=IntWalk.i64_in (d.x1 - 40) (by omega);have z3:IntKind.i64.wrap (min b.x2 (d.x2+40) - max b.x1 (d.x1 - 40))=cm - 1:=(IntWalk.i64_in _ (by omega)).trans (by omega);have z4:IntKind.i64.wrap (cm - 1+1)=cm:=(IntWalk.i64_in _ (by omega)).trans (by omega);clear hbx hdb' hcz
      go_wp2_with fail
      refine (CDK.out w6 HRK6.out).mono ?_;rintro e w7 ⟨rfl,b7⟩;have HB7:=Lib.hid (HB6.out.trans (b7.mono HB6.out.size));clear b7 d0 d2 c0 c2 y0 HRK6 HB6;cases hdt:isDotZ xs[k]
      · rw [hdt] at HSUC
        by_cases hmc:mo≤cm
        · have e1:decide (mo≤cm)=true:=decide_eq_true hmc
          have HS2:=Lib.hid (show hmN xs s (k+1)=(some k,cm) by rw [HSUC.out,if_pos ⟨rfl,hmc⟩]);clear hdt hmc HSUC
          go_wp2_with fail
          exact ⟨⟨k+1,by go_num,by omega,by rw [HS2.out]; rfl,by rw [HS2.out],HB7⟩,by simp [intOf]; omega⟩
        · have e1:decide (mo≤cm)=false:=decide_eq_false hmc
          have HS2:=Lib.hid (show hmN xs s (k+1)=(ho,mo) by rw [HSUC.out,if_neg (fun g=>hmc g.2)]);clear hdt hmc HSUC
          go_wp2_with fail
          exact ⟨⟨k+1,by go_num,by omega,by rw [HS2.out],by rw [HS2.out],HB7⟩,by simp [intOf]; omega⟩
      · rw [hdt] at HSUC
        have HS2:=Lib.hid (show hmN xs s (k+1)=(ho,mo) by rw [HSUC.out,if_neg (fun g=>by cases g.1)]);clear hdt HSUC
        go_wp2_with fail
        exact ⟨⟨k+1,by go_num,by omega,by rw [HS2.out],by rw [HS2.out],HB7⟩,by simp [intOf]; omega⟩
    · obtain rfl:k=s:=by omega
      have gk:¬ (k:Int) < (k:Int):=by omega
      have HB7:=B3.out.trans (hb.out.mono B3.out.size);clear hb
      go_wp2_with fail
      go_ret;exact ⟨by rw [HRES.out]; rfl,HB7⟩
def hrN (xs:List PStroke) (s k:Nat):Option Nat × Int:=homeR (fun j=>isDotZ (strk xs j)) (fun j=>commonZ (boxOfZ (strk xs s)) (boxOfZ (strk xs j))) k
theorem hrN_eq (xs:List PStroke) (s k:Nat):(hrN xs s k).1=(hmN xs s k).1:=(homeR_eq _ _ k).1
theorem spec_l14Home_c {o:Bool} {pe st:TypeId} {xs:List PStroke} {A:Option Addr} {c gB oB:Nat} {F:List Nat} {s:Nat} (w:World) (gl:gB < w.heap.size) (hcell:w.cell? ⟨gB,oB,none⟩=some (.slice A xs.length c)) (h:(pStrokes pe st).rep o w xs [.slice A xs.length c] F) (hs:∀ x∈xs,strokeB x=true) (hsx:s < xs.length) (h16:xs.length≤16) :
 Calls Tryz.prog 213 #[.pointer (some ⟨gB,oB,none⟩),.int .i64 (s:Int)] w fun e w'=>e=.returned (.int .i64 (homeI xs s))∧Below w.heap.size w w':=by
 obtain ⟨A',c',he,hc1,hc2,hr⟩:=pStrokes_open h;cases he;have CD:=Lib.hid (fun (wr:World) (k:Nat) (hk:k < xs.length) (Ak:Option Addr) (ck gk ok:Nat) (Fk:List Nat) (gl0:gk < wr.heap.size) (hc0:wr.cell? ⟨gk,ok,none⟩=some (.slice Ak xs[k].length ck)) (r:(pPoints pe).rep o wr xs[k] [.slice Ak xs[k].length ck] Fk)=>spec_l14Dot_c wr gl0 hc0 r (hs _ (List.getElem_mem hk)));have CB:=Lib.hid (fun (wr:World) (k:Nat) (hk:k < xs.length) (Ak:Option Addr) (ck gk ok:Nat) (Fk:List Nat) (gl0:gk < wr.heap.size) (hc0:wr.cell? ⟨gk,ok,none⟩=some (.slice Ak xs[k].length ck)) (r:(pPoints pe).rep o wr xs[k] [.slice Ak xs[k].length ck] Fk)=>have hl:=strokeB_both (hs _ (List.getElem_mem hk)); spec_l02BoxOf_c wr gl0 hc0 r hl.1 (by omega));have BS:=Lib.hid (fun k (hk:k < xs.length)=>(boxOfZ_small (hs _ (List.getElem_mem hk)):BoxInZ (boxOfZ xs[k])));have H:=Lib.hid h;have GL:=Lib.hid gl;have HC:=Lib.hid hcell;have gs:(s:Int) < (xs.length:Int):=by omega
 have gs0:(0:Int)≤(s:Int):=by omega
 have HST:=Lib.hid (strk_get hsx);obtain ⟨bs,os,us,Fs,rfl,hbs,-,rs,-,cs⟩:=hr s hsx;obtain ⟨As,ks,rfl,-,-,-⟩:=pPoints_open rs;have HSS:=Lib.hid (fun (w':World) (b:Below w.heap.size w w')=>show w'.cell? ⟨gB,oB,none⟩=some (.slice (some ⟨bs,os,none⟩) xs.length c)∧w'.cell? ⟨bs,os+s,none⟩=some (.slice As xs[s].length ks) from ⟨(b.cell (p:=⟨gB,_,none⟩) gl).trans hcell,(b.cell (p:=⟨bs,_,none⟩) hbs).trans cs⟩);have C1:=Lib.hid (CD.out w s hsx As ks bs (os+s) Fs hbs cs rs);have C2:=Lib.hid (fun w1 (b:Below w.heap.size w w1)=>CB.out w1 s hsx As ks bs (os+s) Fs (Nat.lt_of_lt_of_le hbs b.size) ((HSS.out w1 b).2) (rs.below b));clear hr h hs hbs rs
 go_enter Tryz.func213,Tryz.ntmps213
 go_wp2_with fail
 refine C1.out.mono ?_;rintro e w1 ⟨rfl,b1⟩;have B1:=Lib.hid b1;clear b1 C1 hcell cs;obtain ⟨x0,cs⟩:=HSS.out w1 B1.out;cases hd:isDotZ xs[s]
 · have HRES:=Lib.hid (homeI_not (xs:=xs) (s:=s) (by rw [HST.out]; exact hd))
   clear hd
   go_wp2_with fail
   go_ret;exact ⟨by rw [HRES.out]; rfl,B1.out⟩
 · have HRES:=Lib.hid (homeI_dot (xs:=xs) (s:=s) (by rw [HST.out]; exact hd))
   clear hd
   go_wp2_with fail
   refine (C2.out w1 B1.out).mono ?_;rintro e w2 ⟨rfl,b2⟩;unfold boxVZ;have hdb:=BS.out s hsx;have HDB:=Lib.hid (show boxOfZ (strk xs s)=boxOfZ xs[s] by rw [HST.out]);generalize boxOfZ xs[s]=d at hdb HDB ⊢;have RD:=Row.new w2 310 #[.int .i64 d.x1,.int .i64 d.y1,.int .i64 d.x2,.int .i64 d.y2];have b3:=b2.alloc b2.size (.cells #[.int .i64 d.x1,.int .i64 d.y1,.int .i64 d.x2,.int .i64 d.y2] 310);have B3:=Lib.hid (B1.out.trans (b3.mono B1.out.size));have l3:w2.heap.size < (w2.alloc (.cells #[.int .i64 d.x1,.int .i64 d.y1,.int .i64 d.x2,.int .i64 d.y2] 310)).heap.size:=by simp
   go_upto_region 4 with fail
   generalize w2.alloc (.cells #[.int .i64 d.x1,.int .i64 d.y1,.int .i64 d.x2,.int .i64 d.y2] 310)=w3 at RD B3 l3 b3 ⊢;have HRD:=Lib.hid RD;clear RD b2 b3 cs B1 C2 x0
   go_wp2_with fail
   go_loopw [6,7,8] (fun hm mo i wr=>∃ k:Nat,i=.int .i64 k∧k≤s∧hm=.int .i64 (hI (hrN xs s k).1)∧mo=.int .i64 (hrN xs s k).2∧Hid (Below w3.heap.size w3 wr)) (fun _ _ i _=>s - (intOf i).toNat)
   case atStart=>exact ⟨0,rfl,Nat.zero_le _,rfl,rfl,Lib.hid (Below.refl _ _)⟩
   case round =>
    obtain ⟨k,rfl,hk,rfl,rfl,hb⟩:=hrel
    by_cases hlt:k < s
    · have hkx:k < xs.length:=by omega
      have hbw:=B3.out.trans (hb.out.mono B3.out.size);obtain ⟨A',c',he,-,-,hr⟩:=pStrokes_open (H.out.below hbw);cases he;obtain ⟨bk,ok,uk,Fk,e8,hbk,-,rk,-,ck⟩:=hr k hkx;cases e8;obtain ⟨Ak,kk,rfl,-,-,-⟩:=pPoints_open rk;have x0:=(HSS.out wr hbw).1;have gk:(k:Int) < (s:Int):=by omega
      have gkx:(k:Int) < (xs.length:Int):=by omega
      have gk0:(0:Int)≤(k:Int):=by omega
      have kw:=IntWalk.i64_in ((k:Int)+1) (by omega);have HB:=Lib.hid hb.out;have hbx:=BS.out k hkx;have hcm:=common_small hbx hdb
      have HSUC:=Lib.hid (show hrN xs s (k+1)=if isDotZ xs[k]=false∧0 < commonZ d (boxOfZ xs[k])∧(hrN xs s k).2≤commonZ d (boxOfZ xs[k]) then (some k,commonZ d (boxOfZ xs[k])) else hrN xs s k by
       have:=homeR_succ (fun j=>isDotZ (strk xs j)) (fun j=>commonZ (boxOfZ (strk xs s)) (boxOfZ (strk xs j))) k;rw [strk_get hkx,HDB.out] at this;unfold hrN;rw [HDB.out];exact this)
      have CDK:=Lib.hid (CD.out wr k hkx Ak kk bs (os+k) Fk hbk ck rk);have CBK:=Lib.hid (fun w5 (b:Below wr.heap.size wr w5)=>CB.out w5 k hkx Ak kk bs (os+k) Fk (Nat.lt_of_lt_of_le hbk b.size) ((b.cell (p:=⟨bs,_,none⟩) hbk).trans ck) (rk.below b));generalize hrN xs s k=hm at HSUC ⊢;have hcz:commonZ d (boxOfZ xs[k])=min (boxOfZ xs[k]).x2 (d.x2+40) - max (boxOfZ xs[k]).x1 (d.x1 - 40)+1:=rfl;generalize boxOfZ xs[k]=b at hbx hcm HSUC CBK hcz;generalize commonZ d b=cm at hcm HSUC hcz;obtain ⟨ho,mo⟩:=hm;dsimp only at HSUC ⊢;clear hr rk hb hbw
      go_wp2_with fail
      refine CDK.out.mono ?_;rintro e w5 ⟨rfl,b5⟩;have HB5:=Lib.hid (HB.out.trans (b5.mono HB.out.size));have HB55:=Lib.hid b5;clear CDK x0;cases hdt:isDotZ xs[k]
      · rw [hdt] at HSUC
        obtain ⟨x0,-⟩:=HSS.out w5 (B3.out.trans (HB5.out.mono B3.out.size));have ck5:=(b5.cell (p:=⟨bs,_,none⟩) hbk).trans ck;clear hdt b5 ck
        go_wp2_with fail
        refine (CBK.out w5 HB55.out).mono ?_;rintro e w6 ⟨rfl,b6⟩;unfold boxVZ;have RB:=Row.new w6 310 #[.int .i64 b.x1,.int .i64 b.y1,.int .i64 b.x2,.int .i64 b.y2];have b7:=b6.alloc b6.size (.cells #[.int .i64 b.x1,.int .i64 b.y1,.int .i64 b.x2,.int .i64 b.y2] 310)
        go_upto_region 11 with fail
        generalize w6.alloc (.cells #[.int .i64 b.x1,.int .i64 b.y1,.int .i64 b.x2,.int .i64 b.y2] 310)=w7 at RB b7 ⊢;have HB7:=Lib.hid (HB5.out.trans (b7.mono HB5.out.size));have RD7:=HRD.out.below HB7.out l3;have d0:=RD7.c0;have d2:=RD7.c2;have c0:=RB.c0;have c2:=RB.c2;clear RB RD7 b6 b7 x0 ck5 HB5 HB55 HB CBK hbk;unfold BoxInZ at hbx;have hdb':=hdb;unfold BoxInZ at hdb';have z1:=IntWalk.i64_in (d.x2+40) (by omega);have z2:=IntWalk.i64_in (d.x1 - 40) (by omega);have z3:IntKind.i64.wrap (min (d.x2+40) b.x2 - max (d.x1 - 40) b.x1)=cm - 1:=(IntWalk.i64_in _ (by omega)).trans (by omega);have z4:IntKind.i64.wrap (cm - 1+1)=cm:=(IntWalk.i64_in _ (by omega)).trans (by omega);have CMI:=Lib.hid (fun w=>minZ_c (d.x2+40) b.x2 w);have CMA:=Lib.hid (fun w=>maxZ_c (d.x1 - 40) b.x1 w);generalize min (d.x2+40) b.x2=u1 at z3 CMI;generalize max (d.x1 - 40) b.x1=u2 at z3 CMA;clear hbx hdb' hcz
        go_quiet (first | (go_at_call 219; exact Calls.quiet_of_same (CMI.out _)) | (go_at_call 263; exact Calls.quiet_of_same (CMA.out _)))
        clear d0 d2 c0 c2 z1 z2 z3 z4 CMI CMA
        by_cases hc0:0 < cm
        · have e0:decide (0 < cm)=true:=decide_eq_true hc0
          by_cases hmc:mo≤cm
          · have e1:decide (mo≤cm)=true:=decide_eq_true hmc
            have HS2:=Lib.hid (show hrN xs s (k+1)=(some k,cm) by rw [HSUC.out,if_pos (by simp [hc0,hmc])]);clear hmc HSUC hc0
            go_wp2_with fail
            exact ⟨⟨k+1,by go_num,by omega,by rw [HS2.out]; rfl,by rw [HS2.out],Lib.hid (below_drewN HB7.out _)⟩,by simp [intOf]; omega⟩
          · have e1:decide (mo≤cm)=false:=decide_eq_false hmc
            have HS2:=Lib.hid (show hrN xs s (k+1)=(ho,mo) by rw [HSUC.out,if_neg (fun g=>hmc g.2.2)]);clear hmc HSUC hc0
            go_wp2_with fail
            exact ⟨⟨k+1,by go_num,by omega,by rw [HS2.out],by rw [HS2.out],Lib.hid (below_drewN HB7.out _)⟩,by simp [intOf]; omega⟩
        · have e0:decide (0 < cm)=false:=decide_eq_false hc0
          have HS2:=Lib.hid (show hrN xs s (k+1)=(ho,mo) by rw [HSUC.out,if_neg (fun g=>hc0 g.2.1)]);clear HSUC hc0
          go_wp2_with fail
          exact ⟨⟨k+1,by go_num,by omega,by rw [HS2.out],by rw [HS2.out],Lib.hid (below_drewN HB7.out _)⟩,by simp [intOf]; omega⟩
      · rw [hdt] at HSUC
        have HS2:=Lib.hid (show hrN xs s (k+1)=(ho,mo) by rw [HSUC.out,if_neg (fun g=>by cases g.1)]);clear hdt HSUC b5
        go_wp2_with fail
        exact ⟨⟨k+1,by go_num,by omega,by rw [HS2.out],by rw [HS2.out],HB5⟩,by simp [intOf]; omega⟩
    · obtain rfl:k=s:=by omega
      have gk:¬ (k:Int) < (k:Int):=by omega
      have HB7:=B3.out.trans (hb.out.mono B3.out.size);have HEQ:=Lib.hid (hrN_eq xs k k);clear hb
      go_wp2_with fail
      go_ret;exact ⟨by rw [HRES.out,← HEQ.out]; rfl,HB7⟩
def ints (n:Nat) (f:Nat→Int):List Value:=(List.range n).map fun x=>.int .i64 (f x)
theorem ints_len (n:Nat) (f:Nat→Int):(ints n f).length=n:=by simp [ints]
theorem ints_get {n:Nat} {f:Nat→Int} {x:Nat} (h:x < n):(ints n f)[x]?=some (.int .i64 (f x)):=by simp [ints,h]
theorem ints_set {n:Nat} {f:Nat→Int} (x:Nat) (v:Int):(ints n f).set x (.int .i64 v)=ints n (fun y=>if y=x then v else f y):=by
 apply List.ext_getElem
 · simp [ints]
 · intro y h1 h2
   simp [ints] at h1;rw [List.getElem_set];simp [ints]
   by_cases e:x=y
   · subst e; simp
   · have e':¬ y=x:=fun h=>e h.symm
     simp [e,e']
theorem ints_congr {n:Nat} {f g:Nat→Int} (h:∀ x,x < n→f x=g x):ints n f=ints n g:=by
 apply List.map_congr_left;intro x hx;rw [h x (by simpa using hx)]
theorem madeCells_ints (n:Nat):(madeCells #[Value.int .i64 0] (n * 1)).toList=ints n (fun _=>0):=by
 rw [Nat.mul_one,toList_madeCells_one];apply List.ext_getElem <;> simp [ints]
end Go.Proofs.YtalmeogjhmblhaaGreat

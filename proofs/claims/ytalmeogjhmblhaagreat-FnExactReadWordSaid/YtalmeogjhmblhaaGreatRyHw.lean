/- The least cost ahead of a pair, in the program. Conditions: none. -/
import Derived.Test.YtalmeogjhmblhaaGreatRzFw
import Derived.Test.YtalmeogjhmblhaaGreatRyFw
import Derived.Test.YtalmeogjhmblhaaGreatTkw
namespace Go.Proofs.YtalmeogjhmblhaaGreat
open Go Go.RowKit
set_option maxHeartbeats 8000000
set_option maxRecDepth 100000
theorem impl_stepsBack_c (w:World):Calls Tryz.prog 339 #[] w fun e w'=>e=.returned (.agg #[.int .i64 1,.int .i64 1,.int .i64 1,.int .i64 0,.int .i64 0,.int .i64 1])∧Below w.heap.size w w':=by
 go_enter Tryz.func339,Tryz.ntmps339
 go_wp2_with fail
 refine bodyPost_ret (v:=.agg #[.int .i64 1,.int .i64 1,.int .i64 1,.int .i64 0,.int .i64 0,.int .i64 1]) (by simp [results,Tryz.results339,go_sem]) rfl ⟨rfl,?_⟩;exact (Below.refl _ _).alloc (Nat.le_refl _) _
def Around (w:World) (a b:List PFeat) (band:Int) (T i j m gU gR:Nat):Prop :=
 (0 < i→w.cell? ⟨T,i - 1,none⟩=some (.slice (some ⟨gU,0,none⟩) m m)∧∀ y,y < m→w.cell? ⟨gU,y,none⟩=some (.int .i64 (elC a b band 1099511627776 (i - 1) y))) ∧
 w.cell? ⟨T,i,none⟩=some (.slice (some ⟨gR,0,none⟩) m m)∧(∀ y,y < j→w.cell? ⟨gR,y,none⟩=some (.int .i64 (elC a b band 1099511627776 i y)))∧T < w.heap.size∧(0 < i→gU < w.heap.size)∧gR < w.heap.size
theorem Around.below {w w':World} {a b:List PFeat} {band:Int} {T i j m gU gR:Nat} (h:Around w a b band T i j m gU gR) (hb:Below w.heap.size w w'):Around w' a b band T i j m gU gR:=by
 obtain ⟨h1,h2,h3,h4,h5,h6⟩:=h;refine ⟨fun h0=>⟨(hb.cell (p:=⟨T,_,none⟩) h4).trans (h1 h0).1,fun y hy=>(hb.cell (p:=⟨gU,_,none⟩) (h5 h0)).trans ((h1 h0).2 y hy)⟩,(hb.cell (p:=⟨T,_,none⟩) h4).trans h2,fun y hy=>(hb.cell (p:=⟨gR,_,none⟩) h6).trans (h3 y hy),Nat.lt_of_lt_of_le h4 hb.size,fun h0=>Nat.lt_of_lt_of_le (h5 h0) hb.size,Nat.lt_of_lt_of_le h6 hb.size⟩
theorem impl_leastBefore_c {a b:List PFeat} {band:Int} {T i j n m gU gR:Nat} (w:World) (h:Around w a b band T i j m gU gR) (hi:i < n∧n≤100) (hj:j < m∧m≤100) :
 Calls Tryz.prog 316 #[.slice (some ⟨T,0,none⟩) n n,.int .i64 (i:Int),.int .i64 (j:Int)] w fun e w'=>e=.returned (.int .i64 (stepC (a:=a) (b:=b) (band:=band) (far:=1099511627776) (stepB (a:=a) (b:=b) (band:=band) (far:=1099511627776) (stepA (a:=a) (b:=b) (band:=band) (far:=1099511627776) 1099511627776 i j) i j) i j))∧Below w.heap.size w w':=by
 have H:=Lib.hid h;obtain ⟨s1,hs1⟩:∃ s,stepA (a:=a) (b:=b) (band:=band) (far:=1099511627776) 1099511627776 i j=s:=⟨_,rfl⟩
 rw [hs1];obtain ⟨s2,hs2⟩:∃ s,stepB (a:=a) (b:=b) (band:=band) (far:=1099511627776) s1 i j=s:=⟨_,rfl⟩
 rw [hs2];obtain ⟨s3,hs3⟩:∃ s,stepC (a:=a) (b:=b) (band:=band) (far:=1099511627776) s2 i j=s:=⟨_,rfl⟩
 rw [hs3];have HS1:=Lib.hid hs1;have HS2:=Lib.hid hs2;have HS3:=Lib.hid hs3;clear h hs1 hs2 hs3;generalize hii:(i:Int)=ii at *;generalize hjj:(j:Int)=jj at *;have HII:=Lib.hid hii;have HJJ:=Lib.hid hjj;clear hii hjj
 go_enter Tryz.func316,Tryz.ntmps316
 go_wp2_with fail
 refine (impl_stepsBack_c w).mono ?_;rintro e w1 ⟨rfl,b1⟩;have HB1:=Lib.hid b1;have K1:=Lib.hid (H.out.below b1);clear b1 H
 go_wp2_with fail
 go_loopw [7,11] (fun s k wr=>∃ x:Nat,k=.int .i64 x∧x≤3∧s=.int .i64 (match x with | 0=>1099511627776 | 1=>s1 | 2=>s2 | _=>s3)∧Hid (Below w1.heap.size w1 wr)) (fun _ k _=>3 - (intOf k).toNat)
 case atStart=>exact ⟨0,rfl,by omega,rfl,Lib.hid (Below.refl _ _)⟩
 case round =>
  obtain ⟨x,rfl,hx,rfl,hb⟩:=hrel;rcases (show x=0∨x=1∨x=2∨x=3 by omega) with rfl | rfl | rfl | rfl
  · have hidx:∀ w:World,(Instr.index 406 (.agg #[.int .i64 1,.int .i64 1,.int .i64 1,.int .i64 0,.int .i64 0,.int .i64 1]) (.int .i64 ((0:Nat):Int))).run Tryz.prog w=.ok (.agg #[.int .i64 1,.int .i64 1]) w:=fun _=>by kernel_rfl
    have hidx':∀ w:World,(Instr.index 406 (.agg #[.int .i64 1,.int .i64 1,.int .i64 1,.int .i64 0,.int .i64 0,.int .i64 1]) (.int .i64 0)).run Tryz.prog w=.ok (.agg #[.int .i64 1,.int .i64 1]) w:=fun _=>by kernel_rfl
    have K:=K1.out.below hb.out;have hal:Below wr.heap.size wr (wr.alloc (.cells #[.int .i64 1,.int .i64 1] 405)):=(Below.refl _ _).alloc (Nat.le_refl _) _;replace K:=Lib.hid (K.below hal);have RD:=Row.new wr 405 #[.int .i64 1,.int .i64 1];have HB:=Lib.hid (hb.out.trans (hal.mono hb.out.size));clear hal hb
    go_upto_region 5 with fail
    generalize wr.alloc (.cells #[.int .i64 1,.int .i64 1] 405)=wd at K RD HB ⊢;have d0:=RD.c0;have d1:=RD.c1;clear RD;have ge1:decide ((1:Int)≤ii)=decide (0 < i):=by have:=HII.out; rw [decide_eq_decide]; omega
    have ge2:decide ((1:Int)≤jj)=decide (0 < j):=by have:=HJJ.out; rw [decide_eq_decide]; omega
    have ge3:decide ((0:Int)≤ii)=true:=by have:=HII.out; rw [decide_eq_true_iff]; omega
    have ge4:decide ((0:Int)≤jj)=true:=by have:=HJJ.out; rw [decide_eq_true_iff]; omega
    by_cases hc:0 < i∧0 < j
    · obtain ⟨x,rfl⟩:∃ x,i=x+1:=⟨i - 1,by omega⟩
      obtain ⟨y,rfl⟩:∃ y,j=y+1:=⟨j - 1,by omega⟩
      have q0:=(K.out.1 (by omega)).1;have q1:=(K.out.1 (by omega)).2 y (by omega);simp only [Nat.add_sub_cancel] at q0 q1;have z1:IntKind.i64.wrap (ii - 1)=(x:Int):=(IntWalk.i64_in _ (by have:=HII.out; omega)).trans (by have:=HII.out; omega);have z2:IntKind.i64.wrap (jj - 1)=(y:Int):=(IntWalk.i64_in _ (by have:=HJJ.out; omega)).trans (by have:=HJJ.out; omega);have z3:(x:Int) < (n:Int):=by omega
      have z4:(0:Int)≤(x:Int):=by omega
      have z5:(y:Int) < (m:Int):=by omega
      have z6:(0:Int)≤(y:Int):=by omega
      rw [decide_eq_true (show 0 < x+1 by omega)] at ge1;rw [decide_eq_true (show 0 < y+1 by omega)] at ge2;have HV:=Lib.hid (show s1=min 1099511627776 (elC a b band 1099511627776 x y) by rw [← HS1.out]; exact if_pos hc);clear hc K1 HS1 HS2 HS3 K;generalize elC a b band 1099511627776 x y=u at *
      go_wp2_with fail
      go_region
      go_wp2_with fail
      exact ⟨⟨1,by first | rfl | go_num,by omega,by rw [HV.out]; rfl,Lib.hid (below_drewN HB.out _)⟩,by simp [intOf]⟩
    · have HV:=Lib.hid (show s1=1099511627776 by rw [← HS1.out]; exact if_neg hc)
      by_cases h1:0 < i
      · have hj0:¬ 0 < j:=fun g=>hc ⟨h1,g⟩
        rw [decide_eq_true h1] at ge1;rw [decide_eq_false hj0] at ge2;clear hc K1 HS1 HS2 HS3 K h1 hj0
        go_wp2_with fail
        exact ⟨⟨1,by first | rfl | go_num,by omega,by rw [HV.out]; rfl,HB⟩,by simp [intOf]⟩
      · rw [decide_eq_false h1] at ge1
        clear hc K1 HS1 HS2 HS3 K h1
        go_wp2_with fail
        exact ⟨⟨1,by first | rfl | go_num,by omega,by rw [HV.out]; rfl,HB⟩,by simp [intOf]⟩
  · have hidx:∀ w:World,(Instr.index 406 (.agg #[.int .i64 1,.int .i64 1,.int .i64 1,.int .i64 0,.int .i64 0,.int .i64 1]) (.int .i64 ((1:Nat):Int))).run Tryz.prog w=.ok (.agg #[.int .i64 1,.int .i64 0]) w:=fun _=>by kernel_rfl
    have hidx':∀ w:World,(Instr.index 406 (.agg #[.int .i64 1,.int .i64 1,.int .i64 1,.int .i64 0,.int .i64 0,.int .i64 1]) (.int .i64 1)).run Tryz.prog w=.ok (.agg #[.int .i64 1,.int .i64 0]) w:=fun _=>by kernel_rfl
    have K:=K1.out.below hb.out;have hal:Below wr.heap.size wr (wr.alloc (.cells #[.int .i64 1,.int .i64 0] 405)):=(Below.refl _ _).alloc (Nat.le_refl _) _;replace K:=Lib.hid (K.below hal);have RD:=Row.new wr 405 #[.int .i64 1,.int .i64 0];have HB:=Lib.hid (hb.out.trans (hal.mono hb.out.size));clear hal hb
    go_upto_region 5 with fail
    generalize wr.alloc (.cells #[.int .i64 1,.int .i64 0] 405)=wd at K RD HB ⊢;have d0:=RD.c0;have d1:=RD.c1;clear RD;have ge1:decide ((1:Int)≤ii)=decide (0 < i):=by have:=HII.out; rw [decide_eq_decide]; omega
    have ge2:decide ((1:Int)≤jj)=decide (0 < j):=by have:=HJJ.out; rw [decide_eq_decide]; omega
    have ge3:decide ((0:Int)≤ii)=true:=by have:=HII.out; rw [decide_eq_true_iff]; omega
    have ge4:decide ((0:Int)≤jj)=true:=by have:=HJJ.out; rw [decide_eq_true_iff]; omega
    by_cases hc:0 < i
    · obtain ⟨x,rfl⟩:∃ x,i=x+1:=⟨i - 1,by omega⟩
      have q0:=(K.out.1 (by omega)).1;have q1:=(K.out.1 (by omega)).2 j (by omega);simp only [Nat.add_sub_cancel] at q0 q1;have z1:IntKind.i64.wrap (ii - 1)=(x:Int):=(IntWalk.i64_in _ (by have:=HII.out; omega)).trans (by have:=HII.out; omega);have z2:IntKind.i64.wrap (jj - 0)=(j:Int):=(IntWalk.i64_in _ (by have:=HJJ.out; omega)).trans (by have:=HJJ.out; omega);have z2':IntKind.i64.wrap jj=(j:Int):=(IntWalk.i64_in _ (by have:=HJJ.out; omega)).trans (by have:=HJJ.out; omega);have z3:(x:Int) < (n:Int):=by omega
      have z4:(0:Int)≤(x:Int):=by omega
      have z5:(j:Int) < (m:Int):=by omega
      have z6:(0:Int)≤(j:Int):=by omega
      rw [decide_eq_true (show 0 < x+1 by omega)] at ge1;have HV:=Lib.hid (show s2=min s1 (elC a b band 1099511627776 x j) by rw [← HS2.out]; exact if_pos hc);clear hc K1 HS1 HS2 HS3 K;generalize elC a b band 1099511627776 x j=u at *
      go_wp2_with fail
      go_region
      go_wp2_with fail
      exact ⟨⟨2,by first | rfl | go_num,by omega,by rw [HV.out]; rfl,Lib.hid (below_drewN HB.out _)⟩,by simp [intOf]⟩
    · have HV:=Lib.hid (show s2=s1 by rw [← HS2.out]; exact if_neg hc)
      rw [decide_eq_false hc] at ge1;clear hc K1 HS1 HS2 HS3 K
      go_wp2_with fail
      exact ⟨⟨2,by first | rfl | go_num,by omega,by rw [HV.out]; rfl,HB⟩,by simp [intOf]⟩
  · have hidx:∀ w:World,(Instr.index 406 (.agg #[.int .i64 1,.int .i64 1,.int .i64 1,.int .i64 0,.int .i64 0,.int .i64 1]) (.int .i64 ((2:Nat):Int))).run Tryz.prog w=.ok (.agg #[.int .i64 0,.int .i64 1]) w:=fun _=>by kernel_rfl
    have hidx':∀ w:World,(Instr.index 406 (.agg #[.int .i64 1,.int .i64 1,.int .i64 1,.int .i64 0,.int .i64 0,.int .i64 1]) (.int .i64 2)).run Tryz.prog w=.ok (.agg #[.int .i64 0,.int .i64 1]) w:=fun _=>by kernel_rfl
    have K:=K1.out.below hb.out;have hal:Below wr.heap.size wr (wr.alloc (.cells #[.int .i64 0,.int .i64 1] 405)):=(Below.refl _ _).alloc (Nat.le_refl _) _;replace K:=Lib.hid (K.below hal);have RD:=Row.new wr 405 #[.int .i64 0,.int .i64 1];have HB:=Lib.hid (hb.out.trans (hal.mono hb.out.size));clear hal hb
    go_upto_region 5 with fail
    generalize wr.alloc (.cells #[.int .i64 0,.int .i64 1] 405)=wd at K RD HB ⊢;have d0:=RD.c0;have d1:=RD.c1;clear RD;have ge1:decide ((1:Int)≤ii)=decide (0 < i):=by have:=HII.out; rw [decide_eq_decide]; omega
    have ge2:decide ((1:Int)≤jj)=decide (0 < j):=by have:=HJJ.out; rw [decide_eq_decide]; omega
    have ge3:decide ((0:Int)≤ii)=true:=by have:=HII.out; rw [decide_eq_true_iff]; omega
    have ge4:decide ((0:Int)≤jj)=true:=by have:=HJJ.out; rw [decide_eq_true_iff]; omega
    by_cases hc:0 < j
    · obtain ⟨y,rfl⟩:∃ y,j=y+1:=⟨j - 1,by omega⟩
      have q0:=K.out.2.1;have q1:=K.out.2.2.1 y (by omega);have z1:IntKind.i64.wrap (ii - 0)=(i:Int):=(IntWalk.i64_in _ (by have:=HII.out; omega)).trans (by have:=HII.out; omega);have z1':IntKind.i64.wrap ii=(i:Int):=(IntWalk.i64_in _ (by have:=HII.out; omega)).trans (by have:=HII.out; omega);have z2:IntKind.i64.wrap (jj - 1)=(y:Int):=(IntWalk.i64_in _ (by have:=HJJ.out; omega)).trans (by have:=HJJ.out; omega);have z3:(i:Int) < (n:Int):=by omega
      have z4:(0:Int)≤(i:Int):=by omega
      have z5:(y:Int) < (m:Int):=by omega
      have z6:(0:Int)≤(y:Int):=by omega
      rw [decide_eq_true (show 0 < y+1 by omega)] at ge2;have HV:=Lib.hid (show s3=min s2 (elC a b band 1099511627776 i y) by rw [← HS3.out]; exact if_pos hc);clear hc K1 HS1 HS2 HS3 K;generalize elC a b band 1099511627776 i y=u at *
      go_wp2_with fail
      go_region
      go_wp2_with fail
      exact ⟨⟨3,by first | rfl | go_num,by omega,by rw [HV.out]; rfl,Lib.hid (below_drewN HB.out _)⟩,by simp [intOf]⟩
    · have HV:=Lib.hid (show s3=s2 by rw [← HS3.out]; exact if_neg hc)
      rw [decide_eq_false hc] at ge2;clear hc K1 HS1 HS2 HS3 K
      go_wp2_with fail
      exact ⟨⟨3,by first | rfl | go_num,by omega,by rw [HV.out]; rfl,HB⟩,by simp [intOf]⟩
  · have HB:=HB1.out.trans (hb.out.mono HB1.out.size)
    clear hb K1 HS1 HS2 HS3 HB1
    go_wp2_with fail
    go_ret;exact ⟨rfl,HB⟩
def prow (n s m:Nat) (G:Nat→Nat):List Value:=(List.range n).map fun x=>if x < s then .slice (some ⟨G x,0,none⟩) m m else .slice none 0 0
theorem prow_len (n s m:Nat) (G:Nat→Nat):(prow n s m G).length=n:=by simp [prow]
theorem prow_get {n s m:Nat} {G:Nat→Nat} {x:Nat} (h:x < n) (hs:x < s):(prow n s m G)[x]?=some (.slice (some ⟨G x,0,none⟩) m m):=by
 simp [prow,h,hs]
theorem prow_set {n m i N:Nat} {G:Nat→Nat}:(prow n i m G).set i (.slice (some ⟨N,0,none⟩) m m)=prow n (i+1) m (fun x=>if x=i then N else G x):=by
 apply List.ext_getElem
 · simp [prow]
 · intro y h1 h2
   rw [List.getElem_set];simp only [prow,List.getElem_map,List.getElem_range]
   by_cases e:i=y
   · subst e; simp
   · have e':¬ y=i:=fun h=>e h.symm
     have e2:(y < i+1)↔(y < i):=by omega
     simp [e,e',e2]
theorem prow_none (n m:Nat) (G:Nat→Nat):(List.replicate n (Value.slice none 0 0))=prow n 0 m G:=by
 apply List.ext_getElem
 · simp [prow]
 · intro y h1 h2
   simp [prow]
def Done (w:World) (a b:List PFeat) (band:Int) (B m i:Nat) (G:Nat→Nat):Prop:=∀ x,x < i→Row w (G x) 2 (ints m fun y=>elC a b band 1099511627776 x y)∧B < G x
theorem Done.later {w w':World} {a b:List PFeat} {band:Int} {B m i:Nat} {G:Nat→Nat} (h:Done w a b band B m i G) (hb:Below w.heap.size w w'):Done w' a b band B m i G:=fun x hx=>⟨(h x hx).1.later hb,(h x hx).2⟩
theorem Done.drew {w:World} {a b:List PFeat} {band:Int} {B m i:Nat} {G:Nat→Nat} (h:Done w a b band B m i G):Done w.drew a b band B m i G:=fun x hx=>⟨(h x hx).1.drew,(h x hx).2⟩
theorem Done.far {w:World} {a b:List PFeat} {band:Int} {B m i g q:Nat} {G:Nat→Nat} (h:Done w a b band B m i G) (hg:∀ x,x < i→G x≠g) (v:Value):Done (w.setCell ⟨g,q,none⟩ v) a b band B m i G:=fun x hx=>⟨(h x hx).1.far (p:=⟨g,q,none⟩) (hg x hx) v,(h x hx).2⟩
def rowF (a b:List PFeat) (band:Int) (i t:Nat):Nat→Int:=fun y=>if y < t then elC a b band 1099511627776 i y else 0
theorem rowF_next {a b:List PFeat} {band:Int} {m i j:Nat} {v:Int} (hv:v=elC a b band 1099511627776 i j):ints m (fun y=>if y=j then v else rowF a b band i j y)=ints m (rowF a b band i (j+1)):=by
 apply ints_congr;intro x _;unfold rowF
 by_cases e:x=j
 · subst e; simp [hv]
 · rw [if_neg e]
   by_cases h:x < j
   · rw [if_pos h,if_pos (by omega)]
   · rw [if_neg h,if_neg (by omega)]
def GivesTabP (a b:List PFeat) (band:Int) (w:World) (e:Ending) (w':World):Prop :=
 ∃ g G,e=.returned (.slice (some ⟨g,0,none⟩) a.length a.length)∧Row w' g 265 (prow a.length a.length b.length G)∧Done w' a b band w.heap.size b.length a.length G∧Below w.heap.size w w'
theorem impl_costTable_c {oa ob:Bool} {ea eb:TypeId} {a b:List PFeat} {va vb:Value} {F G:List Nat} {band:Int} (w:World) (ha:(pFeats ea).rep oa w a [va] F) (hb:(pFeats eb).rep ob w b [vb] G) (fa:∀ f∈a,featB f=true) (fb:∀ f∈b,featB f=true) (ha1:1≤a.length∧a.length≤72) (hb1:1≤b.length∧b.length≤72) (hbd:0≤band∧band≤72) :
 Calls Tryz.prog 279 #[va,vb,.int .i64 band] w (GivesTabP a b band w):=by
 obtain ⟨A,ca,rfl,-,-,-⟩:=pFeats_open ha;obtain ⟨B,cb,rfl,-,-,-⟩:=pFeats_open hb;have HA:=Lib.hid ha;have HB:=Lib.hid hb;have CC:=Lib.hid (fun (w:World) (i j:Nat) (hi:i < a.length) (hj:j < b.length)=>impl_featCost_c (ftAt a i) (ftAt b j) w (ftAt_ok fa i) (ftAt_ok fb j));have CZ:=Lib.hid (fun (w:World) (n:Int) (h:-1000≤n)=>impl_absZ_c n w (by omega));have BE:=Lib.hid (fun (i j:Nat) (hi:i≤100) (hj:j≤100)=>beC_le (band:=band) (far:=1099511627776) fa fb (by decide) hi hj);have SE:=Lib.hid (fun (i j:Nat) (hi:i≤100) (hj:j≤100) (h:¬ (i=0∧j=0))=>steps_eq (band:=band) (far:=1099511627776) fa fb (by decide) hi hj h);have EE:=Lib.hid (fun (i j:Nat) (hi:i≤100) (hj:j≤100)=>elC_eq (band:=band) (far:=1099511627776) fa fb hbd.1 (by decide) hi hj);have FA:=Lib.hid fa;have FB:=Lib.hid fb;obtain ⟨n,hn⟩:∃ n,a.length=n:=⟨_,rfl⟩
 obtain ⟨m,hm⟩:∃ m,b.length=m:=⟨_,rfl⟩
 rw [hn] at ha1 CC;rw [hm] at hb1 CC;have hmo:=make_run (P:=Tryz.prog) (t:=364) (e:=265) (z:=.slice none 0 0) (size:=1) (bytes:=24) Tryz.underlying364 (by kernel_rfl) n (n:Int) rfl (by omega) (by unfold maxLen; omega);have hmi:=make_run (P:=Tryz.prog) (t:=265) (e:=2) (z:=.int .i64 0) (size:=1) (bytes:=8) Tryz.underlying265 (by kernel_rfl) m (m:Int) rfl (by omega) (by unfold maxLen; omega)
 show Calls Tryz.prog 279 #[.slice A a.length ca,.slice B b.length cb,.int .i64 band] w fun e w'=>∃ g G,e=.returned (.slice (some ⟨g,0,none⟩) a.length a.length)∧Row w' g 265 (prow a.length a.length b.length G)∧Done w' a b band w.heap.size b.length a.length G∧Below w.heap.size w w'
 rw [hn,hm];have HLA:=Lib.hid hn;have HLB:=Lib.hid hm;clear ha hb fa fb hn hm
 go_enter Tryz.func279,Tryz.ntmps279
 go_wp2_with fail
 clear hmo
 go_loopw [16] (fun i wr=>∃ (k:Nat) (G:Nat→Nat),i=.int .i64 k∧k≤n∧Hid (Row wr w.heap.size 265 (prow n k m G)∧Done wr a b band w.heap.size m k G∧Below w.heap.size w wr)) (fun i _=>n - (intOf i).toNat)
 case atStart =>
  refine ⟨0,fun _=>0,rfl,by omega,Lib.hid ⟨?_,fun x hx=>by omega,(Below.refl _ _).alloc (Nat.le_refl _) _⟩⟩;have R:=Row.new w 265 (madeCells #[Value.slice none 0 0] (n * 1));rw [Nat.mul_one,toList_madeCells_one,prow_none n m (fun _=>0)] at R;exact R
 case round =>
  obtain ⟨i,G,rfl,hi,all⟩:=hrel;obtain ⟨R0,D0,bw⟩:=all.out;have hsz:=bw.size
  by_cases hlt:i < n
  · have gi:(i:Int) < (n:Int):=by omega
    have gi0:(0:Int)≤(i:Int):=by omega
    have ki:=IntWalk.i64_in ((i:Int)+1) (by omega);obtain ⟨⟨v0,hv0⟩,hf0⟩:=R0.can (i:=i) (by rw [prow_len]; exact hlt);have hT:=R0.lt;have HR0:=Lib.hid R0;have HD0:=Lib.hid D0;have HBW:=Lib.hid bw;clear all R0 D0 bw
    go_wp2_with fail
    clear hv0 hf0;obtain ⟨wo,hwo⟩:∃ x,x=wr:=⟨_,rfl⟩
    subst hwo;obtain ⟨gR,hgR⟩:∃ g,g=wo.heap.size:=⟨_,rfl⟩
    obtain ⟨G2,hG2⟩:∃ G2:Nat→Nat,G2=fun x=>if x=i then gR else G x:=⟨_,rfl⟩
    have g2i:G2 i=gR:=by rw [hG2]; simp
    have g2x:∀ x,x < i→G2 x=G x:=fun x hx=>by rw [hG2]; simp only [show x≠i by omega,if_false]
    have hGd:∀ x,x < i→G x≠gR:=fun x hx=>by have:=(HD0.out x hx).1.lt; omega
    have GX:=Lib.hid (And.intro g2i (And.intro g2x hGd));have HG2:=Lib.hid hG2;clear hG2 g2i g2x hGd;rw [← hgR];have hgw:w.heap.size < gR:=by omega
    have ST:Hid (∃ W,W=(wo.setCell ⟨w.heap.size,i,none⟩ (.slice (some ⟨gR,0,none⟩) m m)).alloc (.cells (madeCells #[Value.int .i64 0] m) 2)∧Row W w.heap.size 265 (prow n (i+1) m G2)∧Row W gR 2 (ints m (rowF a b band i 0))∧Done W a b band w.heap.size m i G2∧Below w.heap.size w W):=by
     refine ⟨_,rfl,?_,?_,?_,?_⟩
     · have R:=(HR0.out.set i (.slice (some ⟨gR,0,none⟩) m m)).alloc (.cells (madeCells #[Value.int .i64 0] m) 2)
       rw [prow_set,← HG2.out] at R;exact R
     · have R:=Row.new (wo.setCell ⟨w.heap.size,i,none⟩ (.slice (some ⟨gR,0,none⟩) m m)) 2 (madeCells #[Value.int .i64 0] m)
       have e0:=madeCells_ints m;rw [Nat.mul_one] at e0;rw [e0,show (wo.setCell ⟨w.heap.size,i,none⟩ (.slice (some ⟨gR,0,none⟩) m m)).heap.size=gR by simp [World.setCell,hgR]] at R;rw [ints_congr (g:=fun _=>0) (fun x hx=>by simp [rowF])];exact R
     · intro x hx
       obtain ⟨h1,h2⟩:=HD0.out x hx;rw [GX.out.2.1 x hx];exact ⟨(h1.far (p:=⟨w.heap.size,i,none⟩) (Nat.ne_of_gt h2) _).alloc _,h2⟩
     · exact (HBW.out.setCell (p:=⟨w.heap.size,i,none⟩) (Nat.le_refl _) _).alloc (by simp [World.setCell]; omega) _
    obtain ⟨W,hW,ST⟩:=ST.out;rw [← hW];have ST:=Lib.hid ST;clear hW HR0 HD0 HBW hgR
    go_loopw [27] (fun j wq=>∃ (k:Nat),j=.int .i64 k∧k≤m∧Hid (Row wq w.heap.size 265 (prow n (i+1) m G2)∧Row wq gR 2 (ints m (rowF a b band i k))∧Done wq a b band w.heap.size m i G2∧Below w.heap.size w wq)) (fun j _=>m - (intOf j).toNat)
    case atStart=>exact ⟨0,rfl,by omega,ST⟩
    case round =>
     obtain ⟨j,rfl,hj,all⟩:=hrel;obtain ⟨RT,RR,DD,BW⟩:=all.out
     by_cases hlj:j < m
     · have gj:(j:Int) < (m:Int):=by omega
       have kj:=IntWalk.i64_in ((j:Int)+1) (by omega)
       have AR:Around wr a b band w.heap.size i j m (G2 (i - 1)) gR:=by
        refine ⟨fun h0=>⟨?_,fun y hy=>?_⟩,?_,fun y hy=>?_,RT.lt,fun h0=>?_,RR.lt⟩
        · rw [RT.cell,prow_get (by omega) (by omega)]
        · rw [(DD (i - 1) (by omega)).1.cell,ints_get hy]
        · rw [RT.cell,prow_get hlt (by omega),GX.out.1]
        · rw [RR.cell,ints_get (by omega),rowF,if_pos hy]
        · exact (DD (i - 1) (by omega)).1.lt
       have CL:=Lib.hid (impl_leastBefore_c (n:=n) wr AR (by omega) (by omega));have HRT:=Lib.hid RT;have HRR:=Lib.hid RR;have HDD:=Lib.hid DD;have HBW:=Lib.hid BW;have HI:=Lib.hid (And.intro hlt hlj);clear all RT RR DD BW AR ST;generalize hii:(i:Int)=ii at *;generalize hjj:(j:Int)=jj at *;have HII:=Lib.hid hii;have HJJ:=Lib.hid hjj;have jj0:0≤jj:=by omega
       have tii:ii.toNat=i:=by omega
       have tjj:jj.toNat=j:=by omega
       clear hii hjj
       go_wp2_with fail
       refine CL.out.mono ?_;rintro e w1 ⟨rfl,b1⟩;replace HRT:=Lib.hid (HRT.out.later b1);replace HRR:=Lib.hid (HRR.out.later b1);replace HDD:=Lib.hid (HDD.out.later b1);replace HBW:=Lib.hid (HBW.out.trans (b1.mono HBW.out.size));clear b1 CL;obtain ⟨ls,hls⟩:∃ l,stepC (a:=a) (b:=b) (band:=band) (far:=1099511627776) (stepB (a:=a) (b:=b) (band:=band) (far:=1099511627776) (stepA (a:=a) (b:=b) (band:=band) (far:=1099511627776) 1099511627776 i j) i j) i j=l:=⟨_,rfl⟩
       rw [hls];have HLS:=Lib.hid hls;clear hls
       go_upto_region 10 with fail
       go_cut [39] from 34 to 39 (fun s wx=>s=.bool (decide (i=0∧j=0))∧w1=wx)
       case first =>
        by_cases h0:i=0
        · have e1:(ii == 0)=true:=by have:=HII.out; rw [beq_iff_eq]; omega
          by_cases h1:j=0
          · have e2:(jj == 0)=true:=by have:=HJJ.out; rw [beq_iff_eq]; omega
            go_wp2_with fail
            go_meet
            case rel=>exact ⟨by rw [decide_eq_true ⟨h0,h1⟩],rfl⟩
          · have e2:(jj == 0)=false:=beq_false_of_ne (by have:=HJJ.out; omega)
            go_wp2_with fail
            go_meet
            case rel=>exact ⟨by rw [decide_eq_false (fun g=>h1 g.2)],rfl⟩
        · have e1:(ii == 0)=false:=beq_false_of_ne (by have:=HII.out; omega)
          go_wp2_with fail
          go_meet
          case rel=>exact ⟨by rw [decide_eq_false (fun g=>h0 g.1)],rfl⟩
       case rest =>
        obtain ⟨rfl,hwc⟩:=hcut;subst hwc
        go_upto_if 39 with fail
        go_cut [10] from 39 to 39 (fun s wx=>s=.int .i64 (beC a b band 1099511627776 i j)∧w1=wx)
        case first =>
         by_cases h0:i=0∧j=0
         · rw [decide_eq_true h0]
           go_wp2_with fail
           go_meet
           case rel =>
            obtain ⟨rfl,rfl⟩:=h0;exact ⟨by rw [beC_zero],rfl⟩
         · rw [decide_eq_false h0]
           go_wp2_with fail
           go_meet
           case rel=>exact ⟨by rw [← HLS.out,SE.out i j (by have:=HI.out; omega) (by have:=HI.out; omega) h0],rfl⟩
        case rest =>
         obtain ⟨rfl,hwc⟩:=hcut;subst hwc;have hEE:=EE.out i j (by have:=HI.out; omega) (by have:=HI.out; omega);have hBE:=BE.out i j (by have:=HI.out; omega) (by have:=HI.out; omega);generalize beC a b band 1099511627776 i j=be at hEE hBE ⊢;have zd:IntKind.i64.wrap (ii - jj)=ii - jj:=IntWalk.i64_in _ (by have:=HII.out; have:=HJJ.out; omega);have HEE:=Lib.hid (show elC a b band 1099511627776 i j=if band < absZ (ii - jj)∨be=1099511627776 then 1099511627776 else be+costZ (ftAt a i) (ftAt b j) by rw [hEE,HII.out,HJJ.out]);have CA:=Lib.hid (fun w=>CZ.out w (ii - jj) (by have:=HII.out; have:=HJJ.out; omega));generalize absZ (ii - jj)=ab at CA HEE;clear SE EE BE CZ hEE HLS;have hltI:=HI.out.1;have hltJ:=HI.out.2;have q0:=HRT.out.cell' (prow_get hltI (Nat.lt_succ_self i));rw [GX.out.1] at q0;obtain ⟨⟨v0,hv0⟩,hf0⟩:=HRR.out.can (i:=j) (by rw [ints_len]; exact hltJ);have hgd2:∀ x,x < i→G2 x≠gR:=fun x hx=>by rw [GX.out.2.1 x hx]; exact GX.out.2.2 x hx
         have FIN:=Lib.hid (fun (wz:World) (v:Int) (hv:v=elC a b band 1099511627776 i j) (r1:Row wz w.heap.size 265 (prow n (i+1) m G2)) (r2:Row wz gR 2 (ints m (rowF a b band i j))) (d:Done wz a b band w.heap.size m i G2) (bb:Below w.heap.size w wz) =>
          (show (Row (wz.setCell ⟨gR,j,none⟩ (.int .i64 v)) w.heap.size 265 (prow n (i+1) m G2)∧Row (wz.setCell ⟨gR,j,none⟩ (.int .i64 v)) gR 2 (ints m (rowF a b band i (j+1)))∧Done (wz.setCell ⟨gR,j,none⟩ (.int .i64 v)) a b band w.heap.size m i G2∧Below w.heap.size w (wz.setCell ⟨gR,j,none⟩ (.int .i64 v))) from
            ⟨r1.far (p:=⟨gR,j,none⟩) (Nat.ne_of_lt hgw) _,by rw [← rowF_next hv,← ints_set]; exact r2.set j _,d.far hgd2 _,bb.setCell (p:=⟨gR,j,none⟩) (Nat.le_of_lt hgw) _⟩))
         clear hgd2
         by_cases hbd2:band < ab
         · have e2:decide (band < ab)=true:=decide_eq_true hbd2
           have HV:=Lib.hid (show (1099511627776:Int)=elC a b band 1099511627776 i j by rw [HEE.out,if_pos (.inl hbd2)]);clear HEE CC
           go_wp2_with fail
           refine (CA.out _).mono ?_;rintro e w2 ⟨rfl,rfl⟩
           go_wp2_with fail
           exact ⟨⟨j+1,by rw [show ((j+1:Nat):Int)=jj+1 from by have:=HJJ.out; omega],by omega,Lib.hid (FIN.out _ _ HV.out HRT.out HRR.out HDD.out HBW.out)⟩,by simp [intOf]; omega⟩
         · have e2:decide (band < ab)=false:=decide_eq_false hbd2
           by_cases hfar:be=1099511627776
           · have e1:decide (1099511627776≤be)=true:=decide_eq_true (by omega)
             have HV:=Lib.hid (show (1099511627776:Int)=elC a b band 1099511627776 i j by rw [HEE.out,if_pos (.inr hfar)]);clear HEE CC hfar
             go_wp2_with fail
             refine (CA.out _).mono ?_;rintro e w2 ⟨rfl,rfl⟩
             go_wp2_with fail
             exact ⟨⟨j+1,by rw [show ((j+1:Nat):Int)=jj+1 from by have:=HJJ.out; omega],by omega,Lib.hid (FIN.out _ _ HV.out HRT.out HRR.out HDD.out HBW.out)⟩,by simp [intOf]; omega⟩
           · have e1:decide (1099511627776≤be)=false:=decide_eq_false (by omega)
             have HV:=Lib.hid (show be+costZ (ftAt a i) (ftAt b j)=elC a b band 1099511627776 i j by rw [HEE.out,if_neg (fun h=>h.elim hbd2 hfar)]);have hcs:=cst_small FA.out FB.out i j;have hfa:ftAt a i=a[i]'(by have:=HLA.out; omega):=by simp [ftAt,List.getD_eq_getElem?_getD,List.getElem?_eq_getElem (show i < a.length by have:=HLA.out; omega)]
             have hfb:ftAt b j=b[j]'(by have:=HLB.out; omega):=by simp [ftAt,List.getD_eq_getElem?_getD,List.getElem?_eq_getElem (show j < b.length by have:=HLB.out; omega)]
             have C:=Lib.hid (fun w=>CC.out w i j hltI hltJ);obtain ⟨A',ca',he,-,-,hra⟩:=pFeats_open (HA.out.below HBW.out);simp only [Value.slice.injEq,HLA.out] at he;obtain ⟨hA1,-,hA2⟩:=he;subst hA1;subst hA2;obtain ⟨B',cb',he,-,-,hrb⟩:=pFeats_open (HB.out.below HBW.out);simp only [Value.slice.injEq,HLB.out] at he;obtain ⟨hB1,-,hB2⟩:=he;subst hB1;subst hB2;obtain ⟨ga,oa,rfl,hga,hgaF,x0,x1,x2,-⟩:=hra i (by have:=HLA.out; omega);obtain ⟨gb,ob,rfl,hgb,hgbF,y0,y1,y2,-⟩:=hrb j (by have:=HLB.out; omega);rw [← hfa] at x0 x1 x2;rw [← hfb] at y0 y1 y2;have hga0:ga < w.heap.size:=HA.out.blocks _ hgaF;have hgb0:gb < w.heap.size:=HB.out.blocks _ hgbF;generalize ftAt a i=fi at *;generalize ftAt b j=fj at *;have ka:=IntWalk.i64_in (be+costZ fi fj) (by omega);clear hfar HEE CC hra hrb hgaF hgbF hfa hfb FA FB HA HB hcs hltI
             go_wp2_with fail
             refine (CA.out _).mono ?_;rintro e w2 ⟨rfl,rfl⟩
             go_upto_region 14 with fail
             have hS:(fun w':World=>w'.cell? ⟨w.heap.size,i,none⟩=some (.slice (some ⟨gR,0,none⟩) m m)∧w'.cell? ⟨ga,oa+i * 3,none⟩=some (.int .i64 fi.x)∧w'.cell? ⟨ga,oa+i * 3+1,none⟩=some (.int .i64 fi.y)∧w'.cell? ⟨ga,oa+i * 3+2,none⟩=some (.int .i64 fi.d)∧w'.cell? ⟨gb,ob+j * 3,none⟩=some (.int .i64 fj.x)∧w'.cell? ⟨gb,ob+j * 3+1,none⟩=some (.int .i64 fj.y)∧w'.cell? ⟨gb,ob+j * 3+2,none⟩=some (.int .i64 fj.d)) w2.drew:=⟨q0,x0,x1,x2,y0,y1,y2⟩
             refine wp_region_held_drew (S:=(fun w':World=>w'.cell? ⟨w.heap.size,i,none⟩=some (.slice (some ⟨gR,0,none⟩) m m)∧w'.cell? ⟨ga,oa+i * 3,none⟩=some (.int .i64 fi.x)∧w'.cell? ⟨ga,oa+i * 3+1,none⟩=some (.int .i64 fi.y)∧w'.cell? ⟨ga,oa+i * 3+2,none⟩=some (.int .i64 fi.d)∧w'.cell? ⟨gb,ob+j * 3,none⟩=some (.int .i64 fj.x)∧w'.cell? ⟨gb,ob+j * 3+1,none⟩=some (.int .i64 fj.y)∧w'.cell? ⟨gb,ob+j * 3+2,none⟩=some (.int .i64 fj.d))) (by kernel_rfl) hS (fun _=>?_);replace HRT:=Lib.hid HRT.out.drew;replace HRR:=Lib.hid HRR.out.drew;replace HDD:=Lib.hid HDD.out.drew;replace HBW:=Lib.hid HBW.out.drew;clear q0 x0 x1 x2 y0 y1 y2 hv0 hf0 CA hga hgb;generalize w2.drew=we at HRT HRR HDD HBW hS ⊢;refine tJ 0 hS ?_;refine tJ 1 hS ?_;refine tJ 2 hS ?_;refine tJ 3 hS ?_;refine tJ 4 hS ?_;refine tJ 5 hS ?_;refine tJ 6 hS ?_;refine tJ 7 hS ?_;refine tJ 8 hS ?_;refine tJ 9 hS ?_;refine tJ 10 hS ?_;refine tJ 11 hS ?_;refine tJ 12 hS ?_;refine tJ 13 hS ?_;refine rJ 14 fun K hK=>?_
             refine step_call 317 #[.tmp 65,.tmp 69] _ rfl rfl #[.agg #[.int .i64 fi.x,.int .i64 fi.y,.int .i64 fi.d],.agg #[.int .i64 fj.x,.int .i64 fj.y,.int .i64 fj.d]] Tryz.call317 (by go_simp) (C.out we) ?_;rintro e w3 ⟨rfl,b3⟩;refine ⟨_,rfl,?_⟩;have hsz3:=HBW.out.size;have la:ga < we.heap.size:=by omega
             have lb:gb < we.heap.size:=by omega
             have lT:=HRT.out.lt;replace hS:(fun w':World=>w'.cell? ⟨w.heap.size,i,none⟩=some (.slice (some ⟨gR,0,none⟩) m m)∧w'.cell? ⟨ga,oa+i * 3,none⟩=some (.int .i64 fi.x)∧w'.cell? ⟨ga,oa+i * 3+1,none⟩=some (.int .i64 fi.y)∧w'.cell? ⟨ga,oa+i * 3+2,none⟩=some (.int .i64 fi.d)∧w'.cell? ⟨gb,ob+j * 3,none⟩=some (.int .i64 fj.x)∧w'.cell? ⟨gb,ob+j * 3+1,none⟩=some (.int .i64 fj.y)∧w'.cell? ⟨gb,ob+j * 3+2,none⟩=some (.int .i64 fj.d)) w3:=⟨(b3.cell (p:=⟨w.heap.size,_,none⟩) lT).trans hS.1,(b3.cell (p:=⟨ga,_,none⟩) la).trans hS.2.1,(b3.cell (p:=⟨ga,_,none⟩) la).trans hS.2.2.1,(b3.cell (p:=⟨ga,_,none⟩) la).trans hS.2.2.2.1,(b3.cell (p:=⟨gb,_,none⟩) lb).trans hS.2.2.2.2.1,(b3.cell (p:=⟨gb,_,none⟩) lb).trans hS.2.2.2.2.2.1,(b3.cell (p:=⟨gb,_,none⟩) lb).trans hS.2.2.2.2.2.2⟩
             replace HRT:=Lib.hid (HRT.out.later b3);replace HRR:=Lib.hid (HRR.out.later b3);replace HDD:=Lib.hid (HDD.out.later b3);replace HBW:=Lib.hid (HBW.out.trans (b3.mono HBW.out.size));refine bJ hK hS ?_;clear hK K;simp only [Act.put,pA,pB,pC];clear b3;refine tJ 15 hS ?_;refine tJ 16 hS ?_;obtain ⟨⟨v0,hv0⟩,hf0⟩:=HRR.out.can (i:=j) (by rw [ints_len]; exact hltJ);refine rJ 17 fun K hK=>?_
             go_simp
             replace hS:(fun w':World=>w'.cell? ⟨w.heap.size,i,none⟩=some (.slice (some ⟨gR,0,none⟩) m m)∧w'.cell? ⟨ga,oa+i * 3,none⟩=some (.int .i64 fi.x)∧w'.cell? ⟨ga,oa+i * 3+1,none⟩=some (.int .i64 fi.y)∧w'.cell? ⟨ga,oa+i * 3+2,none⟩=some (.int .i64 fi.d)∧w'.cell? ⟨gb,ob+j * 3,none⟩=some (.int .i64 fj.x)∧w'.cell? ⟨gb,ob+j * 3+1,none⟩=some (.int .i64 fj.y)∧w'.cell? ⟨gb,ob+j * 3+2,none⟩=some (.int .i64 fj.d)) (w3.setCell ⟨gR,j,none⟩ (.int .i64 (be+costZ fi fj))):=by
              have far:∀ {g i:Nat} {u:Value},g < gR→w3.cell? ⟨g,i,none⟩=some u→(w3.setCell ⟨gR,j,none⟩ (.int .i64 (be+costZ fi fj))).cell? ⟨g,i,none⟩=some u:=fun hg hc=>(World.cell?_of_block (Below.heap_setCell _ ⟨gR,j,none⟩ _ _ (Nat.ne_of_lt hg))).trans hc
              have hga1:=Nat.lt_trans hga0 hgw;have hgb1:=Nat.lt_trans hgb0 hgw;exact ⟨far hgw hS.1,far hga1 hS.2.1,far hga1 hS.2.2.1,far hga1 hS.2.2.2.1,far hgb1 hS.2.2.2.2.1,far hgb1 hS.2.2.2.2.2.1,far hgb1 hS.2.2.2.2.2.2⟩
             refine bJ hK hS ?_;clear hK K hS;refine wpAnyH_done (by kernel_rfl) ?_ _
             go_wp2_with fail
             exact ⟨⟨j+1,by rw [show ((j+1:Nat):Int)=jj+1 from by have:=HJJ.out; omega],by omega,Lib.hid (FIN.out _ _ HV.out HRT.out HRR.out HDD.out HBW.out)⟩,by simp [intOf]; omega⟩
     · obtain rfl:j=m:=by omega
       have gj:¬ (j:Int) < (j:Int):=by omega
       have A2:=Lib.hid all.out;clear all RT RR DD BW ST
       go_wp2_with fail
       go_roundw
       case rel =>
        refine ⟨i+1,G2,by go_num,by omega,Lib.hid ⟨A2.out.1,fun x hx=>?_,A2.out.2.2.2⟩⟩
        by_cases e:x=i
        · subst e
          rw [GX.out.1];refine ⟨?_,hgw⟩;have R:=A2.out.2.1;rw [ints_congr (g:=fun y=>elC a b band 1099511627776 x y) (fun y hy=>by rw [rowF,if_pos hy])] at R;exact R
        · exact A2.out.2.2.1 x (by omega)
       case measure=>simp [intOf]; omega
  · obtain rfl:i=n:=by omega
    have gi:¬ (i:Int) < (i:Int):=by omega
    have A2:=Lib.hid all.out;clear all R0 D0 bw hmi
    go_wp2_with fail
    go_ret;exact ⟨_,rfl,G,A2.out.1,A2.out.2.1,A2.out.2.2⟩
end Go.Proofs.YtalmeogjhmblhaaGreat

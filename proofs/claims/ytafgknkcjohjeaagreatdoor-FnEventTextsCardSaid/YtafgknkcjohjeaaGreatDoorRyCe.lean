/- Plain facts for the walks of the recogniser: matches one by one, groups one by one, the order one by one. No program is named here. Conditions: none. -/
import Derived.Test.YtafgknkcjohjeaaGreatDoorRcWordse
import Derived.Test.YtafgknkcjohjeaaGreatDoorTke
import Derived.Test.YtafgknkcjohjeaaGreatDoorRwLe
import Derived.Test.YtafgknkcjohjeaaGreatDoorRwQe
import Derived.Test.YtafgknkcjohjeaaGreatDoorTyFeate
import Derived.Test.YtafgknkcjohjeaaGreatDoorEtEe
import Derived.Laws.StructEq
import Derived.Deep.Cut
import Derived.Deep.CutRange
namespace Go.Proofs.YtafgknkcjohjeaaGreatDoor
open Go Go.RowKit
def tmpAt (p:PSetup) (k:Nat):PTemp:=p.temps.getD k ⟨.empty,[]⟩
theorem tmpAt_get {p:PSetup} {k:Nat} (h:k < p.temps.length):tmpAt p k=p.temps[k]:=by simp [tmpAt,List.getD_eq_getElem?_getD,List.getElem?_eq_getElem h]
def matchV (p:PSetup) (fs:List PFeat) (k:Nat):Int:=(elZ fs (tmpAt p k).feats p.band).getD 0
def matchK (p:PSetup) (fs:List PFeat):Nat→List (Nat × Int)
 | 0=>[]
 | k+1=>if bandB p.band fs.length (tmpAt p k).feats.length=true then matchK p fs k++[(k,matchV p fs k)] else matchK p fs k
def rawOf (p:PSetup) (pen:Int) (l:List (Nat × Int)):List HypZ:=l.map fun m=>⟨(tmpAt p m.1).label,m.2+pen⟩
theorem rawHyps_match (p:PSetup) (fs:List PFeat) (pen:Int):rawHyps p fs pen=rawOf p pen (matchK p fs p.temps.length):=by
 have key:∀ k,k≤p.temps.length→((p.temps.take k).filter fun t=>bandB p.band fs.length t.feats.length).map (fun t=>(⟨t.label,(elZ fs t.feats p.band).getD 0+pen⟩:HypZ))=rawOf p pen (matchK p fs k):=by
  intro k
  induction k with
  | zero=>intro _; rfl
  | succ k ih =>
    intro hk;rw [List.take_succ_eq_append_getElem (by omega),List.filter_append,List.map_append,ih (by omega),matchK,tmpAt_get (by omega)]
    by_cases hb:bandB p.band fs.length (p.temps[k]'(by omega)).feats.length=true
    · rw [if_pos hb]
      simp [rawOf,matchV,tmpAt_get (show k < p.temps.length by omega),hb]
    · rw [if_neg hb]
      simp [hb]
 have:=key _ (Nat.le_refl _);rw [List.take_length] at this;exact this
theorem matchK_len (p:PSetup) (fs:List PFeat):∀ k,(matchK p fs k).length≤k
 | 0=>Nat.le_refl _
 | k+1=>by have:=matchK_len p fs k; rw [matchK]; split <;> simp <;> omega
theorem matchK_mem {p:PSetup} {fs:List PFeat}:∀ {k:Nat} {m:Nat × Int},m∈matchK p fs k→m.1 < k∧bandB p.band fs.length (tmpAt p m.1).feats.length=true∧m.2=matchV p fs m.1
 | k+1,m,h=>by
   rw [matchK] at h
   split at h
   · rename_i hb
     rcases List.mem_append.1 h with h | h
     · have:=matchK_mem h; exact ⟨by omega,this.2⟩
     · simp only [List.mem_singleton] at h; subst h; exact ⟨by show k < k+1; omega,hb,rfl⟩
   · have:=matchK_mem h; exact ⟨by omega,this.2⟩
theorem matchV_small {p:PSetup} (hp:setupB p=true) {fs:List PFeat} (hf:∀ f∈fs,featB f=true) (h1:1≤fs.length) (h3:fs.length≤72) {k:Nat} (hk:k < p.temps.length) (hb:bandB p.band fs.length (tmpAt p k).feats.length=true):elZ fs (tmpAt p k).feats p.band=some (matchV p fs k)∧0≤matchV p fs k∧matchV p fs k≤82082:=by
 have ht:=tempB_parts ((setup_parts hp).1 (tmpAt p k) (by rw [tmpAt_get hk]; exact List.getElem_mem hk));obtain ⟨v,h,h4,h5⟩:=elZ_some hf ht.2.1 h1 ht.2.2.1 h3 ht.2.2.2 hb;have:matchV p fs k=v:=by rw [matchV,h]; rfl
 rw [this]; exact ⟨h,h4,h5⟩
def grpRow (a b:Nat):List (Nat × Nat):=((List.range b).filter fun b=>decide (a < b)).map fun b=>(a,b)
theorem grpRow_zero (a:Nat):grpRow a (a+1)=[]:=by
 rw [grpRow,List.filter_eq_nil_iff.2 (by intro x hx; rw [List.mem_range] at hx; simp; omega)]; rfl
theorem grpRow_succ {a b:Nat} (h:a < b):grpRow a (b+1)=grpRow a b++[(a,b)]:=by
 rw [grpRow,List.range_succ,List.filter_append,List.filter_cons_of_pos (by simpa using h)];simp [grpRow]
theorem grpRow_len {a b:Nat}:(grpRow a b).length≤b:=by
 rw [grpRow,List.length_map]; exact Nat.le_trans (List.length_filter_le _ _) (by simp)
def grpAll (n a:Nat):List (Nat × Nat):=(List.range a).flatMap fun a=>grpRow a (min (a+3) n+1)
theorem grpAll_succ (n a:Nat):grpAll n (a+1)=grpAll n a++grpRow a (min (a+3) n+1):=by simp [grpAll,List.range_succ]
theorem grpAll_len (n:Nat):∀ a,(grpAll n a).length≤a * (n+1)
 | 0=>by simp [grpAll]
 | a+1=>by
   have:=grpAll_len n a;have h2:=grpRow_len (a:=a) (b:=min (a+3) n+1);rw [grpAll_succ,List.length_append,Nat.add_mul];omega
theorem grp_filter {m d:Nat} {p q:Nat→Bool} (h1:∀ x,x < m→p x=q x) (h2:∀ x,m≤x→q x=false):(List.range m).filter p=(List.range (m+d)).filter q:=by
 rw [List.range_add,List.filter_append]
 have e:((List.range d).map (fun x=>m+x)).filter q=[]:=List.filter_eq_nil_iff.2 (by
  intro x hx;obtain ⟨y,-,rfl⟩:=List.mem_map.1 hx;rw [h2 _ (by omega)]; decide)
 rw [e,List.append_nil];exact List.filter_congr fun x hx=>h1 x (List.mem_range.1 hx)
theorem flatMap_same {α β:Type} {f g:α→List β}:∀ {l:List α},(∀ x∈l,f x=g x)→l.flatMap f=l.flatMap g
 | [],_=>rfl
 | x :: l,h=>by rw [List.flatMap_cons,List.flatMap_cons,h x (by simp),flatMap_same fun y hy=>h y (by simp [hy])]
theorem grpAll_all (n:Nat):grpAll n n=groupsZ n:=by
 unfold grpAll groupsZ;refine flatMap_same fun a ha=>?_
 rw [List.mem_range] at ha;rw [grpRow]
 congr 1
 obtain ⟨d,hd⟩:∃ d,n+1=min (a+3) n+1+d:=⟨n+1 - (min (a+3) n+1),by omega⟩
 by_cases h3:a+3≤n
 · rw [hd]
   refine grp_filter (fun x hx=>?_) (fun x hx=>?_)
   · have:x≤a+3:=by omega
     simp [this]
   · have:¬ x≤a+3:=by omega
     simp [this]
 · rw [show min (a+3) n+1=n+1 by omega]
   refine List.filter_congr fun x hx=>?_
   rw [List.mem_range] at hx;have:x≤a+3:=by omega
   simp [this]
theorem groupsZ_len16 {n:Nat} (h:n≤16):(groupsZ n).length≤272:=by
 have:=grpAll_len n n;rw [grpAll_all] at this;have h2:n * (n+1)≤16 * 17:=Nat.mul_le_mul h (by omega);omega
def homeI (xs:List PStroke) (k:Nat):Int:=match homeZ xs k with | some h=>(h:Int) | none=>-1
theorem homeI_neg {xs:List PStroke} {k:Nat}:homeI xs k < 0↔homeZ xs k=none:=by
 unfold homeI; cases homeZ xs k with
 | none=>simp
 | some h=>simp
theorem homeI_eq {xs:List PStroke} {d k:Nat}:homeI xs d=(k:Int)↔homeZ xs d=some k:=by
 unfold homeI; cases homeZ xs d with
 | none=>simp
 | some h=>simp only [Option.some.injEq]; omega
theorem homeI_small {xs:List PStroke} {k:Nat}:-1≤homeI xs k∧homeI xs k < (k:Int)+1:=by
 unfold homeI;cases h:homeZ xs k with
 | none=>simp; omega
 | some j=>have:=(homeZ_ok xs k j h).1; simp; omega
def ordRow (xs:List PStroke) (k d:Nat):List Nat:=(List.range d).filter fun j=>decide (homeZ xs j=some k)
theorem ordRow_succ (xs:List PStroke) (k d:Nat):ordRow xs k (d+1)=if homeI xs d=(k:Int) then ordRow xs k d++[d] else ordRow xs k d:=by
 rw [ordRow,List.range_succ,List.filter_append]
 split
 · rename_i h
   rw [List.filter_cons_of_pos (by simpa using homeI_eq.1 h)]; rfl
 · rename_i h
   rw [List.filter_cons_of_neg (by simpa using fun g=>h (homeI_eq.2 g))]; simp [ordRow]
theorem ordRow_len (xs:List PStroke) (k d:Nat):(ordRow xs k d).length≤d:=Nat.le_trans (List.length_filter_le _ _) (by simp)
def ordAll (xs:List PStroke) (k:Nat):List Nat:=(List.range k).flatMap fun k=>if homeI xs k < 0 then k :: ordRow xs k xs.length else []
theorem ordAll_succ (xs:List PStroke) (k:Nat):ordAll xs (k+1)=if homeI xs k < 0 then ordAll xs k++[k]++ordRow xs k xs.length else ordAll xs k:=by
 rw [ordAll,List.range_succ,List.flatMap_append];simp only [List.flatMap_cons,List.flatMap_nil,List.append_nil]
 split <;> simp [ordAll]
theorem ordAll_len (xs:List PStroke):∀ k,(ordAll xs k).length≤k * (xs.length+1)
 | 0=>by simp [ordAll]
 | k+1=>by
   have:=ordAll_len xs k;have h2:=ordRow_len xs k xs.length;rw [ordAll_succ,Nat.add_mul]
   split <;> simp <;> omega
theorem ordAll_all (xs:List PStroke):ordAll xs xs.length=orderZ xs:=by
 unfold ordAll orderZ orderN;refine flatMap_same fun k hk=>?_
 rw [List.mem_range] at hk
 show (if homeI xs k < 0 then k :: ordRow xs k xs.length else [])=if (if k < xs.length then homeZ xs k else none).isSome=true then [] else k :: (List.range xs.length).filter fun d=>decide ((if d < xs.length then homeZ xs d else none)=some k)
 rw [if_pos hk];have e:(homeI xs k < 0)↔¬ (homeZ xs k).isSome=true:=by rw [homeI_neg]; cases homeZ xs k <;> simp
 by_cases h:homeI xs k < 0
 · rw [if_pos h,if_neg (e.1 h)]
   congr 1
   rw [ordRow];refine List.filter_congr fun x hx=>?_
   rw [List.mem_range] at hx;rw [if_pos hx]
 · rw [if_neg h,if_pos (Classical.not_not.1 fun g=>h (e.2 g))]
theorem slice_elems {α:Type} {T:Ty α} {e:TypeId} {o:Bool} {w:World} {xs:List α} {v:Value} {F:List Nat} (h:(T.slice e).rep o w xs [v] F) :
 ∃ A c ec F0 F1,v=.slice A xs.length c∧F=F0++F1∧repL T o w xs ec F1∧CellsAt w A ec:=by
 obtain ⟨A,c,ec,F0,F1,hv,rfl,-,-,hr,-,ha,-⟩:=h;simp only [List.cons.injEq,and_true] at hv;subst hv;refine ⟨A,c,ec,F0,F1,rfl,rfl,hr,fun h0=>?_⟩;have hl:=repL_len hr
 have:0 < xs.length:=by
  rcases Nat.eq_zero_or_pos xs.length with h | h
  · rw [h,Nat.zero_mul] at hl; omega
  · exact h
 obtain ⟨b,off,rfl,-,hc⟩:=ha this;exact ⟨b,off,rfl,hc⟩
theorem boxAllZ_small {xs:List PStroke} (hs:∀ s∈xs,strokeB s=true) (h1:1≤xs.length):BoxInZ (boxAllZ xs):=by
 have hin:InZ (boxAllZ xs) ⟨0,0,4095,4095⟩:=by
  have all:∀ s∈xs,InZ (boxOfZ s) ⟨0,0,4095,4095⟩:=fun s hin=>by
   have:=boxOfZ_small (hs s hin);unfold BoxInZ at this;simp only [InZ]; omega
  refine foldZ_least _ _ xs _ ?_ all;rw [strk_get h1]; exact all _ (List.getElem_mem _)
 have h0:=boxAllZ_in (List.getElem_mem (l:=xs) (n:=0) h1);have h2:=boxOfZ_small (hs _ (List.getElem_mem (l:=xs) (n:=0) h1));unfold BoxInZ at h2 ⊢;simp only [InZ] at h0 hin;omega
def featsU (xs:List PStroke) (n k:Nat):List PFeat:=(xs.take k).flatMap fun s=>featsZ s (boxAllZ xs) n
theorem featsU_all (xs:List PStroke) (n:Nat):featsU xs n xs.length=featsInk xs n:=by rw [featsU,List.take_length]; rfl
theorem featsU_succ {xs:List PStroke} {n k:Nat} (h:k < xs.length):featsU xs n (k+1)=featsU xs n k++featsZ xs[k] (boxAllZ xs) n:=by
 rw [featsU,List.take_succ_eq_append_getElem h,List.flatMap_append];simp [featsU]
theorem featsZ_len (s:PStroke) (b:BoxZ) (n:Nat):(featsZ s b n).length=n:=by simp [featsZ]
theorem featsU_len {xs:List PStroke} {n:Nat}:∀ {k:Nat},k≤xs.length→(featsU xs n k).length=k * n
 | 0,_=>by simp [featsU]
 | k+1,h=>by rw [featsU_succ (by omega),List.length_append,featsU_len (by omega),featsZ_len,Nat.add_mul]; omega
set_option maxRecDepth 100000 in
set_option maxHeartbeats 8000000 in
theorem spec_l08Of_c {ob:Bool} {pe e:TypeId} {xs:List PStroke} {A:Option Addr} {c gB oB n:Nat} {F:List Nat} (w:World) (gl:gB < w.heap.size) (hcell:w.cell? ⟨gB,oB,none⟩=some (.slice A xs.length c)) (h:(pStrokes pe e).rep ob w xs [.slice A xs.length c] F) (hs:∀ s∈xs,strokeB s=true) (h1:1≤xs.length) (h16:xs.length≤16) (hn:2≤n∧n≤24) :
 Calls Tryz.prog 46 #[.pointer (some ⟨gB,oB,none⟩),.int .i64 (n:Int)] w (GivesO (pFeats 182) (featsInk xs n) w):=by
 have CA:=Lib.hid (spec_l02All_c w gl hcell h hs h1);have hbx:=boxAllZ_small hs h1;have CS:=Lib.hid (fun (wr:World) (s:PStroke) (hin:s∈xs) (A:Option Addr) (c g0 o0:Nat) (Fk:List Nat) (gl0:g0 < wr.heap.size) (hc0:wr.cell? ⟨g0,o0,none⟩=some (.slice A s.length c)) (r0:(pPoints pe).rep ob wr s [.slice A s.length c] Fk)=>spec_l08Stroke_c (n:=n) wr gl0 hc0 r0 (hs s hin) hn hbx (boxAllZ_in hin));have H:=Lib.hid h;have GL:=Lib.hid gl;have HC:=Lib.hid hcell;have HOK:=Lib.hid (fun s (hin:s∈xs) k=>featZ_ok (hs s hin) (boxAllZ_in hin) hn.1 (k:=k));clear h hbx hs
 go_enter Tryz.func46,Tryz.ntmps46
 go_wp2_with fail
 refine CA.out.mono ?_;rintro e w1 ⟨rfl,b1⟩;unfold boxVZ;generalize hbb:boxAllZ xs=bb at CS HOK ⊢;have HBB:=Lib.hid hbb;have RX:=Row.new w1 133 #[.int .i64 bb.x1,.int .i64 bb.y1,.int .i64 bb.x2,.int .i64 bb.y2];have B1:=b1.alloc b1.size (.cells #[.int .i64 bb.x1,.int .i64 bb.y1,.int .i64 bb.x2,.int .i64 bb.y2] 133)
 go_upto_region 2 with fail
 have l1:w1.heap.size < (w1.alloc (.cells #[.int .i64 bb.x1,.int .i64 bb.y1,.int .i64 bb.x2,.int .i64 bb.y2] 133)).heap.size:=by simp
 generalize w1.alloc (.cells #[.int .i64 bb.x1,.int .i64 bb.y1,.int .i64 bb.x2,.int .i64 bb.y2] 133)=w2 at RX B1 l1 ⊢;have HRX:=Lib.hid RX;have HB1:=Lib.hid B1;have hsz:=b1.size;have x0:=(B1.cell (p:=⟨gB,oB,none⟩) GL.out).trans HC.out;clear RX B1 CA hbb b1 hcell gl
 go_wp2_with fail
 clear x0
 go_loopw [6,7] (fun l i wr=>∃ (k:Nat) (v:Value) (G:List Nat),l=v∧i=.int .i64 k∧k≤xs.length∧Hid ((pFeats 182).rep true wr (featsU xs n k) [v] G∧Fresh w2.heap.size G∧Below w2.heap.size w2 wr)) (fun _ i _=>xs.length - (intOf i).toNat)
 case atStart =>
  exact ⟨0,_,[w2.heap.size],rfl,rfl,by omega,Lib.hid ⟨slice_of_row (T:=pFeat) (xs:=[]) (Row.new w2 _ _) ⟨rfl,rfl⟩ (by simp [maxLen]),⟨by simp,by simp⟩,(Below.refl _ _).alloc (Nat.le_refl _) _⟩⟩
 case round =>
  obtain ⟨k,vk,G,rfl,rfl,hk,all⟩:=hrel;obtain ⟨rep,fr,hb⟩:=all.out;have hbw:Below w.heap.size w wr:=HB1.out.trans (hb.mono HB1.out.size);have x0:=(hbw.cell (p:=⟨gB,oB,none⟩) GL.out).trans HC.out;have gB':=Nat.lt_of_lt_of_le GL.out hbw.size;obtain ⟨U,un,uc2,rfl⟩:=slice_form rep
  by_cases hlt:k < xs.length
  · obtain ⟨A',c',he,-,-,hr⟩:=pStrokes_open (H.out.below hbw)
    cases he;obtain ⟨bs,os,u1,F1,rfl,hbq,-,r1,-,c1⟩:=hr k hlt;obtain ⟨A1,k1,rfl,-,-,-⟩:=pPoints_open r1;have gk:(k:Int) < (xs.length:Int):=by omega
    have gk0:(0:Int)≤(k:Int):=by omega
    have kw:=IntWalk.i64_in ((k:Int)+1) (by omega);have HN:=Lib.hid (featsU_succ (n:=n) hlt);have HL:=Lib.hid (featsU_len (n:=n) (k:=k) hk);have hin:=List.getElem_mem hlt;have HIN:=Lib.hid hin;have rx:=HRX.out.below hb l1;have hS:(fun w':World=>w'.cell? ⟨gB,oB,none⟩=some (.slice (some ⟨bs,os,none⟩) xs.length c)∧w'.cell? ⟨w1.heap.size,0,none⟩=some (.int .i64 bb.x1)∧w'.cell? ⟨w1.heap.size,1,none⟩=some (.int .i64 bb.y1)∧w'.cell? ⟨w1.heap.size,2,none⟩=some (.int .i64 bb.x2)∧w'.cell? ⟨w1.heap.size,3,none⟩=some (.int .i64 bb.y2)) wr.drew:=⟨x0,rx.c0,rx.c1,rx.c2,rx.c3⟩
    have HS:=Lib.hid (fun (w':World) (b:Below w2.heap.size w2 w')=>show (w'.cell? ⟨gB,oB,none⟩=some (.slice (some ⟨bs,os,none⟩) xs.length c)∧w'.cell? ⟨w1.heap.size,0,none⟩=some (.int .i64 bb.x1)∧w'.cell? ⟨w1.heap.size,1,none⟩=some (.int .i64 bb.y1)∧w'.cell? ⟨w1.heap.size,2,none⟩=some (.int .i64 bb.x2)∧w'.cell? ⟨w1.heap.size,3,none⟩=some (.int .i64 bb.y2)) from
     ⟨((HB1.out.trans (b.mono HB1.out.size)).cell (p:=⟨gB,oB,none⟩) GL.out).trans HC.out,(HRX.out.below b l1).c0,(HRX.out.below b l1).c1,(HRX.out.below b l1).c2,(HRX.out.below b l1).c3⟩)
    have REP:=Lib.hid rep.drew;have HB:=Lib.hid hb.drew;have R1:=Lib.hid r1.drew;have FR:=Lib.hid fr;have hbq':bs < wr.drew.heap.size:=hbq;have c1':wr.drew.cell? ⟨bs,os+k,none⟩=some (.slice A1 xs[k].length k1):=c1;clear hr r1 rx rep hb fr all hin
    go_upto_region 6 with fail
    refine wp_region_held_drew (S:=(fun w':World=>w'.cell? ⟨gB,oB,none⟩=some (.slice (some ⟨bs,os,none⟩) xs.length c)∧w'.cell? ⟨w1.heap.size,0,none⟩=some (.int .i64 bb.x1)∧w'.cell? ⟨w1.heap.size,1,none⟩=some (.int .i64 bb.y1)∧w'.cell? ⟨w1.heap.size,2,none⟩=some (.int .i64 bb.x2)∧w'.cell? ⟨w1.heap.size,3,none⟩=some (.int .i64 bb.y2))) (by kernel_rfl) hS (fun _=>?_);clear x0 c1 hbq hbw;generalize wr.drew=we at REP HB R1 hbq' c1' hS ⊢;refine tJ 0 hS ?_;refine tJ 1 hS ?_;refine tJ 2 hS ?_;refine tJ 3 hS ?_;refine tJ 4 hS ?_;refine tJ 5 hS ?_;refine tJ 6 hS ?_;refine tJ 7 hS ?_;refine tJ 8 hS ?_;refine rJ 9 fun K hK=>?_
    refine step_call 61 #[.tmp 26,.tmp 27,.tmp 28] _ rfl rfl #[.pointer (some ⟨bs,os+k,none⟩),.int .i64 (n:Int),.agg #[.int .i64 bb.x1,.int .i64 bb.y1,.int .i64 bb.x2,.int .i64 bb.y2]] Tryz.call61 (by go_simp) (CS.out we xs[k] HIN.out A1 k1 bs (os+k) F1 hbq' c1' R1.out) ?_;rintro e w3 ⟨u3,F3,rfl,r3,f3,b3⟩;refine ⟨_,rfl,?_⟩;replace hS:=HS.out w3 (HB.out.trans (b3.mono HB.out.size));replace HB:=Lib.hid (HB.out.trans (b3.mono HB.out.size));replace REP:=Lib.hid (REP.out.below b3);clear b3 R1 c1' hbq';refine bJ hK hS ?_;clear hK K;simp only [Act.put,pA,pB,pC];obtain ⟨A3,k3,ec,G0,G1,rfl,rfl,hel,hat⟩:=slice_elems r3;obtain ⟨-,hG1⟩:=repL_pFeat_inv hel;subst hG1;rw [featsZ_len] at *;have hkn:k * n≤16 * 24:=Nat.mul_le_mul (by omega) hn.2;refine rJ 10 fun K hK=>?_
    refine step_append_repX (T:=pFeat) (e:=182) (ys:=featsZ xs[k] bb n) (ec:=ec) rfl (.tmp 20) (.tmp 29) rfl Tryz.underlying108 Tryz.infoFeatW rfl (by decide) rfl REP.out (by rw [featsZ_len]; rfl) hel hat (by rw [List.append_nil]; exact FR.out.1) (by rw [HL.out,featsZ_len]; simp only [maxLen]; omega) (by rw [HL.out,featsZ_len]; omega) ?_;intro v6 w6 F6 r6 o6 f6 x6;obtain ⟨V6,n6,c6,rfl⟩:=slice_form r6;have HB6:=HB.out.trans (o6.below (B:=w2.heap.size) HB.out.size FR.out.2);have f6':=f6 w2.heap.size (by rw [List.append_nil]; exact FR.out) HB.out.size;replace hS:=HS.out w6 HB6;refine bJ hK hS ?_;clear hK K;have ST:=Lib.hid (And.intro r6 (And.intro f6' HB6));clear r6 o6 f6 x6 HB6 f6' hat hel r3 f3;refine tJ 11 hS ?_;refine wpAnyH_done (by kernel_rfl) ?_ _;clear hS
    go_wp2_with fail
    exact ⟨⟨k+1,_,F6,rfl,by go_num,by omega,Lib.hid ⟨by rw [HN.out,HBB.out]; exact ST.out.1,ST.out.2.1,ST.out.2.2⟩⟩,by simp [intOf]; omega⟩
  · obtain rfl:k=xs.length:=by omega
    have gk:¬ (xs.length:Int) < (xs.length:Int):=by omega
    rw [featsU_all] at rep;have REP:=Lib.hid rep;have FR:=Lib.hid fr;have HB:=Lib.hid hb;clear all rep fr hb hbw
    go_wp2_with fail
    go_ret;exact ⟨_,G,rfl,REP.out,⟨FR.out.1,fun b hb=>Nat.le_trans HB1.out.size (FR.out.2 b hb)⟩,HB1.out.trans (HB.out.mono HB1.out.size)⟩
def hI (o:Option Nat):Int:=match o with | some h=>(h:Int) | none=>-1
theorem homeI_hI (xs:List PStroke) (k:Nat):homeI xs k=hI (homeZ xs k):=rfl
def hmN (xs:List PStroke) (s k:Nat):Option Nat × Int:=homeN (fun j=>isDotZ (strk xs j)) (fun j=>commonZ (boxOfZ (strk xs s)) (boxOfZ (strk xs j))) k
theorem homeI_not {xs:List PStroke} {s:Nat} (h:isDotZ (strk xs s)=false):homeI xs s=-1:=by
 rw [homeI_hI,homeZ,if_neg (by rw [h]; decide)]; rfl
theorem homeI_dot {xs:List PStroke} {s:Nat} (h:isDotZ (strk xs s)=true):homeI xs s=hI (hmN xs s s).1:=by
 rw [homeI_hI,homeZ,if_pos h]; rfl
theorem common_small {b d:BoxZ} (hb:BoxInZ b) (hd:BoxInZ d):-5000≤commonZ d b∧commonZ d b≤5000:=by
 unfold BoxInZ at hb hd; unfold commonZ; omega
end Go.Proofs.YtafgknkcjohjeaaGreatDoor

/- The home of a stroke: the reference's walk. Conditions: none. -/
import Derived.Test.YtafgknkcjohjeaaGreatDoorRyCe
import Derived.Test.YtafgknkcjohjeaaGreatDoorRwFe
import Derived.Test.YtafgknkcjohjeaaGreatDoorRowe
import Derived.Test.YtafgknkcjohjeaaGreatDoorRwQe
import Derived.Test.YtafgknkcjohjeaaGreatDoorRcWordse
namespace Go.Proofs.YtafgknkcjohjeaaGreatDoor
open Go Go.RowKit
set_option maxHeartbeats 8000000
set_option maxRecDepth 100000
def hrN (xs:List PStroke) (s k:Nat):Option Nat × Int:=homeR (fun j=>isDotZ (strk xs j)) (fun j=>commonZ (boxOfZ (strk xs s)) (boxOfZ (strk xs j))) k
theorem hrN_eq (xs:List PStroke) (s k:Nat):(hrN xs s k).1=(hmN xs s k).1:=(homeR_eq _ _ k).1
theorem spec_l14Home_c {o:Bool} {pe st:TypeId} {xs:List PStroke} {A:Option Addr} {c gB oB:Nat} {F:List Nat} {s:Nat} (w:World) (gl:gB < w.heap.size) (hcell:w.cell? ⟨gB,oB,none⟩=some (.slice A xs.length c)) (h:(pStrokes pe st).rep o w xs [.slice A xs.length c] F) (hs:∀ x∈xs,strokeB x=true) (hsx:s < xs.length) (h16:xs.length≤16) :
 Calls Tryz.prog 126 #[.pointer (some ⟨gB,oB,none⟩),.int .i64 (s:Int)] w fun e w'=>e=.returned (.int .i64 (homeI xs s))∧Below w.heap.size w w':=by
 obtain ⟨A',c',he,hc1,hc2,hr⟩:=pStrokes_open h;cases he;have CD:=Lib.hid (fun (wr:World) (k:Nat) (hk:k < xs.length) (Ak:Option Addr) (ck gk ok:Nat) (Fk:List Nat) (gl0:gk < wr.heap.size) (hc0:wr.cell? ⟨gk,ok,none⟩=some (.slice Ak xs[k].length ck)) (r:(pPoints pe).rep o wr xs[k] [.slice Ak xs[k].length ck] Fk)=>spec_l14Dot_c wr gl0 hc0 r (hs _ (List.getElem_mem hk)));have CB:=Lib.hid (fun (wr:World) (k:Nat) (hk:k < xs.length) (Ak:Option Addr) (ck gk ok:Nat) (Fk:List Nat) (gl0:gk < wr.heap.size) (hc0:wr.cell? ⟨gk,ok,none⟩=some (.slice Ak xs[k].length ck)) (r:(pPoints pe).rep o wr xs[k] [.slice Ak xs[k].length ck] Fk)=>have hl:=strokeB_both (hs _ (List.getElem_mem hk)); spec_l02BoxOf_c wr gl0 hc0 r hl.1 (by omega));have BS:=Lib.hid (fun k (hk:k < xs.length)=>(boxOfZ_small (hs _ (List.getElem_mem hk)):BoxInZ (boxOfZ xs[k])));have H:=Lib.hid h;have GL:=Lib.hid gl;have HC:=Lib.hid hcell;have gs:(s:Int) < (xs.length:Int):=by omega
 have gs0:(0:Int)≤(s:Int):=by omega
 have HST:=Lib.hid (strk_get hsx);obtain ⟨bs,os,us,Fs,rfl,hbs,-,rs,-,cs⟩:=hr s hsx;obtain ⟨As,ks,rfl,-,-,-⟩:=pPoints_open rs;have HSS:=Lib.hid (fun (w':World) (b:Below w.heap.size w w')=>show w'.cell? ⟨gB,oB,none⟩=some (.slice (some ⟨bs,os,none⟩) xs.length c)∧w'.cell? ⟨bs,os+s,none⟩=some (.slice As xs[s].length ks) from ⟨(b.cell (p:=⟨gB,_,none⟩) gl).trans hcell,(b.cell (p:=⟨bs,_,none⟩) hbs).trans cs⟩);have C1:=Lib.hid (CD.out w s hsx As ks bs (os+s) Fs hbs cs rs);have C2:=Lib.hid (fun w1 (b:Below w.heap.size w w1)=>CB.out w1 s hsx As ks bs (os+s) Fs (Nat.lt_of_lt_of_le hbs b.size) ((HSS.out w1 b).2) (rs.below b));clear hr h hs hbs rs
 go_enter Tryz.func126,Tryz.ntmps126
 go_wp2_with fail
 refine C1.out.mono ?_;rintro e w1 ⟨rfl,b1⟩;have B1:=Lib.hid b1;clear b1 C1 hcell cs;obtain ⟨x0,cs⟩:=HSS.out w1 B1.out;cases hd:isDotZ xs[s]
 · have HRES:=Lib.hid (homeI_not (xs:=xs) (s:=s) (by rw [HST.out]; exact hd))
   clear hd
   go_wp2_with fail
   go_ret;exact ⟨by rw [HRES.out]; rfl,B1.out⟩
 · have HRES:=Lib.hid (homeI_dot (xs:=xs) (s:=s) (by rw [HST.out]; exact hd))
   clear hd
   go_wp2_with fail
   refine (C2.out w1 B1.out).mono ?_;rintro e w2 ⟨rfl,b2⟩;unfold boxVZ;have hdb:=BS.out s hsx;have HDB:=Lib.hid (show boxOfZ (strk xs s)=boxOfZ xs[s] by rw [HST.out]);generalize boxOfZ xs[s]=d at hdb HDB ⊢;have RD:=Row.new w2 133 #[.int .i64 d.x1,.int .i64 d.y1,.int .i64 d.x2,.int .i64 d.y2];have b3:=b2.alloc b2.size (.cells #[.int .i64 d.x1,.int .i64 d.y1,.int .i64 d.x2,.int .i64 d.y2] 133);have B3:=Lib.hid (B1.out.trans (b3.mono B1.out.size));have l3:w2.heap.size < (w2.alloc (.cells #[.int .i64 d.x1,.int .i64 d.y1,.int .i64 d.x2,.int .i64 d.y2] 133)).heap.size:=by simp
   go_upto_region 4 with fail
   generalize w2.alloc (.cells #[.int .i64 d.x1,.int .i64 d.y1,.int .i64 d.x2,.int .i64 d.y2] 133)=w3 at RD B3 l3 b3 ⊢;have HRD:=Lib.hid RD;clear RD b2 b3 cs B1 C2 x0
   go_wp2_with fail
   go_loopw [6,7,8] (fun hm mo i wr=>∃ k:Nat,i=.int .i64 k∧k≤s∧hm=.int .i64 (hI (hrN xs s k).1)∧mo=.int .i64 (hrN xs s k).2∧Hid (Below w3.heap.size w3 wr)) (fun _ _ i _=>s - (intOf i).toNat)
   case atStart=>exact ⟨0,rfl,Nat.zero_le _,rfl,rfl,Lib.hid (Below.refl _ _)⟩
   case round =>
    obtain ⟨k,rfl,hk,rfl,rfl,hb⟩:=hrel
    by_cases hlt:k < s
    · have hkx:k < xs.length:=by omega
      have hbw:=B3.out.trans (hb.out.mono B3.out.size);obtain ⟨A',c',he,-,-,hr⟩:=pStrokes_open (H.out.below hbw);cases he;obtain ⟨bk,ok,uk,Fk,e8,hbk,-,rk,-,ck⟩:=hr k hkx;cases e8;obtain ⟨Ak,kk,rfl,-,-,-⟩:=pPoints_open rk;have x0:=(HSS.out wr hbw).1;have gk:(k:Int) < (s:Int):=by omega
      have gkx:(k:Int) < (xs.length:Int):=by omega
      have gk0:(0:Int)≤(k:Int):=by omega
      have kw:=IntWalk.i64_in ((k:Int)+1) (by omega);have HB:=Lib.hid hb.out;have hbx:=BS.out k hkx;have hcm:=common_small hbx hdb
      have HSUC:=Lib.hid (show hrN xs s (k+1)=if isDotZ xs[k]=false∧0 < commonZ d (boxOfZ xs[k])∧(hrN xs s k).2≤commonZ d (boxOfZ xs[k]) then (some k,commonZ d (boxOfZ xs[k])) else hrN xs s k by
       have:=homeR_succ (fun j=>isDotZ (strk xs j)) (fun j=>commonZ (boxOfZ (strk xs s)) (boxOfZ (strk xs j))) k;rw [strk_get hkx,HDB.out] at this;unfold hrN;rw [HDB.out];exact this)
      have CDK:=Lib.hid (CD.out wr k hkx Ak kk bs (os+k) Fk hbk ck rk);have CBK:=Lib.hid (fun w5 (b:Below wr.heap.size wr w5)=>CB.out w5 k hkx Ak kk bs (os+k) Fk (Nat.lt_of_lt_of_le hbk b.size) ((b.cell (p:=⟨bs,_,none⟩) hbk).trans ck) (rk.below b));generalize hrN xs s k=hm at HSUC ⊢;have hcz:commonZ d (boxOfZ xs[k])=min (boxOfZ xs[k]).x2 (d.x2+40) - max (boxOfZ xs[k]).x1 (d.x1 - 40)+1:=rfl;generalize boxOfZ xs[k]=b at hbx hcm HSUC CBK hcz;generalize commonZ d b=cm at hcm HSUC hcz;obtain ⟨ho,mo⟩:=hm;dsimp only at HSUC ⊢;clear hr rk hb hbw
      go_wp2_with fail
      refine CDK.out.mono ?_;rintro e w5 ⟨rfl,b5⟩;have HB5:=Lib.hid (HB.out.trans (b5.mono HB.out.size));have HB55:=Lib.hid b5;clear CDK x0;cases hdt:isDotZ xs[k]
      · rw [hdt] at HSUC
        obtain ⟨x0,-⟩:=HSS.out w5 (B3.out.trans (HB5.out.mono B3.out.size));have ck5:=(b5.cell (p:=⟨bs,_,none⟩) hbk).trans ck;clear hdt b5 ck
        go_wp2_with fail
        refine (CBK.out w5 HB55.out).mono ?_;rintro e w6 ⟨rfl,b6⟩;unfold boxVZ;have RB:=Row.new w6 133 #[.int .i64 b.x1,.int .i64 b.y1,.int .i64 b.x2,.int .i64 b.y2];have b7:=b6.alloc b6.size (.cells #[.int .i64 b.x1,.int .i64 b.y1,.int .i64 b.x2,.int .i64 b.y2] 133)
        go_upto_region 11 with fail
        generalize w6.alloc (.cells #[.int .i64 b.x1,.int .i64 b.y1,.int .i64 b.x2,.int .i64 b.y2] 133)=w7 at RB b7 ⊢;have HB7:=Lib.hid (HB5.out.trans (b7.mono HB5.out.size));have RD7:=HRD.out.below HB7.out l3;have d0:=RD7.c0;have d2:=RD7.c2;have c0:=RB.c0;have c2:=RB.c2;clear RB RD7 b6 b7 x0 ck5 HB5 HB55 HB CBK hbk;unfold BoxInZ at hbx;have hdb':=hdb;unfold BoxInZ at hdb';have z1:=IntWalk.i64_in (d.x2+40) (by omega);have z2:=IntWalk.i64_in (d.x1 - 40) (by omega);have z3:IntKind.i64.wrap (min (d.x2+40) b.x2 - max (d.x1 - 40) b.x1)=cm - 1:=(IntWalk.i64_in _ (by omega)).trans (by omega);have z4:IntKind.i64.wrap (cm - 1+1)=cm:=(IntWalk.i64_in _ (by omega)).trans (by omega);have CMI:=Lib.hid (fun w=>minZ_c (d.x2+40) b.x2 w);have CMA:=Lib.hid (fun w=>maxZ_c (d.x1 - 40) b.x1 w);generalize min (d.x2+40) b.x2=u1 at z3 CMI;generalize max (d.x1 - 40) b.x1=u2 at z3 CMA;clear hbx hdb' hcz
        go_quiet (first | (go_at_call 25; exact Calls.quiet_of_same (CMI.out _)) | (go_at_call 59; exact Calls.quiet_of_same (CMA.out _)))
        clear d0 d2 c0 c2 z1 z2 z3 z4 CMI CMA
        by_cases hc0:0 < cm
        · have e0:decide (0 < cm)=true:=decide_eq_true hc0
          by_cases hmc:mo≤cm
          · have e1:decide (mo≤cm)=true:=decide_eq_true hmc
            have HS2:=Lib.hid (show hrN xs s (k+1)=(some k,cm) by rw [HSUC.out,if_pos (by simp [hc0,hmc])]);clear hmc HSUC hc0
            go_wp2_with fail
            exact ⟨⟨k+1,by go_num,by omega,by rw [HS2.out]; rfl,by rw [HS2.out],Lib.hid (below_drewN HB7.out _)⟩,by simp [intOf]; omega⟩
          · have e1:decide (mo≤cm)=false:=decide_eq_false hmc
            have HS2:=Lib.hid (show hrN xs s (k+1)=(ho,mo) by rw [HSUC.out,if_neg (fun g=>hmc g.2.2)]);clear hmc HSUC hc0
            go_wp2_with fail
            exact ⟨⟨k+1,by go_num,by omega,by rw [HS2.out],by rw [HS2.out],Lib.hid (below_drewN HB7.out _)⟩,by simp [intOf]; omega⟩
        · have e0:decide (0 < cm)=false:=decide_eq_false hc0
          have HS2:=Lib.hid (show hrN xs s (k+1)=(ho,mo) by rw [HSUC.out,if_neg (fun g=>hc0 g.2.1)]);clear HSUC hc0
          go_wp2_with fail
          exact ⟨⟨k+1,by go_num,by omega,by rw [HS2.out],by rw [HS2.out],Lib.hid (below_drewN HB7.out _)⟩,by simp [intOf]; omega⟩
      · rw [hdt] at HSUC
        have HS2:=Lib.hid (show hrN xs s (k+1)=(ho,mo) by rw [HSUC.out,if_neg (fun g=>by cases g.1)]);clear hdt HSUC b5
        go_wp2_with fail
        exact ⟨⟨k+1,by go_num,by omega,by rw [HS2.out],by rw [HS2.out],HB5⟩,by simp [intOf]; omega⟩
    · obtain rfl:k=s:=by omega
      have gk:¬ (k:Int) < (k:Int):=by omega
      have HB7:=B3.out.trans (hb.out.mono B3.out.size);have HEQ:=Lib.hid (hrN_eq xs k k);clear hb
      go_wp2_with fail
      go_ret;exact ⟨by rw [HRES.out,← HEQ.out]; rfl,HB7⟩
def ints (n:Nat) (f:Nat→Int):List Value:=(List.range n).map fun x=>.int .i64 (f x)
theorem ints_len (n:Nat) (f:Nat→Int):(ints n f).length=n:=by simp [ints]
theorem ints_get {n:Nat} {f:Nat→Int} {x:Nat} (h:x < n):(ints n f)[x]?=some (.int .i64 (f x)):=by simp [ints,h]
theorem ints_set {n:Nat} {f:Nat→Int} (x:Nat) (v:Int):(ints n f).set x (.int .i64 v)=ints n (fun y=>if y=x then v else f y):=by
 apply List.ext_getElem
 · simp [ints]
 · intro y h1 h2
   simp [ints] at h1;rw [List.getElem_set];simp [ints]
   by_cases e:x=y
   · subst e; simp
   · have e':¬ y=x:=fun h=>e h.symm
     simp [e,e']
theorem ints_congr {n:Nat} {f g:Nat→Int} (h:∀ x,x < n→f x=g x):ints n f=ints n g:=by
 apply List.map_congr_left;intro x hx;rw [h x (by simpa using hx)]
theorem madeCells_ints (n:Nat):(madeCells #[Value.int .i64 0] (n * 1)).toList=ints n (fun _=>0):=by
 rw [Nat.mul_one,toList_madeCells_one];apply List.ext_getElem <;> simp [ints]
def natI (l:List Nat):List Int:=l.map fun k:Nat=>(k:Int)
theorem natI_len (l:List Nat):(natI l).length=l.length:=by simp [natI]
theorem natI_snoc (l:List Nat) (k:Nat):natI (l++[k])=natI l++[(k:Int)]:=by simp [natI]
def Homes (w:World) (xs:List PStroke) (AH:Option Addr):Prop:=∀ k,k < xs.length→∃ b off,AH=some ⟨b,off,none⟩∧b < w.heap.size∧w.cell? ⟨b,off+k,none⟩=some (.int .i64 (homeI xs k))
theorem Homes.below {w w':World} {xs:List PStroke} {AH:Option Addr} (h:Homes w xs AH) (hb:Below w.heap.size w w'):Homes w' xs AH:=fun k hk=>by
 obtain ⟨b,off,h1,h2,h3⟩:=h k hk;exact ⟨b,off,h1,Nat.lt_of_lt_of_le h2 hb.size,(hb.cell (p:=⟨b,_,none⟩) h2).trans h3⟩
theorem ordAll_few (xs:List PStroke) (h16:xs.length≤16) (k:Nat) (hk:k≤xs.length):(ordAll xs k).length≤272:=by
 have h1:=ordAll_len xs k;have h2:k * (xs.length+1)≤16 * 17:=Nat.mul_le_mul (by omega) (by omega);omega
theorem ordAll_not {xs:List PStroke} {k:Nat} (h:0≤homeI xs k):ordAll xs (k+1)=ordAll xs k:=by rw [ordAll_succ,if_neg (by omega)]
theorem ordAll_yes {xs:List PStroke} {k:Nat} (h:¬ 0≤homeI xs k):ordAll xs (k+1)=ordAll xs k++[k]++ordRow xs k xs.length:=by rw [ordAll_succ,if_pos (by omega)]
theorem ordRow_zero (xs:List PStroke) (k:Nat):ordRow xs k 0=[]:=rfl
theorem spec_l14Order_c {o:Bool} {pe st:TypeId} {xs:List PStroke} {A:Option Addr} {c gB oB:Nat} {F:List Nat} (w:World) (gl:gB < w.heap.size) (hcell:w.cell? ⟨gB,oB,none⟩=some (.slice A xs.length c)) (h:(pStrokes pe st).rep o w xs [.slice A xs.length c] F) (hs:∀ x∈xs,strokeB x=true) (h16:xs.length≤16) :
 Calls Tryz.prog 110 #[.pointer (some ⟨gB,oB,none⟩)] w (GivesO (nums 2) (natI (orderZ xs)) w):=by
 have CH:=Lib.hid (fun (wr:World) (b:Below w.heap.size w wr) (k:Nat) (hk:k < xs.length)=>spec_l14Home_c wr (Nat.lt_of_lt_of_le gl b.size) ((b.cell (p:=⟨gB,_,none⟩) gl).trans hcell) (h.below b) hs hk h16);have HX:=Lib.hid (fun (w':World) (b:Below w.heap.size w w')=>(b.cell (p:=⟨gB,oB,none⟩) gl).trans hcell);clear h hs hcell
 go_enter Tryz.func110,Tryz.ntmps110
 go_wp2_with fail
 go_loopw [3,4] (fun l i wr=>∃ (k:Nat) (v:Value) (G:List Nat),l=v∧i=.int .i64 k∧k≤xs.length∧Hid ((nums 2).rep true wr ((List.range k).map (homeI xs)) [v] G∧Fresh w.heap.size G∧Below w.heap.size w wr)) (fun _ i _=>xs.length - (intOf i).toNat)
 case atStart=>exact ⟨0,_,[w.heap.size],rfl,rfl,by omega,Lib.hid ⟨slice_of_row (T:=int64) (xs:=[]) (Row.new w _ _) ⟨rfl,rfl⟩ (by simp [maxLen]),⟨by simp,by simp⟩,(Below.refl _ _).alloc (Nat.le_refl _) _⟩⟩
 case round =>
 obtain ⟨k,vk,G,rfl,rfl,hk,all⟩:=hrel;have ALL:=Lib.hid all.out;clear all;obtain ⟨U,un,uc,rfl⟩:=slice_form ALL.out.1;have x0:=HX.out wr ALL.out.2.2
 by_cases hlt:k < xs.length
 · have gk:(k:Int) < (xs.length:Int):=by omega
   have gk0:(0:Int)≤(k:Int):=by omega
   have kw:=IntWalk.i64_in ((k:Int)+1) (by omega);have gl2:=Nat.lt_of_lt_of_le gl ALL.out.2.2.size;have hsm:=homeI_small (xs:=xs) (k:=k)
   go_wp2_with fail
   refine (CH.out wr ALL.out.2.2 k hlt).mono ?_;rintro e w1 ⟨rfl,b1⟩;have REP:=Lib.hid (ALL.out.1.below b1);have FR:=Lib.hid ALL.out.2.1;have BW:=Lib.hid (ALL.out.2.2.trans (b1.mono ALL.out.2.2.size));have LN:=Lib.hid (show ((List.range k).map (homeI xs)).length≤16 by simp; omega);have HN:=Lib.hid (show (List.range (k+1)).map (homeI xs)=(List.range k).map (homeI xs)++[homeI xs k] by simp [List.range_succ]);clear b1 ALL x0;generalize homeI xs k=hv at hsm HN ⊢
   go_wp2_with (at_builtin; refine wpList_append_repX (T:=int64) (e:=2) (ys:=[hv]) (ec:=[.int .i64 hv]) rfl (.tmp 18) (.tmp 22) rfl Tryz.underlying65 infoZ rfl (by decide) rfl (REP.out.alloc _) rfl (repL_nums _ (by intro z hz; simp only [List.mem_singleton] at hz; subst hz; constructor <;> omega)) (cellsAt_new _ _ _) trivial (by rw [List.append_nil]; exact FR.out.1) (by have:=LN.out; simp only [List.length_singleton,maxLen]; omega) (by have:=LN.out; simp only [List.length_singleton]; omega) ?_; intro v6 w6 F6 r6 o6 f6 x6)
   have hz:=BW.out.size;have HB6:=(BW.out.alloc hz (.cells #[.int .i64 hv] 2)).trans (o6.below (B:=w.heap.size) (by simp only [World.size_alloc]; omega) FR.out.2);have f6':=f6 w.heap.size (by rw [List.append_nil]; exact FR.out) (by simp only [World.size_alloc]; omega);exact ⟨⟨k+1,_,F6,rfl,by go_num,by omega,Lib.hid ⟨by rw [HN.out]; exact r6,f6',HB6⟩⟩,by simp [intOf]; omega⟩
 obtain rfl:k=xs.length:=by omega
 have gk:¬ (xs.length:Int) < (xs.length:Int):=by omega
 obtain ⟨wh,hwh⟩:∃ W,W=wr:=⟨_,rfl⟩
 subst hwh;have BH:=Lib.hid ALL.out.2.2;obtain ⟨AH,cH,he,-,-,hrh⟩:=nums_open ALL.out.1;simp only [Value.slice.injEq,List.length_map,List.length_range] at he;obtain ⟨hA1,hA2,hA3⟩:=he;subst hA1;subst hA2;subst hA3
 have HHM:=Lib.hid (show Homes wh xs U from fun k hk=>by
  obtain ⟨b,off,h1,h2,-,h3,-⟩:=hrh k (by simpa using hk);exact ⟨b,off,h1,h2,by simpa using h3⟩)
 clear hrh ALL CH
 go_wp2_with fail
 clear x0 HX
 go_loopw [5,6] (fun l i wr=>∃ (k:Nat) (v:Value) (G:List Nat),l=v∧i=.int .i64 k∧k≤xs.length∧Hid ((nums 2).rep true wr (natI (ordAll xs k)) [v] G∧Fresh wh.heap.size G∧Below wh.heap.size wh wr)) (fun _ i _=>xs.length - (intOf i).toNat)
 case atStart=>exact ⟨0,_,[wh.heap.size],rfl,rfl,by omega,Lib.hid ⟨slice_of_row (T:=int64) (xs:=[]) (Row.new wh _ _) ⟨rfl,rfl⟩ (by simp [maxLen]),⟨by simp,by simp⟩,(Below.refl _ _).alloc (Nat.le_refl _) _⟩⟩
 case round =>
  obtain ⟨k,vk,G,rfl,rfl,hk,all⟩:=hrel;have ALL:=Lib.hid all.out;clear all;obtain ⟨U,un,uc,rfl⟩:=slice_form ALL.out.1
  by_cases hlt:k < xs.length
  · obtain ⟨bh,oh,hAH,hbh,ch⟩:=HHM.out.below ALL.out.2.2 k hlt
    cases hAH
    (try rw [Nat.zero_add] at ch)
    have gk:(k:Int) < (xs.length:Int):=by omega
    have gk0:(0:Int)≤(k:Int):=by omega
    have kw:=IntWalk.i64_in ((k:Int)+1) (by omega)
    by_cases hhm:0≤homeI xs k
    · have e1:decide (0≤homeI xs k)=true:=decide_eq_true hhm
      have HN:=Lib.hid (ordAll_not hhm);clear hhm
      go_wp2_with fail
      exact ⟨⟨k+1,_,G,rfl,by go_num,by omega,Lib.hid ⟨by rw [HN.out]; exact ALL.out.1,ALL.out.2⟩⟩,by simp [intOf]; omega⟩
    · have e1:decide (0≤homeI xs k)=false:=decide_eq_false hhm
      have HN:=Lib.hid (ordAll_yes hhm);have REP:=Lib.hid ALL.out.1;have FR:=Lib.hid ALL.out.2.1;have BW:=Lib.hid ALL.out.2.2;have LN:=Lib.hid (ordAll_few xs h16 k hk);clear hhm ALL
      go_wp2_with (at_builtin; refine wpList_append_repX (T:=int64) (e:=2) (ys:=[(k:Nat)]) (ec:=[.int .i64 (k:Nat)]) rfl (.tmp 36) (.tmp 38) rfl Tryz.underlying65 infoZ rfl (by decide) rfl (REP.out.alloc _) rfl (repL_nums _ (by intro z hz; simp only [List.mem_singleton] at hz; subst hz; constructor <;> omega)) (cellsAt_new _ _ _) trivial (by rw [List.append_nil]; exact FR.out.1) (by have:=LN.out; rw [natI_len]; simp only [List.length_singleton,maxLen]; omega) (by have:=LN.out; rw [natI_len]; simp only [List.length_singleton]; omega) ?_; intro v6 w6 F6 r6 o6 f6 x6)
      have hz:=BW.out.size;have HB6:=Lib.hid ((BW.out.alloc hz (.cells #[.int .i64 (k:Nat)] 2)).trans (o6.below (B:=wh.heap.size) (by simp only [World.size_alloc]; omega) FR.out.2));have f6':=Lib.hid (f6 wh.heap.size (by rw [List.append_nil]; exact FR.out) (by simp only [World.size_alloc]; omega));have R6:=Lib.hid (show (nums 2).rep true w6 (natI (ordAll xs k++[k])) [v6] F6 by rw [natI_snoc]; exact r6);clear r6 o6 f6 x6 ch REP FR BW;obtain ⟨V6,n6,c6,rfl⟩:=slice_form R6.out
      go_wp2_with fail
      go_loopw [5,7] (fun l i wq=>∃ (d:Nat) (v:Value) (G:List Nat),l=v∧i=.int .i64 d∧d≤xs.length∧Hid ((nums 2).rep true wq (natI (ordAll xs k++[k]++ordRow xs k d)) [v] G∧Fresh wh.heap.size G∧Below wh.heap.size wh wq)) (fun _ i _=>xs.length - (intOf i).toNat)
      case atStart=>exact ⟨0,_,F6,rfl,rfl,by omega,Lib.hid ⟨by rw [ordRow_zero,List.append_nil]; exact R6.out,f6'.out,HB6.out⟩⟩
      case round =>
       obtain ⟨d,vd,G2,rfl,rfl,hd,all⟩:=hrel;have ALL:=Lib.hid all.out;clear all;obtain ⟨U2,un2,uc2,rfl⟩:=slice_form ALL.out.1
       by_cases hld:d < xs.length
       · obtain ⟨bh2,oh2,e8,hbh2,ch⟩:=HHM.out.below ALL.out.2.2 d hld
         cases e8
         (try rw [Nat.zero_add] at ch)
         have gd:(d:Int) < (xs.length:Int):=by omega
         have gd0:(0:Int)≤(d:Int):=by omega
         have kd:=IntWalk.i64_in ((d:Int)+1) (by omega)
         by_cases hhd:homeI xs d=(k:Int)
         · have e2:(homeI xs d == (k:Int))=true:=by rw [hhd]; simp
           have HD:=Lib.hid (show ordRow xs k (d+1)=ordRow xs k d++[d] by rw [ordRow_succ,if_pos hhd]);have REP:=Lib.hid ALL.out.1;have FR:=Lib.hid ALL.out.2.1;have BW:=Lib.hid ALL.out.2.2
           have LN2:=Lib.hid (show (ordAll xs k++[k]++ordRow xs k d).length≤400 by
            have h1:=ordAll_few xs h16 k hk;have h2:=ordRow_len xs k d;simp only [List.length_append,List.length_singleton]; omega)
           clear hhd ALL
           go_wp2_with (at_builtin; refine wpList_append_repX (T:=int64) (e:=2) (ys:=[(d:Nat)]) (ec:=[.int .i64 (d:Nat)]) rfl (.tmp 52) (.tmp 54) rfl Tryz.underlying65 infoZ rfl (by decide) rfl (REP.out.alloc _) rfl (repL_nums _ (by intro z hz; simp only [List.mem_singleton] at hz; subst hz; constructor <;> omega)) (cellsAt_new _ _ _) trivial (by rw [List.append_nil]; exact FR.out.1) (by have:=LN2.out; rw [natI_len]; simp only [List.length_singleton,maxLen]; omega) (by have:=LN2.out; rw [natI_len]; simp only [List.length_singleton]; omega) ?_; intro v6 w6 F6 r6 o6 f6 x6)
           have hz:=BW.out.size;have HB7:=(BW.out.alloc hz (.cells #[.int .i64 (d:Nat)] 2)).trans (o6.below (B:=wh.heap.size) (by simp only [World.size_alloc]; omega) FR.out.2);have f7':=f6 wh.heap.size (by rw [List.append_nil]; exact FR.out) (by simp only [World.size_alloc]; omega);exact ⟨⟨d+1,_,_,rfl,by go_num,by omega,Lib.hid ⟨by rw [HD.out,← List.append_assoc,natI_snoc]; exact r6,f7',HB7⟩⟩,by simp [intOf]; omega⟩
         · have e2:(homeI xs d == (k:Int))=false:=beq_false_of_ne hhd
           have HD:=Lib.hid (show ordRow xs k (d+1)=ordRow xs k d by rw [ordRow_succ,if_neg hhd]);clear hhd
           go_wp2_with fail
           exact ⟨⟨d+1,_,G2,rfl,by go_num,by omega,Lib.hid ⟨by rw [HD.out]; exact ALL.out.1,ALL.out.2⟩⟩,by simp [intOf]; omega⟩
       · obtain rfl:d=xs.length:=by omega
         have gd:¬ (xs.length:Int) < (xs.length:Int):=by omega
         go_wp2_with fail
         go_roundw
         case rel=>exact ⟨k+1,_,G2,rfl,by go_num,by omega,Lib.hid ⟨by rw [HN.out]; exact ALL.out.1,ALL.out.2⟩⟩
         case measure=>simp [intOf]; omega
  · obtain rfl:k=xs.length:=by omega
    have gk:¬ (xs.length:Int) < (xs.length:Int):=by omega
    go_wp2_with fail
    go_ret;exact ⟨_,G,rfl,by rw [← ordAll_all]; exact ALL.out.1,ALL.out.2.1.mono BH.out.size,BH.out.trans (ALL.out.2.2.mono BH.out.size)⟩
theorem spec_l00Has_c {xs:List Int} {A:Option Addr} {c:Nat} {x:Int} (w:World) (hr:∀ k (hk:k < xs.length),∃ b off,A=some ⟨b,off,none⟩∧w.cell? ⟨b,off+k,none⟩=some (.int .i64 xs[k])) (hx:xs.length≤1000000) :
 Calls Tryz.prog 111 #[.slice A xs.length c,.int .i64 x] w fun e w'=>e=.returned (.bool (decide (x∈xs)))∧w'=w:=by
 have HR:=Lib.hid hr;clear hr
 go_enter Tryz.func111,Tryz.ntmps111
 go_wp2_with fail
 go_loopw [5] (fun i wr=>∃ k:Nat,i=.int .i64 k∧k≤xs.length∧Hid (∀ j (hj:j < xs.length),j < k→¬ xs[j]=x)∧wr=w) (fun i _=>xs.length - (intOf i).toNat)
 case atStart=>exact ⟨0,rfl,by omega,Lib.hid (fun _ _ h=>by omega),rfl⟩
 case round =>
  obtain ⟨k,rfl,hk,hno,hw⟩:=hrel;subst hw
  by_cases hlt:k < xs.length
  · obtain ⟨b,off,rfl,hc⟩:=HR.out k hlt
    have gk:(k:Int) < (xs.length:Int):=by omega
    have gk0:(0:Int)≤(k:Int):=by omega
    have kw:=IntWalk.i64_in ((k:Int)+1) (by omega)
    by_cases he:xs[k]=x
    · have e1:(xs[k] == x)=true:=by rw [he]; simp
      have HM:=Lib.hid (decide_eq_true (show x∈xs by rw [← he]; exact List.getElem_mem hlt));clear he
      go_wp2_with fail
      go_ret;exact ⟨by rw [HM.out]; rfl,rfl⟩
    · have e1:(xs[k] == x)=false:=beq_false_of_ne he
      have HE:=Lib.hid he;clear he
      go_wp2_with fail
      refine ⟨⟨k+1,by go_num,by omega,Lib.hid (fun j hj hjk=>?_),trivial⟩,by simp [intOf]; omega⟩
      by_cases e:j=k
      · subst e; exact HE.out
      · exact hno.out j hj (by omega)
  · obtain rfl:k=xs.length:=by omega
    have gk:¬ (xs.length:Int) < (xs.length:Int):=by omega
    have HM:=Lib.hid (decide_eq_false (show ¬ x∈xs by
     intro hin;obtain ⟨j,hj,e⟩:=List.getElem_of_mem hin;exact hno.out j hj hj e))
    go_wp2_with fail
    go_ret;exact ⟨by rw [HM.out]; rfl,rfl⟩
theorem Tryz.infoPointR:(Tryz.prog.info? 85).map (fun i=>(i.zero,i.size,i.bytes))=some (some (.agg #[.int .i64 0,.int .i64 0,.int .i64 0]),pPoint.size,24):=by kernel_rfl
theorem Tryz.infoStrokeR:(Tryz.prog.info? 89).map (fun i=>(i.zero,i.size,i.bytes))=some (some (.agg #[.slice none 0 0]),(pStroke 85).size,24):=by kernel_rfl
theorem spec_l02OwnStroke_c {o:Bool} {e:TypeId} {s:PStroke} {A:Option Addr} {c gB oB:Nat} {F:List Nat} (w:World) (gl:gB < w.heap.size) (hcell:w.cell? ⟨gB,oB,none⟩=some (.slice A s.length c)) (h:(pPoints e).rep o w s [.slice A s.length c] F) (hs:s.length≤1000) :
 Calls Tryz.prog 42 #[.pointer (some ⟨gB,oB,none⟩)] w fun e w'=>∃ u F,e=.returned (.agg #[u])∧(pPoints 85).rep true w' s [u] F∧Fresh w.heap.size F∧Below w.heap.size w w':=by
 obtain ⟨A',c',ec,F0,F1,he,rfl,hel,hat⟩:=slice_elems h;cases he;obtain ⟨A2,c2,he2,-,-,hr⟩:=pPoints_open h;cases he2;have b2:Below w.heap.size w ((w.alloc (.cells #[.slice none 0 0] 89)).alloc (.cells #[] 85)):=((Below.refl _ _).alloc (Nat.le_refl _) _).alloc (by simp) _;have hz:=repL_len hel
 have HEL:=Lib.hid (show repL pPoint true ((w.alloc (.cells #[.slice none 0 0] 89)).alloc (.cells #[] 85)) s ec [] by
  obtain ⟨rfl,rfl⟩:=repL_pPoint_inv hel;exact repL_pPoint s (pPoints_ok h))
 have HAT:=Lib.hid (show CellsAt ((w.alloc (.cells #[.slice none 0 0] 89)).alloc (.cells #[] 85)) A ec from fun h0=>by
  have h1:0 < s.length:=by
   rcases Nat.eq_zero_or_pos s.length with h | h
   · rw [h,Nat.zero_mul] at hz; omega
   · exact h
  obtain ⟨b,off,hA,hb,-⟩:=hr 0 h1;exact cellsAt_later hat (fun a ha=>by rw [hA] at ha; cases ha; exact hb) b2 h0)
 have x0:=(b2.cell (p:=⟨gB,oB,none⟩) gl).trans hcell;have e2:=empty_is pPoint 85 (w.alloc (.cells #[.slice none 0 0] 89));rw [World.size_alloc] at e2;have E2:=Lib.hid e2;have R2:=Lib.hid ((Row.new w 89 #[.slice none 0 0]).alloc (.cells #[] 85));have B2:=Lib.hid b2;have hl2:w.heap.size+1 < ((w.alloc (.cells #[.slice none 0 0] 89)).alloc (.cells #[] 85)).heap.size:=by simp
 clear h hel hat hr b2 hz e2
 go_enter Tryz.func42,Tryz.ntmps42
 go_wp2_with (at_builtin; refine wpList_append_repX (T:=pPoint) (e:=85) (ys:=s) (ec:=ec) rfl (.tmp 3) (.tmp 7) rfl Tryz.underlying42 Tryz.infoPointR rfl (by decide) rfl E2.out rfl HEL.out HAT.out trivial (by simp) (by simp only [List.length_nil,maxLen]; omega) (by simp only [List.length_nil]; omega) ?_; intro v6 w6 F6 r6 o6 f6 x6; obtain ⟨V6,n6,c6,rfl⟩:=slice_form r6; have q6:Row w6 w.heap.size 89 [.slice none 0 0]:=(o6.block _ R2.out.lt (by simp)).trans R2.out; have v0:=q6.c0; have vF:=q6.frozen)
 have hz:=B2.out.size;have HB6:=B2.out.trans (o6.below (B:=w.heap.size) hz (by simp));have f6':=f6 w.heap.size (by simp [Fresh]) hz
 have hlt6:∀ b∈F6,w.heap.size+1≤b:=fun b hb=>by
  have:=(f6 (w.heap.size+1) (by simp [Fresh]) (by simp)).2 b hb;omega
 refine bodyPost_ret (v:=.agg #[.slice V6 n6 c6]) (by simp only [results,Tryz.results42]; go_simp) rfl ?_;have r7:(pPoints 85).rep true w6 s [.slice V6 n6 c6] F6:=r6;exact ⟨_,rfl,F6,r7.setCell (p:=⟨w.heap.size,0,none⟩) (fun hin=>by have:=hlt6 _ hin; dsimp only at this; omega) _,f6',HB6.setCell (p:=⟨w.heap.size,0,none⟩) (Nat.le_refl _) _⟩
end Go.Proofs.YtafgknkcjohjeaaGreatDoor

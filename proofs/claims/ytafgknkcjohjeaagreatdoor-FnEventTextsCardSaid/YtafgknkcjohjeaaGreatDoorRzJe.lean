/- An edge is put into a list in its order, in the reference. Conditions: none. -/
import Derived.Test.YtafgknkcjohjeaaGreatDoorEtKe
import Derived.Test.YtafgknkcjohjeaaGreatDoorRcWordse
import Derived.Test.YtafgknkcjohjeaaGreatDoorRyCe
import Derived.Test.YtafgknkcjohjeaaGreatDoorRwDe
import Derived.Test.YtafgknkcjohjeaaGreatDoorRzDe
import Derived.Deep.CutBlock
namespace Go.Proofs.YtafgknkcjohjeaaGreatDoor
open Go Go.RowKit
set_option maxHeartbeats 8000000
set_option maxRecDepth 100000
theorem spec_l15Put_c {ys:List LEdge} {h:LEdge} {v:Value} {F:List Nat} (w:World) (r:(pEdge.slice 171).rep true w ys [v] F) (hx:ys.length≤100000) (hso:ys.Pairwise (fun x y=>edgeLt x y=true)) (hok:h.src < 1048576∧h.dst < 1048576∧h.lab.size≤maxLen∧I64 h.cost) (hdis:∀ x∈ys,¬ SameKey x h) :
 Calls Tryz.prog 86 #[v,.agg #[.int .i64 (h.src:Nat),.int .i64 (h.dst:Nat),.string h.lab,.int .i64 h.cost]] w fun e w'=>∃ u F',e=.returned u∧(pEdge.slice 171).rep true w' (insS edgeLt h ys) [u] F'∧Fresh w.heap.size F'∧Below w.heap.size w w':=by
 obtain ⟨A,c,rfl,hc1,hc2,-⟩:=pEdges_open r;have R:=Lib.hid r;have R0:=Row.new w 171 #[.int .i64 (h.src:Nat),.int .i64 (h.dst:Nat),.string h.lab,.int .i64 h.cost];have b0:Below w.heap.size w (w.alloc (.cells #[.int .i64 (h.src:Nat),.int .i64 (h.dst:Nat),.string h.lab,.int .i64 h.cost] 171)):=(Below.refl _ _).alloc (Nat.le_refl _) _;have l0:w.heap.size < (w.alloc (.cells #[.int .i64 (h.src:Nat),.int .i64 (h.dst:Nat),.string h.lab,.int .i64 h.cost] 171)).heap.size:=by simp
 have OK:=Lib.hid hok;have SO:=Lib.hid hso;have DI:=Lib.hid hdis;clear r hok hso hdis
 go_enter Tryz.func86,Tryz.ntmps86
 go_upto_region 1 with fail
 generalize w.alloc (.cells #[.int .i64 (h.src:Nat),.int .i64 (h.dst:Nat),.string h.lab,.int .i64 h.cost] 171)=w0 at R0 b0 l0 ⊢;have HR0:=Lib.hid R0;have B0:=Lib.hid b0;clear R0 b0
 go_upto_block 0 with fail
 go_cut [5] from 9 to 20 (fun s wx=>∃ k:Nat,s=.int .i64 k∧k≤ys.length∧(∀ j (hj:j < ys.length),k≤j→edgeLt h ys[j]=true)∧(∀ (h0:0 < k) (hk:k≤ys.length),edgeLt h (ys[k - 1]'(by omega))=false)∧Below w0.heap.size w0 wx)
 case first =>
  go_wp2_with fail
  go_loopw [5] (fun s wr=>∃ k:Nat,s=.int .i64 k∧k≤ys.length∧Hid ((∀ j (hj:j < ys.length),k≤j→edgeLt h ys[j]=true)∧Below w0.heap.size w0 wr)) (fun s _=>(intOf s).toNat)
  case atStart=>exact ⟨ys.length,rfl,Nat.le_refl _,Lib.hid ⟨fun j hj h=>by omega,Below.refl _ _⟩⟩
  case round =>
   obtain ⟨k,rfl,hk,all⟩:=hrel;have ALL:=Lib.hid all.out;clear all;cases k with
   | zero =>
     go_wp2_with fail
     go_meet
     case rel=>exact ⟨0,rfl,Nat.zero_le _,ALL.out.1,fun h0=>absurd h0 (by decide),ALL.out.2⟩
   | succ k1 =>
     obtain ⟨A2,c2,he,-,-,hry⟩:=pEdges_open (R.out.below (B0.out.trans (ALL.out.2.mono B0.out.size)));cases he;have hk':k1 < ys.length:=hk;obtain ⟨g,off,rfl,hg,-,c0,c1,c2,c3,-⟩:=hry k1 hk';have rx:=HR0.out.later ALL.out.2;have hdk:=DI.out _ (List.getElem_mem hk');generalize hy:ys[k1]'hk'=y at c0 c1 c2 c3 hdk;have HYK:=Lib.hid hy;have HK1:=Lib.hid hk';have HPOS:=Lib.hid (ordE_pos (x:=y) (y:=h) hdk);have gk0:(0:Int)≤(k1:Int):=by omega
     have gk1:(k1:Int) < (ys.length:Int):=by omega
     have gk2:(0:Int) < ((k1+1:Nat):Int):=by omega
     have km:IntKind.i64.wrap (((k1+1:Nat):Int) - 1)=(k1:Int):=(IntWalk.i64_in _ (by omega)).trans (by omega);have CO:=Lib.hid (spec_l15Order_c (x:=y) (y:=h) wr c0 c1 c2 rx.c0 rx.c1 rx.c2);generalize hkk:((k1+1:Nat):Int)=kk at gk2 km ⊢;have HKK:=Lib.hid hkk;have gk3:decide (0 < kk)=true:=decide_eq_true gk2;clear hry rx c0 c1 c2 c3 hk hg hkk hdk
     go_wp2_with fail
     refine CO.out.mono ?_;rintro e w2 ⟨rfl,b2⟩;have BW:=Lib.hid (ALL.out.2.trans (b2.mono ALL.out.2.size));generalize ordE y h=od at HPOS ⊢;cases hq:edgeLt h y
     · rw [hq] at HPOS
       have e1:=HPOS.out
       go_wp2_with fail
       go_meet
       case rel=>exact ⟨k1+1,by rw [HKK.out],HK1.out,ALL.out.1,fun _ _=>by simp only [Nat.add_sub_cancel]; rw [HYK.out]; exact hq,BW.out⟩
     · rw [hq] at HPOS
       have e1:=HPOS.out
       go_wp2_with fail
       refine ⟨⟨k1,by first | rfl | go_num,Nat.le_of_lt HK1.out,Lib.hid ⟨fun j hj hkj=>?_,BW.out⟩⟩,?_⟩
       · by_cases e:j=k1
         · subst e; rw [HYK.out]; exact hq
         · exact ALL.out.1 j hj (by omega)
       · simp [intOf]; have:=HKK.out; omega
 case rest =>
  obtain ⟨wp,hwp⟩:∃ W,W=wc:=⟨_,rfl⟩
  subst hwp;obtain ⟨k,rfl,hk,hafter,hbefore,bp⟩:=hcut;have REP2:=Lib.hid (R.out.below (B0.out.trans (bp.mono B0.out.size)));have HINS:=Lib.hid (ins_at edgeLt_sto SO.out hk hafter (fun h0=>hbefore h0 hk));have HB2:=Lib.hid (B0.out.trans (bp.mono B0.out.size));have rx:=HR0.out.later bp;have x0:=rx.c0;have x1:=rx.c1;have x2:=rx.c2;have x3:=rx.c3;have hl0:w.heap.size < wp.heap.size:=rx.lt;have hl1:=hl0;have gk0:(0:Int)≤(k:Int):=by omega
  have gk1:(k:Int)≤(ys.length:Int):=by omega
  have HK:=Lib.hid hk;clear hafter hbefore bp rx hk;have hyok:=flat_ok REP2.out;have HOKT:=Lib.hid (fun z (hz:z∈ys.take k)=>hyok z (List.mem_of_mem_take hz));have HOKD:=Lib.hid (fun z (hz:z∈ys.drop k)=>hyok z (List.mem_of_mem_drop hz));have HNT:=Lib.hid (show (ys.take k).length=k by rw [List.length_take]; have:=HK.out; omega);have HND:=Lib.hid (show (ys.drop k).length=ys.length - k by rw [List.length_drop]);clear hyok;rcases flat_parts REP2.out HK.out with ⟨hv,hyn⟩ | ⟨g,cc,AD,hv,h1,h2,hF,hg,ht,hif,hd⟩
  case' inl =>
   have hk0:k=0:=by have:=HK.out; rw [hyn] at this; simpa using this
   simp only [Value.slice.injEq] at hv;obtain ⟨rfl,hv2,rfl⟩:=hv;have ht:CellsAt wp none ((ys.take k).flatMap (fun e:LEdge=>[Value.int .i64 e.src,.int .i64 e.dst,.string e.lab,.int .i64 e.cost])):=fun h0=>by rw [hyn] at h0; simp at h0
   have hd:CellsAt wp none ((ys.drop k).flatMap (fun e:LEdge=>[Value.int .i64 e.src,.int .i64 e.dst,.string e.lab,.int .i64 e.cost])):=fun h0=>by rw [hyn] at h0; simp at h0
   have HLT:=Lib.hid (show ∀ a:Addr,(none:Option Addr)=some a→a.block < wp.heap.size by intro a h; cases h);have HLD:=HLT;clear hyn
  case' inr =>
   cases hv;have HLT:=Lib.hid (show ∀ a:Addr,(some ⟨g,0,none⟩:Option Addr)=some a→a.block < wp.heap.size by intro a h; cases h; exact hg)
   have HLD:=Lib.hid (show ∀ a:Addr,(some AD:Option Addr)=some a→a.block < wp.heap.size by
    intro a h
    split at hif
    · cases hif; cases h; exact hg
    · cases hif; cases h; exact hg)
  all_goals
   have HT:=Lib.hid ht;have HD:=Lib.hid hd;clear ht hd
   go_upto_region 5 with (at_builtin; refine wpList_append_repX (T:=pEdge) (e:=171) (ys:=ys.take k) (ec:=(ys.take k).flatMap (fun e:LEdge=>[Value.int .i64 e.src,.int .i64 e.dst,.string e.lab,.int .i64 e.cost])) rfl (.tmp 21) (.tmp 24) rfl Tryz.underlying118 infoEdge rfl (by decide) rfl (empty_is pEdge _ _) (by first | (rw [HNT.out]; rfl) | (rw [HNT.out,hk0]; rfl)) (flat_repL _ HOKT.out) (cellsAt_later HT.out HLT.out ((Below.refl _ _).alloc (Nat.le_refl _) _)) trivial (by simp) (by rw [HNT.out]; simp only [List.length_nil,maxLen]; omega) (by rw [HNT.out]; simp only [List.length_nil]; omega) ?_; intro v2 w2 F2 r2 o2 f2 x2)
   have b2:=((Below.refl wp.heap.size wp).alloc (Nat.le_refl _) (.cells #[] 171)).trans (o2.below (B:=wp.heap.size) (by simp) (by simp));have fr2:=f2 wp.heap.size ⟨by simp,by simp⟩ (by simp);have R2:=Lib.hid r2;have FR2:=Lib.hid fr2;have B2:=Lib.hid b2;obtain ⟨V2,n2,c2,rfl⟩:=slice_form r2;clear r2 o2 f2 x2 fr2;replace x0:=(b2.cell (p:=⟨w.heap.size,0,none⟩) hl0).trans x0; replace x1:=(b2.cell (p:=⟨w.heap.size,1,none⟩) hl0).trans x1; replace x2:=(b2.cell (p:=⟨w.heap.size,2,none⟩) hl0).trans x2; replace x3:=(b2.cell (p:=⟨w.heap.size,3,none⟩) hl0).trans x3
   clear b2
   go_upto_region 6 with (at_builtin; refine wpList_append_repX (T:=pEdge) (e:=171) (ys:=[h]) (ec:=[.int .i64 (h.src:Nat),.int .i64 (h.dst:Nat),.string h.lab,.int .i64 h.cost]) rfl (.tmp 26) (.tmp 28) rfl Tryz.underlying118 infoEdge rfl (by decide) rfl (R2.out.alloc _) rfl (flat_repL _ (by intro z hz; simp only [List.mem_singleton] at hz; subst hz; exact OK.out)) (cellsAt_new _ _ _) trivial (by rw [List.append_nil]; exact FR2.out.1) (by simp only [List.nil_append,HNT.out,List.length_singleton,maxLen]; omega) (by simp only [List.nil_append,HNT.out,List.length_singleton]; omega) ?_; intro v3 w3 F3 r3 o3 f3 x3)
   have hz2:=B2.out.size;have b3:=(B2.out.alloc hz2 (.cells [.int .i64 (h.src:Nat),.int .i64 (h.dst:Nat),.string h.lab,.int .i64 h.cost].toArray 171)).trans (o3.below (B:=wp.heap.size) (by simp only [World.size_alloc]; omega) FR2.out.2);have fr3:=f3 wp.heap.size (by rw [List.append_nil]; exact FR2.out) (by simp only [World.size_alloc]; omega);have R3:=Lib.hid r3;have FR3:=Lib.hid fr3;have B3:=Lib.hid b3;obtain ⟨V3,n3,c3,rfl⟩:=slice_form r3;clear r3 o3 f3 x3 fr3 b3
   go_wp2_with (at_builtin; refine wpList_append_repX (T:=pEdge) (e:=171) (ys:=ys.drop k) (ec:=(ys.drop k).flatMap (fun e:LEdge=>[Value.int .i64 e.src,.int .i64 e.dst,.string e.lab,.int .i64 e.cost])) rfl (.tmp 30) (.tmp 33) rfl Tryz.underlying118 infoEdge rfl (by decide) rfl R3.out (by first | (rw [HND.out]; rfl) | (rw [HND.out,hv2,hk0]; rfl)) (flat_repL _ HOKD.out) (cellsAt_later HD.out HLD.out B3.out) trivial (by rw [List.append_nil]; exact FR3.out.1) (by rw [HND.out]; simp only [List.nil_append,List.length_append,HNT.out,List.length_singleton,maxLen]; omega) (by rw [HND.out]; simp only [List.nil_append,List.length_append,HNT.out,List.length_singleton]; omega) ?_; intro v4 w4 F4 r4 o4 f4 x4)
   have hz3:=B3.out.size;have b4:=B3.out.trans (o4.below (B:=wp.heap.size) hz3 FR3.out.2);have fr4:=f4 wp.heap.size (by rw [List.append_nil]; exact FR3.out) hz3;have e4:[]++ys.take k++[h]++ys.drop k=ys.take k++h :: ys.drop k:=by simp
   rw [e4,HINS.out] at r4;clear x0 x1 x2 x3;go_ret;refine ⟨_,rfl,F4,r4,fr4.mono (Nat.le_of_lt hl1),?_⟩;exact (HB2.out.trans (b4.mono HB2.out.size)).mono (Nat.le_refl _)
theorem sortedE_strict {l:List LEdge} (h:l.Pairwise fun x y=>¬ SameKey x y):(sortedE l).Pairwise (fun x y=>edgeLt x y=true):=by
 have h1:(sortedE l).Pairwise fun x y=>¬ SameKey x y:=((sortedE_perm _).pairwise_iff (fun {x y} h k=>h ⟨k.1.symm,k.2.1.symm,k.2.2.symm⟩)).2 h
 refine (List.pairwise_and_iff.2 ⟨sortedE_weak l,h1⟩).imp fun {x y} h=>?_
 cases e:edgeLt x y with
 | true=>rfl
 | false=>exact absurd (edgeLt_sto.tot x y e h.1 ▸ ⟨rfl,rfl,rfl⟩:SameKey x y) h.2
theorem sortedE_snoc (l:List LEdge) (e:LEdge):sortedE (l++[e])=insS edgeLt e (sortedE l):=by
 rw [sortedE,List.foldl_append]; rfl
theorem sortedE_away {l:List LEdge} {e:LEdge} (h:(l++[e]).Pairwise fun x y=>¬ SameKey x y):∀ x∈sortedE l,¬ SameKey x e:=by
 intro x hx;exact (List.pairwise_append.1 h).2.2 x ((sortedE_perm l).mem_iff.1 hx) e (by simp)
theorem sortedE_len (l:List LEdge):(sortedE l).length=l.length:=(sortedE_perm l).length_eq
def mkE (g:Nat × Nat) (h:HypZ):LEdge:=⟨g.1,g.2,h.label,h.cost⟩
def edgesG (p:PSetup) (xs:List PStroke) (i:Nat):List LEdge:=((groupsZ xs.length).take i).flatMap (groupE p xs)
theorem edgesG_all (p:PSetup) (xs:List PStroke):edgesG p xs (groupsZ xs.length).length=edgesZ p xs:=by rw [edgesG,List.take_length,edgesZ]
theorem edgesG_succ {p:PSetup} {xs:List PStroke} {i:Nat} (h:i < (groupsZ xs.length).length):edgesG p xs (i+1)=edgesG p xs i++groupE p xs (groupsZ xs.length)[i]:=by
 rw [edgesG,List.take_succ_eq_append_getElem h,List.flatMap_append,← edgesG]; simp
theorem edgesG_keys {p:PSetup} {xs:List PStroke} {i:Nat}:(edgesG p xs i).Pairwise fun x y=>¬ SameKey x y:=by
 refine (edgesZ_keys p xs).sublist ?_
 have e:edgesZ p xs=edgesG p xs i++((groupsZ xs.length).drop i).flatMap (groupE p xs):=by
  rw [edgesG,← List.flatMap_append,List.take_append_drop,edgesZ]
 rw [e];exact List.sublist_append_left _ _
theorem edgesG_len {p:PSetup} (hp:setupB p=true) (xs:List PStroke):∀ (i:Nat),(edgesG p xs i).length≤i * 8:=by
 intro i;unfold edgesG
 have key:∀ (l:List (Nat × Nat)),(l.flatMap (groupE p xs)).length≤l.length * 8:=by
  intro l
  induction l with
  | nil=>simp
  | cons a l ih =>
    rw [List.flatMap_cons,List.length_append,List.length_cons]
    have:(groupE p xs a).length≤8:=by
     rw [groupE]; split
     · rw [List.length_map]; exact hypsZ_few hp _
     · simp
    omega
 have:=key ((groupsZ xs.length).take i);rw [List.length_take] at this;omega
def edgesH (p:PSetup) (xs:List PStroke) (i:Nat) (g:Nat × Nat) (hs:List HypZ) (j:Nat):List LEdge:=edgesG p xs i++(hs.take j).map (mkE g)
theorem edgesH_zero (p:PSetup) (xs:List PStroke) (i:Nat) (g:Nat × Nat) (hs:List HypZ):edgesH p xs i g hs 0=edgesG p xs i:=by simp [edgesH]
theorem edgesH_succ {p:PSetup} {xs:List PStroke} {i:Nat} {g:Nat × Nat} {hs:List HypZ} {j:Nat} (h:j < hs.length):edgesH p xs i g hs (j+1)=edgesH p xs i g hs j++[mkE g hs[j]]:=by
 rw [edgesH,List.take_succ_eq_append_getElem h,List.map_append,edgesH,List.append_assoc]; rfl
theorem edgesH_all {p:PSetup} {xs:List PStroke} {i:Nat} {g:Nat × Nat} (h:i < (groupsZ xs.length).length) (hg:(groupsZ xs.length)[i]=g) (h72:((g.2 - g.1:Nat):Int) * p.points≤72):edgesH p xs i g (hypsZ p (groupInk xs g.1 g.2)) (hypsZ p (groupInk xs g.1 g.2)).length=edgesG p xs (i+1):=by
 rw [edgesG_succ h,hg,edgesH,List.take_length,groupE,if_pos h72]; rfl
theorem edgesG_skip {p:PSetup} {xs:List PStroke} {i:Nat} {g:Nat × Nat} (h:i < (groupsZ xs.length).length) (hg:(groupsZ xs.length)[i]=g) (h72:¬ ((g.2 - g.1:Nat):Int) * p.points≤72):edgesG p xs (i+1)=edgesG p xs i:=by
 rw [edgesG_succ h,hg,groupE,if_neg h72,List.append_nil]
theorem edgesH_keys {p:PSetup} {xs:List PStroke} {i:Nat} {g:Nat × Nat} (h:i < (groupsZ xs.length).length) (hg:(groupsZ xs.length)[i]=g) (h72:((g.2 - g.1:Nat):Int) * p.points≤72) (j:Nat):(edgesH p xs i g (hypsZ p (groupInk xs g.1 g.2)) j).Pairwise fun x y=>¬ SameKey x y:=by
 have:=edgesG_keys (p:=p) (xs:=xs) (i:=i+1);rw [← edgesH_all h hg h72] at this;refine this.sublist ?_;unfold edgesH;rw [List.take_length];exact (List.Sublist.refl _).append ((List.take_sublist j _).map _)
theorem edgesH_len {p:PSetup} (hp:setupB p=true) (xs:List PStroke) (i:Nat) (g:Nat × Nat) (hs:List HypZ) (j:Nat):(edgesH p xs i g hs j).length≤i * 8+j:=by
 rw [edgesH,List.length_append,List.length_map,List.length_take];have:=edgesG_len hp xs i;omega
structure OwnLat (w:World) (n:Int) (es:List LEdge) (gL:Nat) (v:Value) (F:List Nat):Prop where
 row:Row w gL 120 [.int .i64 n,v]
 rep:(pEdge.slice 171).rep true w es [v] F
 fr:Fresh (gL+1) F
theorem OwnLat.later {w w':World} {n:Int} {es:List LEdge} {gL:Nat} {v:Value} {F:List Nat} (h:OwnLat w n es gL v F) (hb:Below w.heap.size w w'):OwnLat w' n es gL v F:=⟨h.row.later hb,h.rep.below hb,h.fr⟩
theorem OwnLat.drew {w:World} {n:Int} {es:List LEdge} {gL:Nat} {v:Value} {F:List Nat} (h:OwnLat w n es gL v F):OwnLat w.drew n es gL v F:=⟨h.row.drew,h.rep.drew,h.fr⟩
theorem OwnLat.drewN {w:World} {n:Int} {es:List LEdge} {gL:Nat} {v:Value} {F:List Nat} (h:OwnLat w n es gL v F):∀ m,OwnLat (w.drewN m) n es gL v F
 | 0=>h
 | m+1=>by rw [World.drewN]; exact (h.drewN m).drew
theorem spec_l14Groups_c {n:Nat} (w:World) (hn:n≤16):Calls Tryz.prog 83 #[.int .i64 (n:Int)] w (GivesO (pGroup.slice 163) (groupsZ n) w):=by
 go_enter Tryz.func83,Tryz.ntmps83
 go_wp2_with fail
 go_loopw [3,4] (fun l i wr=>∃ (k:Nat) (v:Value) (G:List Nat),l=v∧i=.int .i64 k∧k≤n∧Hid ((pGroup.slice 163).rep true wr (grpAll n k) [v] G∧Fresh w.heap.size G∧Below w.heap.size w wr)) (fun _ i _=>n - (intOf i).toNat)
 case atStart=>exact ⟨0,_,[w.heap.size],rfl,rfl,by omega,Lib.hid ⟨slice_of_row (T:=pGroup) (xs:=[]) (Row.new w _ _) ⟨rfl,rfl⟩ (by simp [maxLen]),⟨by simp,by simp⟩,(Below.refl _ _).alloc (Nat.le_refl _) _⟩⟩
 case round =>
  obtain ⟨a,vk,G,rfl,rfl,ha,all⟩:=hrel;have ALL:=Lib.hid all.out;clear all
  by_cases hlt:a < n
  · have ga:(a:Int) < (n:Int):=by omega
    have ka:=IntWalk.i64_in ((a:Int)+1) (by omega);have ka3:=IntWalk.i64_in ((a:Int)+3) (by omega)
    go_wp2_with fail
    go_loopw [3,5] (fun l i wq=>∃ (k:Nat) (v:Value) (G:List Nat),l=v∧i=.int .i64 k∧a < k∧k≤min (a+3) n+1∧Hid ((pGroup.slice 163).rep true wq (grpAll n a++grpRow a k) [v] G∧Fresh w.heap.size G∧Below w.heap.size w wq)) (fun _ i _=>min (a+3) n+1 - (intOf i).toNat)
    case atStart=>exact ⟨a+1,_,G,rfl,by go_num,by omega,by omega,Lib.hid ⟨by rw [grpRow_zero,List.append_nil]; exact ALL.out.1,ALL.out.2⟩⟩
    case round =>
     obtain ⟨b,vq,G2,rfl,rfl,hab,hb,all⟩:=hrel;obtain ⟨rep,fr,bw⟩:=all.out;have REP:=Lib.hid rep;have FR:=Lib.hid fr;have BW:=Lib.hid bw;obtain ⟨U,un,uc,rfl⟩:=slice_form rep
     have LN:=Lib.hid (show (grpAll n a++grpRow a b).length≤400 by
      have h1:=grpAll_len n a;have h2:=grpRow_len (a:=a) (b:=b);have h3:a * (n+1)≤16 * 17:=Nat.mul_le_mul (by omega) (by omega);rw [List.length_append]; omega)
     clear all rep fr bw ALL;generalize haa:(a:Int)=aa at ga ka ka3;generalize hbb:(b:Int)=bb;have kb:=IntWalk.i64_in (bb+1) (by omega)
     by_cases hlb:b≤min (a+3) n
     · have HN:=Lib.hid (show grpAll n a++grpRow a (b+1)=grpAll n a++grpRow a b++[(a,b)] by rw [grpRow_succ hab,List.append_assoc])
       have e1:decide (bb≤(n:Int))=true:=decide_eq_true (by omega);have e2:decide (bb≤aa+3)=true:=decide_eq_true (by omega);have HA:=Lib.hid haa;have HB:=Lib.hid hbb;clear haa hbb
       go_wp2_with (at_builtin; refine wpList_append_repX (T:=pGroup) (e:=163) (ys:=[(a,b)]) (ec:=[.int .i64 aa,.int .i64 bb]) rfl (.tmp 25) (.tmp 29) rfl Tryz.underlying160 infoGroup rfl (by decide) rfl (REP.out.alloc _) rfl (by rw [← HA.out,← HB.out]; exact flat_repL _ (fun _ _=>trivial)) (cellsAt_new _ _ _) trivial (by rw [List.append_nil]; exact FR.out.1) (by have:=LN.out; simp only [List.length_singleton,maxLen]; omega) (by have:=LN.out; simp only [List.length_singleton]; omega) ?_; intro v6 w6 F6 r6 o6 f6 x6)
       have hz:=BW.out.size;have HB6:=(BW.out.alloc hz (.cells #[.int .i64 aa,.int .i64 bb] 163)).trans (o6.below (B:=w.heap.size) (by simp only [World.size_alloc]; omega) FR.out.2);have f6':=f6 w.heap.size (by rw [List.append_nil]; exact FR.out) (by simp only [World.size_alloc]; omega);refine ⟨⟨b+1,_,F6,rfl,by rw [show ((b+1:Nat):Int)=bb+1 by have:=HB.out; omega],by omega,by omega,Lib.hid ⟨by rw [HN.out]; exact r6,f6',HB6⟩⟩,?_⟩;have:=HB.out;simp [intOf]; omega
     · obtain rfl:b=min (a+3) n+1:=by omega
       have HA:=Lib.hid haa;have HB:=Lib.hid hbb;have hmm:=Lib.hid hlb
       by_cases hbn:bb≤(n:Int)
       · have e1:decide (bb≤(n:Int))=true:=decide_eq_true hbn
         have e2:decide (bb≤aa+3)=false:=decide_eq_false (by omega);clear haa hbb
         go_wp2_with fail
         go_roundw
         case rel=>exact ⟨a+1,_,G2,rfl,by rw [← HA.out]; first | rfl | go_num,by omega,Lib.hid ⟨by rw [grpAll_succ]; exact REP.out,FR.out,BW.out⟩⟩
         case measure=>have:=HA.out; simp [intOf]; omega
       · have e1:decide (bb≤(n:Int))=false:=decide_eq_false hbn
         clear haa hbb
         go_wp2_with fail
         go_roundw
         case rel=>exact ⟨a+1,_,G2,rfl,by rw [← HA.out]; first | rfl | go_num,by omega,Lib.hid ⟨by rw [grpAll_succ]; exact REP.out,FR.out,BW.out⟩⟩
         case measure=>have:=HA.out; simp [intOf]; omega
  · obtain rfl:a=n:=by omega
    have ga:¬ (a:Int) < (a:Int):=by omega
    obtain ⟨U,un,uc,rfl⟩:=slice_form ALL.out.1
    go_wp2_with fail
    go_ret;exact ⟨_,G,rfl,by rw [← grpAll_all]; exact ALL.out.1,ALL.out.2.1,ALL.out.2.2⟩
def groupK (xs:List PStroke) (a b k:Nat):List PStroke:=((List.range k).filter fun k=>decide (k∈((orderZ xs).take b).drop a)).map (strk xs)
theorem groupK_all (xs:List PStroke) (a b:Nat):groupK xs a b xs.length=groupInk xs a b:=rfl
theorem groupK_succ (xs:List PStroke) (a b k:Nat):groupK xs a b (k+1)=if k∈((orderZ xs).take b).drop a then groupK xs a b k++[strk xs k] else groupK xs a b k:=by
 rw [groupK,List.range_succ,List.filter_append,List.map_append]
 split
 · rename_i h; rw [List.filter_cons_of_pos (by simpa using h)]; rfl
 · rename_i h; rw [List.filter_cons_of_neg (by simpa using h)]; simp [groupK]
theorem groupK_len (xs:List PStroke) (a b k:Nat):(groupK xs a b k).length≤k:=by
 rw [groupK,List.length_map]; exact Nat.le_trans (List.length_filter_le _ _) (by simp)
theorem natI_mem {l:List Nat} {k:Nat}:((k:Int)∈natI l)↔k∈l:=by
 rw [natI,List.mem_map];constructor
 · rintro ⟨x,hx,e⟩; have:x=k:=by omega
   subst this; exact hx
 · intro h; exact ⟨k,h,rfl⟩
structure OwnInk (w:World) (gs:List PStroke) (gI:Nat) (v:Value) (F:List Nat):Prop where
 row:Row w gI 41 [v]
 rep:(pStrokes 85 89).rep true w gs [v] F
 fr:Fresh (gI+1) F
theorem OwnInk.later {w w':World} {gs:List PStroke} {gI:Nat} {v:Value} {F:List Nat} (h:OwnInk w gs gI v F) (hb:Below w.heap.size w w'):OwnInk w' gs gI v F:=⟨h.row.later hb,h.rep.below hb,h.fr⟩
theorem OwnInk.drew {w:World} {gs:List PStroke} {gI:Nat} {v:Value} {F:List Nat} (h:OwnInk w gs gI v F):OwnInk w.drew gs gI v F:=⟨h.row.drew,h.rep.drew,h.fr⟩
def PartAt (w:World) (A:Option Addr) (l:List Nat):Prop:=∀ k (hk:k < l.length),∃ b off,A=some ⟨b,off,none⟩∧b < w.heap.size∧w.cell? ⟨b,off+k,none⟩=some (.int .i64 (l[k]:Nat))
theorem PartAt.below {w w':World} {A:Option Addr} {l:List Nat} (h:PartAt w A l) (hb:Below w.heap.size w w'):PartAt w' A l:=fun k hk=>by
 obtain ⟨b,off,h1,h2,h3⟩:=h k hk;exact ⟨b,off,h1,Nat.lt_of_lt_of_le h2 hb.size,(hb.cell (p:=⟨b,_,none⟩) h2).trans h3⟩
theorem part_of {w:World} {e:TypeId} {l:List Nat} {v:Value} {F:List Nat} (h:(nums e).rep true w (natI l) [v] F) {a b:Nat} (hab:a < b) (hb:b≤l.length) :
 ∃ g c AD,v=.slice (some ⟨g,0,none⟩) l.length c∧l.length≤c∧(if c=a then (some ⟨g,0,none⟩:Option Addr) else some ⟨g,a,none⟩)=some AD∧PartAt w (some AD) ((l.take b).drop a):=by
 rcases flat_parts (n:=1) (enc:=fun n:Int=>[Value.int .i64 n]) (ok:=I64) (h1:=fun _=>rfl) (h2:=by intro a u h; simp at h; subst h; rfl) (k:=a) h (by rw [natI_len]; omega) with ⟨-,hn⟩ | ⟨g,c,AD,hv,h1,h2,hF,hg,ht,hif,hd⟩
 · have:=congrArg List.length hn
   rw [natI_len,List.length_nil] at this; omega
 · rw [natI_len] at hv h1
   rw [Nat.mul_one] at hif;refine ⟨g,c,AD,hv,h1,hif,fun k hk=>?_⟩;rw [if_neg (by omega)] at hif;injection hif with hif
   subst hif;rw [List.length_drop,List.length_take] at hk
   have e5:((natI l).drop a).flatMap (fun n=>[Value.int .i64 n])=((natI l).drop a).map (fun n=>Value.int .i64 n):=by
    generalize (natI l).drop a=m
    induction m with
    | nil=>rfl
    | cons x m ih=>rw [List.flatMap_cons,List.map_cons,ih]; rfl
   rw [e5] at hd;have h0:0 < (((natI l).drop a).map fun n=>Value.int .i64 n).length:=by rw [List.length_map,List.length_drop,natI_len]; omega
   obtain ⟨b',off',e1,hc⟩:=hd h0;injection e1 with e1; injection e1 with e2 e3 _; subst e2; subst e3
   refine ⟨g,a,rfl,hg,hc k _ ?_⟩;rw [List.getElem?_map,List.getElem?_drop,natI,List.getElem?_map];have hlt:a+k < l.length:=by omega
   rw [List.getElem?_eq_getElem hlt];simp
end Go.Proofs.YtafgknkcjohjeaaGreatDoor

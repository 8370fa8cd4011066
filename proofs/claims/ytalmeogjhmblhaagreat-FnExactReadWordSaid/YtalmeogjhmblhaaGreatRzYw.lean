/- Edges and found words in order, in the program. Conditions: none. -/
import Derived.Test.YtalmeogjhmblhaaGreatRzUw
import Derived.Test.YtalmeogjhmblhaaGreatRyUw
import Derived.Test.YtalmeogjhmblhaaGreatTkw
import Derived.Test.YtalmeogjhmblhaaGreatRzTw
namespace Go.Proofs.YtalmeogjhmblhaaGreat
open Go Go.RowKit Go.Shelf
set_option maxHeartbeats 8000000
set_option maxRecDepth 100000
instance:Inhabited LEdge:=⟨⟨0,0,.empty,0⟩⟩
instance:Inhabited FoundZ:=⟨⟨.empty,0,0⟩⟩
def keyE (x:LEdge):LEdge:=⟨x.src,x.dst,x.lab,0⟩
def keyF (x:FoundZ):FoundZ:=⟨x.word,IntKind.i64.wrap (x.path+x.own),0⟩
theorem cf3 (a b:Int) (m n:Nat) (u v:ByteArray):decide ((if cmpI a b≠0 then cmpI a b else if cmpI (m:Int) (n:Int)≠0 then cmpI (m:Int) (n:Int) else cmpF u v) < 0)=(decide (a < b) || (decide (a=b) && (decide (m < n) || (decide (m=n) && bLess u v)))):=by
 by_cases h:a=b
 · have h0:cmpI a b=0:=cmpI_zero.2 h
   by_cases h2:m=n
   · have h3:cmpI (m:Int) (n:Int)=0:=cmpI_zero.2 (by omega)
     rw [if_neg (by rw [h0]; simp),if_neg (by rw [h3]; simp),cmpF_lt];simp [h,h2]
   · have h3:cmpI (m:Int) (n:Int)≠0:=fun g=>h2 (by have:=cmpI_zero.1 g; omega)
     rw [if_neg (by rw [h0]; simp),if_pos h3,cmpI_neg];have h4:decide ((m:Int) < (n:Int))=decide (m < n):=decide_eq_decide.2 (by omega);rw [h4];simp [h,h2]
 · have h3:cmpI a b≠0:=fun g=>h (cmpI_zero.1 g)
   rw [if_pos h3,cmpI_neg];simp [h]
theorem ltOf_cfEdge (x y:LEdge):ltOf cfEdge x y=edgeLt (keyE x) (keyE y):=by
 show decide (cfEdge x y < 0)=_
 rw [cfEdge,orL_cons,orL_two,cf3,Bool.eq_iff_iff,edgeLt_iff];simp only [keyE,Bool.or_eq_true,Bool.and_eq_true,decide_eq_true_iff];have h1:((x.src:Nat):Int) < ((y.src:Nat):Int)↔x.src < y.src:=by omega
 have h2:((x.src:Nat):Int)=((y.src:Nat):Int)↔x.src=y.src:=by omega
 rw [h1,h2];simp
theorem ltOf_cfFound (x y:FoundZ):ltOf cfFound x y=foundLt (keyF x) (keyF y):=by
 show decide (cfFound x y < 0)=_
 rw [cfFound,orL_cons,orL_two,cf3];obtain ⟨a,ha⟩:∃ a,IntKind.i64.wrap (x.path+x.own)=a:=⟨_,rfl⟩
 obtain ⟨b,hb⟩:∃ b,IntKind.i64.wrap (y.path+y.own)=b:=⟨_,rfl⟩
 simp only [foundLt,keyF,ha,hb,Int.add_zero]
 by_cases h:a=b
 · subst h; simp
 · simp [h]
theorem rises_one {α:Type} {lt:α→α→Bool} (o:STO lt):∀ {l m:List α},l.Perm m→l.Pairwise (fun x y=>lt x y=true)→m.Pairwise (fun x y=>lt x y=true)→l=m
 | [],m,h,_,_=>by rw [List.nil_perm] at h; exact h.symm
 | a :: l,[],h,_,_=>by have:=h.length_eq; simp at this
 | a :: l,b :: m,h,h1,h2=>by
   have e:a=b:=by
    rcases List.mem_cons.1 (h.mem_iff.1 (List.mem_cons_self ..)) with e | e
    · exact e
    · rcases List.mem_cons.1 (h.mem_iff.2 (List.mem_cons_self ..)) with e' | e'
      · exact e'.symm
      · have x1:=(List.pairwise_cons.1 h2).1 a e
        have x2:=(List.pairwise_cons.1 h1).1 b e';rw [o.asym x1] at x2; cases x2
   subst e;rw [rises_one o ((List.perm_cons a).1 h) (List.pairwise_cons.1 h1).2 (List.pairwise_cons.1 h2).2]
theorem edges_one {l ys:List LEdge} (hl:l.Pairwise fun x y=>¬ SameKey x y) (hp:ys.Perm l) (hs:ys.Pairwise fun x y=>edgeLt (keyE y) (keyE x)=false):ys=sortedE l:=by
 have h1:ys.Pairwise fun x y=>¬ SameKey x y:=(hp.pairwise_iff (fun {x y} h k=>h ⟨k.1.symm,k.2.1.symm,k.2.2.symm⟩)).2 hl
 refine rises_one edgeLt_sto (hp.trans (sortedE_perm l).symm) ((List.pairwise_and_iff.2 ⟨hs,h1⟩).imp fun {x y} h=>?_) (sortedE_strict hl)
 have h2:edgeLt (keyE x) (keyE y)=true:=by
  cases e:edgeLt (keyE x) (keyE y) with
  | true=>rfl
  | false =>
    have:=edgeLt_sto.tot _ _ e h.1;simp only [keyE,LEdge.mk.injEq] at this;exact absurd ⟨this.1,this.2.1,this.2.2.1⟩ h.2
 rw [edgeLt_iff] at h2 ⊢;simp only [keyE] at h2;rcases h2 with h2 | ⟨h2,h5 | ⟨h3,h4 | h4⟩⟩
 · exact .inl h2
 · exact .inr ⟨h2,.inl h5⟩
 · exact .inr ⟨h2,.inr ⟨h3,.inl h4⟩⟩
 · omega
theorem found_one {l ys:List FoundZ} (hl:l.Pairwise fun x y=>x.word≠y.word) (hb:∀ f∈l,IntKind.i64.wrap (f.path+f.own)=f.path+f.own) (hp:ys.Perm l) (hs:ys.Pairwise fun x y=>foundLt (keyF y) (keyF x)=false):ys=sortedF l:=by
 have h1:ys.Pairwise fun x y=>x.word≠y.word:=(hp.pairwise_iff (fun {x y} h k=>h k.symm)).2 hl
 refine rises_one foundLt_sto (hp.trans (sortedF_perm l).symm) (List.Pairwise.imp_of_mem ?_ (List.pairwise_and_iff.2 ⟨hs,h1⟩)) (sortedF_strict hl);intro x y hx hy h;have bx:=hb x (hp.mem_iff.1 hx);have by':=hb y (hp.mem_iff.1 hy)
 have h2:foundLt (keyF x) (keyF y)=true:=by
  cases e:foundLt (keyF x) (keyF y) with
  | true=>rfl
  | false =>
    have:=foundLt_sto.tot _ _ e h.1;simp only [keyF,FoundZ.mk.injEq] at this;exact absurd this.1 h.2
 rw [foundLt_iff] at h2 ⊢;simp only [keyF,bx,by',Int.add_zero] at h2;rcases h2 with h2 | ⟨h2,h3 | ⟨h3,h4 | h4⟩⟩
 · exact .inl h2
 · exact .inr ⟨h2,.inl h3⟩
 · exact .inr ⟨h2,.inr ⟨h3,.inl h4⟩⟩
 · omega
theorem sort_Edge {e:TypeId} {xs:List LEdge} {v:Value} {F:List Nat} (w:World) (h:(pEdge.slice e).rep true w xs [v] F) (hx:xs.length≤1048576) :
 Calls Tryz.prog 144 #[v,.func (.func 145) #[] #[]] w fun en w'=>en=.returned (.tuple #[])∧∃ ys,ys.Perm xs∧ys.Pairwise (fun x y=>edgeLt (keyE y) (keyE x)=false)∧(pEdge.slice e).rep true w' ys [v] F∧Only F w w' :=
 sort_flat laysEdge (by decide) Tryz.isAgg206 Tryz.sizeOf206 edgeLt_sto keyE cfEdge ltOf_cfEdge 145 (enters_of Tryz.func145 (by kernel_rfl) rfl) (fun x y w=>impl_compareEdges_c x y w) w h hx
theorem sort_Found {e:TypeId} {xs:List FoundZ} {v:Value} {F:List Nat} (w:World) (h:(pFound.slice e).rep true w xs [v] F) (hx:xs.length≤1048576) :
 Calls Tryz.prog 147 #[v,.func (.func 148) #[] #[]] w fun en w'=>en=.returned (.tuple #[])∧∃ ys,ys.Perm xs∧ys.Pairwise (fun x y=>foundLt (keyF y) (keyF x)=false)∧(pFound.slice e).rep true w' ys [v] F∧Only F w w' :=
 sort_flat laysFound (by decide) Tryz.isAgg143 Tryz.sizeOf143 foundLt_sto keyF cfFound ltOf_cfFound 148 (enters_of Tryz.func148 (by kernel_rfl) rfl) (fun x y w=>impl_compareFound_c x y w) w h hx
end Go.Proofs.YtalmeogjhmblhaaGreat
namespace Go.Proofs.YtalmeogjhmblhaaGreat
open Go Go.RowKit
set_option maxHeartbeats 8000000
set_option maxRecDepth 100000
theorem impl_readable_c {o o2:Bool} {ee en:TypeId} {es:List LEdge} {xs:List PEntry} {N:Nat} {vE vX:Value} {F FX:List Nat} (w:World) (h:(pEdge.slice ee).rep o w es [vE] F) (hX:(pEntrys en).rep o2 w xs [vX] FX) (hN:1≤N∧N≤1000) (hl:lexB xs=true) (hd:∀ e∈es,e.src < N∧e.dst < N∧0≤e.cost∧e.cost≤100000) :
 Calls Tryz.prog 87 #[.agg #[.int .i64 (N:Nat),vE],.agg #[vX]] w (GivesO (pFound.slice 143) (sortedF (foundK xs es (N - 1) xs.length)) w):=by
 have hx60:xs.length≤60:=by rw [lexB,Bool.and_eq_true,decide_eq_true_iff] at hl; exact hl.2
 have EO:=Lib.hid (fun (e:PEntry) (he:e∈xs)=>(show e.word.size≤10∧0≤e.cost∧e.cost≤1000000 from ⟨(isWord_size (entry_ok hl he).1).2,(entry_ok hl he).2⟩));have HCS:=Lib.hid (fun (t:ByteArray) (x:Int) (h:lcE es (letterAt t) t.size (N - 1)=some x)=>lcE_small es (letterAt t) (fun e he=>(hd e he).2.2) t.size (N - 1) x h)
 have HB:=Lib.hid (show ∀ f∈foundK xs es (N - 1) xs.length,IntKind.i64.wrap (f.path+f.own)=f.path+f.own from fun f hf=>by
  obtain ⟨e,he,h1,h2,h3⟩:=foundK_mem hf;have h4:=HCS.out _ _ h3;have h5:=EO.out e he;have h6:(e.word.size:Int) * 100000≤10 * 100000:=Int.mul_le_mul_of_nonneg_right (by omega) (by decide);exact IntWalk.i64_in _ (by omega))
 have HONE:=Lib.hid (fun ys hp hs=>found_one (foundK_words hl es (N - 1) xs.length (Nat.le_refl _)) HB.out (ys:=ys) hp hs);have CT:=Lib.hid (fun (wr:World) (b:Below w.heap.size w wr) (t:ByteArray) (ht:t.size≤10)=>impl_textCost_c (t:=t) wr (h.below b) hN (by omega) hd);obtain ⟨AE,cE,rfl,-,-,-⟩:=pEdges_open h;obtain ⟨AX,cX,rfl,-,-,-⟩:=pEntrys_open hX;have HXE:=Lib.hid hX;have R0:=(Row.new w 133 #[.int .i64 (N:Nat),.slice AE es.length cE]).alloc (.cells #[.slice AX xs.length cX] 51);have R1:=Row.new (w.alloc (.cells #[.int .i64 (N:Nat),.slice AE es.length cE] 133)) 51 #[.slice AX xs.length cX];have b0:Below w.heap.size w ((w.alloc (.cells #[.int .i64 (N:Nat),.slice AE es.length cE] 133)).alloc (.cells #[.slice AX xs.length cX] 51)):=((Below.refl _ _).alloc (Nat.le_refl _) _).alloc (by simp) _;rw [World.size_alloc] at R1;clear h hX hd hl HB
 go_enter Tryz.func87,Tryz.ntmps87
 go_upto_region 1 with fail
 generalize (w.alloc (.cells #[.int .i64 (N:Nat),.slice AE es.length cE] 133)).alloc (.cells #[.slice AX xs.length cX] 51)=w0 at R0 R1 b0 ⊢;have B0:=Lib.hid b0;have HX:=Lib.hid (fun (w':World) (b:Below w0.heap.size w0 w')=>show w'.cell? ⟨w.heap.size,0,none⟩=some (.int .i64 (N:Nat))∧w'.cell? ⟨w.heap.size,1,none⟩=some (.slice AE es.length cE) from ⟨(R0.later b).c0,(R0.later b).c1⟩);have x0:=R1.c0;clear R0 R1 b0
 go_wp2_with fail
 clear x0
 go_loopw [5,12] (fun l i wr=>∃ (k:Nat) (v:Value) (G:List Nat),l=v∧i=.int .i64 k∧k≤xs.length∧Hid ((pFound.slice 143).rep true wr (foundK xs es (N - 1) k) [v] G∧Fresh w0.heap.size G∧Below w0.heap.size w0 wr)) (fun _ i _=>xs.length - (intOf i).toNat)
 case atStart=>exact ⟨0,_,[],rfl,rfl,by omega,Lib.hid ⟨slice_nil pFound _ _ _,⟨by simp,by simp⟩,Below.refl _ _⟩⟩
 case round =>
  obtain ⟨k,vk,G,rfl,rfl,hk,all⟩:=hrel;have ALL:=Lib.hid all.out;clear all;obtain ⟨Ay,ny,cy,rfl⟩:=slice_form ALL.out.1
  by_cases hlt:k < xs.length
  · have gk:(k:Int) < (xs.length:Int):=by omega
    have gk0:(0:Int)≤(k:Int):=by omega
    have kw:=IntWalk.i64_in ((k:Int)+1) (by omega);have BW:=Lib.hid (B0.out.trans (ALL.out.2.2.mono B0.out.size));obtain ⟨A',c',he,-,-,hr⟩:=pEntrys_open (HXE.out.below BW.out);cases he;obtain ⟨be,oe,rfl,hbe,-,e0,e1,hew,-⟩:=hr k hlt;have heo:=EO.out _ (List.getElem_mem hlt);have HFN:=Lib.hid (foundK_none (xs:=xs) (es:=es) (n:=N - 1) hlt);have HFS:=Lib.hid (fun c=>foundK_some (xs:=xs) (es:=es) (n:=N - 1) hlt (c:=c));have LN:=Lib.hid (foundK_len xs es (N - 1) k);generalize xs[k]=e at e0 e1 heo HFN HFS hew;have RE:=Row.new wr 209 #[.string e.word,.int .i64 e.cost];have b6:Below wr.heap.size wr (wr.alloc (.cells #[.string e.word,.int .i64 e.cost] 209)):=(Below.refl _ _).alloc (Nat.le_refl _) _;have BW6:=Lib.hid (ALL.out.2.2.trans (b6.mono ALL.out.2.2.size));have REP6:=Lib.hid (ALL.out.1.below b6);clear hr
    go_upto_region 5 with fail
    generalize wr.alloc (.cells #[.string e.word,.int .i64 e.cost] 209)=w6 at RE b6 BW6 REP6 ⊢;obtain ⟨x0,x1⟩:=HX.out w6 BW6.out;have f0:=RE.c0;have HRE:=Lib.hid RE;have FR:=Lib.hid ALL.out.2.1;have C6:=Lib.hid (CT.out w6 (B0.out.trans (BW6.out.mono B0.out.size)) e.word heo.1);clear e0 e1 RE b6 ALL hbe
    go_wp2_with fail
    refine C6.out.mono ?_;rintro en w7 ⟨rfl,b7⟩;have BW7:=Lib.hid (BW6.out.trans (b7.mono BW6.out.size));have REP7:=Lib.hid (REP6.out.below b7);have HRE7:=HRE.out.later b7;have f0:=HRE7.c0;have f1:=HRE7.c1;clear x0 x1 C6 b7 REP6 HRE HRE7;cases hlc:lcE es (letterAt e.word) e.word.size (N - 1) with
    | none =>
      have HN1:=Lib.hid (HFN.out hlc);have g6:decide ((1099511627776:Int) < 1099511627776)=false:=rfl;simp only [encH]
      go_wp2_with fail
      exact ⟨⟨k+1,_,G,rfl,by go_num,by omega,Lib.hid ⟨by rw [HN1.out]; exact REP7.out,FR.out,BW7.out⟩⟩,by simp [intOf]; omega⟩
    | some cv =>
      have HN1:=Lib.hid (HFS.out cv hlc);have hcv:=HCS.out e.word cv hlc;have hcv2:(e.word.size:Int) * 100000≤10 * 100000:=Int.mul_le_mul_of_nonneg_right (by omega) (by decide);have g6:decide (cv < 1099511627776)=true:=decide_eq_true (by omega);have OK:=Lib.hid (show e.word.size≤maxLen∧I64 cv∧I64 e.cost from ⟨hew,⟨by omega,by omega⟩,⟨by omega,by omega⟩⟩);simp only [encH]
      go_wp2_with (at_builtin; refine wpList_append_repX (T:=pFound) (e:=143) (ys:=[⟨e.word,cv,e.cost⟩]) (ec:=[.string e.word,.int .i64 cv,.int .i64 e.cost]) rfl (.tmp 22) (.tmp 29) rfl Tryz.underlying137 infoFound rfl (by decide) rfl (REP7.out.alloc _) rfl (flat_repL _ (by intro z hz; simp only [List.mem_singleton] at hz; subst hz; exact OK.out)) (cellsAt_new _ _ _) trivial (by rw [List.append_nil]; exact FR.out.1) (by have:=LN.out; simp only [List.length_singleton,maxLen]; omega) (by have:=LN.out; simp only [List.length_singleton]; omega) ?_; intro v6 w8 F6 r6 o6 f6 x6)
      have hz:=BW7.out.size;have HB6:=(BW7.out.alloc hz (.cells #[.string e.word,.int .i64 cv,.int .i64 e.cost] 143)).trans (o6.below (B:=w0.heap.size) (by simp only [World.size_alloc]; omega) FR.out.2);have f6':=f6 w0.heap.size (by rw [List.append_nil]; exact FR.out) (by simp only [World.size_alloc]; omega);exact ⟨⟨k+1,_,F6,rfl,by go_num,by omega,Lib.hid ⟨by rw [HN1.out]; exact r6,f6',HB6⟩⟩,by simp [intOf]; omega⟩
  · obtain rfl:k=xs.length:=by omega
    have gk:¬ (xs.length:Int) < (xs.length:Int):=by omega
    have CSO:=Lib.hid (sort_Found wr ALL.out.1 (by have:=foundK_len xs es (N - 1) xs.length; omega))
    go_wp2_with fail
    refine CSO.out.mono ?_;rintro en w8 ⟨rfl,ys,hp,hs,ry,oy⟩;have hy:=HONE.out ys hp hs;subst hy;have RY:=Lib.hid ry;have BF:=Lib.hid (B0.out.trans ((ALL.out.2.2.trans (oy.below (B:=w0.heap.size) ALL.out.2.2.size ALL.out.2.1.2)).mono B0.out.size));clear ry oy hp hs CSO
    go_wp2_with fail
    go_ret;exact ⟨_,G,rfl,RY.out,ALL.out.2.1.mono B0.out.size,BF.out⟩
end Go.Proofs.YtalmeogjhmblhaaGreat
namespace Go.Proofs.YtalmeogjhmblhaaGreat
open Go Go.RowKit
set_option maxHeartbeats 8000000
set_option maxRecDepth 100000
theorem impl_copyInk_c {o:Bool} {pe st:TypeId} {xs:List PStroke} {v:Value} {F:List Nat} (w:World) (h:(pStrokes pe st).rep o w xs [v] F) (hx:xs.length≤1000) (hxe:∀ l∈xs,l.length≤1000) :
 Calls Tryz.prog 100 #[.agg #[v]] w fun e w'=>∃ u F,e=.returned (.agg #[u])∧(pStrokes 128 124).rep true w' xs [u] F∧Fresh w.heap.size F∧Below w.heap.size w w':=by
 obtain ⟨A,c,rfl,-,-,-⟩:=pStrokes_open h;have R0:=(Row.new w 59 #[.slice A xs.length c]).alloc (.cells #[.slice none 0 0] 59);have R1:=Row.new (w.alloc (.cells #[.slice A xs.length c] 59)) 59 #[.slice none 0 0];have b0:Below w.heap.size w ((w.alloc (.cells #[.slice A xs.length c] 59)).alloc (.cells #[.slice none 0 0] 59)):=((Below.refl _ _).alloc (Nat.le_refl _) _).alloc (by simp) _;rw [World.size_alloc] at R1;have C1:=Lib.hid (impl_mapInk_c _ (h.below b0) hx hxe);clear h hxe
 go_enter Tryz.func100,Tryz.ntmps100
 go_upto_region 1 with fail
 generalize (w.alloc (.cells #[.slice A xs.length c] 59)).alloc (.cells #[.slice none 0 0] 59)=w0 at R0 R1 b0 C1 ⊢;have x0:=R0.c0;have HR1:=Lib.hid R1;have B0:=Lib.hid b0;clear R0 R1 b0
 go_wp2_with fail
 refine C1.out.mono ?_;rintro e w1 ⟨u,G,rfl,ru,fu,b1⟩;have R1:=HR1.out.later b1;obtain ⟨U,un,uc,rfl⟩:=slice_form ru;have v0:=R1.c0;have vF:=R1.frozen;have e0:=(R1.set 0 (.slice U un uc)).c0;have hne:w.heap.size+1∉G:=fun hin=>by have:=fu.2 _ hin; have:=HR1.out.lt; omega
 have RES:=Lib.hid (Ty.rep.setCell (T:=pStrokes 128 124) ru (p:=⟨w.heap.size+1,0,none⟩) hne (.slice U un uc));have BF:=Lib.hid ((B0.out.trans (b1.mono B0.out.size)).setCell (p:=⟨w.heap.size+1,0,none⟩) (by show w.heap.size≤w.heap.size+1; omega) (.slice U un uc));have FRR:=Lib.hid (fu.mono (show w.heap.size≤w0.heap.size by have:=HR1.out.lt; omega));clear R1 hne ru fu b1 x0
 go_wp2_with fail
 refine bodyPost_ret (v:=.agg #[.slice U un uc]) (by simp only [results,Tryz.results100]; go_simp) rfl ?_;exact ⟨_,G,rfl,RES.out,FRR.out,BF.out⟩
end Go.Proofs.YtalmeogjhmblhaaGreat
namespace Go.Proofs.YtalmeogjhmblhaaGreat
open Go Go.RowKit
set_option maxHeartbeats 8000000
set_option maxRecDepth 100000
theorem search_Bigram_c {o:Bool} {bg:TypeId} {xs:List PBigram} {v:Value} {F:List Nat} (b:PBigram) (w:World) (h:(pBigrams bg).rep o w xs [v] F) (hx:xs.length≤100000) (hs:∀ j m (hm:m < xs.length) (hj:j < m),cLess (bigKey (xs[j]'(by omega))) (bigKey xs[m])=true) :
 Calls Tryz.prog 149 #[v,.agg #[.string b.first,.string b.second,.int .i64 b.cost],.func (.func 150) #[] #[]] w fun e w'=>∃ i f,e=.returned (.tuple #[.int .i64 (i:Nat),.bool f])∧i≤xs.length∧(∀ j (hj:j < xs.length),j < i→cLess (bigKey xs[j]) (bigKey b)=true)∧(∀ j (hj:j < xs.length),i≤j→cLess (bigKey xs[j]) (bigKey b)=false)∧(f=true↔∃ h:i < xs.length,bigKey xs[i]=bigKey b)∧Below w.heap.size w w':=by
 obtain ⟨A,c,rfl,-,-,-⟩:=pBigrams_open h;have R0:=Row.new w 212 #[.string b.first,.string b.second,.int .i64 b.cost];have b0:Below w.heap.size w (w.alloc (.cells #[.string b.first,.string b.second,.int .i64 b.cost] 212)):=(Below.refl _ _).alloc (Nat.le_refl _) _;have CC:=Lib.hid (fun (x:PBigram) w=>impl_compareBigrams_c x b w);have H:=Lib.hid (h.below b0);have HS:=Lib.hid hs;clear h hs
 go_enter Tryz.func149,Tryz.ntmps149
 go_upto_region 1 with fail
 generalize w.alloc (.cells #[.string b.first,.string b.second,.int .i64 b.cost] 212)=w0 at R0 b0 H ⊢;have HR0:=Lib.hid R0;have B0:=Lib.hid b0;clear R0 b0
 go_wp2_with fail
 go_loopw [9,10] (fun i j wr=>∃ (a m:Nat),i=.int .i64 a∧j=.int .i64 m∧a≤m∧m≤xs.length∧Hid ((∀ j (hj:j < xs.length),j < a→cLess (bigKey xs[j]) (bigKey b)=true)∧(∀ j (hj:j < xs.length),m≤j→cLess (bigKey xs[j]) (bigKey b)=false)∧Below w0.heap.size w0 wr)) (fun i j _=>(intOf j).toNat - (intOf i).toNat)
 case atStart=>exact ⟨0,xs.length,rfl,rfl,by omega,by omega,Lib.hid ⟨fun j hj h=>by omega,fun j hj h=>by omega,Below.refl _ _⟩⟩
 case round =>
  obtain ⟨a,m,rfl,rfl,ham,hml,all⟩:=hrel;have ALL:=Lib.hid all.out;clear all
  by_cases hlt:a < m
  · have g1:decide (a < m)=true:=decide_eq_true hlt
    have g2:(a:Int) < (m:Int):=by omega
    have z1:IntKind.i64.wrap ((a:Int)+(m:Int))=((a+m:Nat):Int):=(IntWalk.i64_in _ (by omega)).trans (by omega)
    go_upto_region 5 with fail
    obtain ⟨h,hh⟩:∃ h:Nat,((a:Int)+(m:Int)) / 2=(h:Int):=⟨(a+m) / 2,by omega⟩
    rw [hh];have hah:a≤h:=by omega
    have hhm:h < m:=by omega
    clear hh z1 g1 g2;obtain ⟨A',c',he,-,-,hr⟩:=pBigrams_open (H.out.below ALL.out.2.2);cases he;obtain ⟨gb,ob,rfl,hgb,-,c0,c1,c2,-⟩:=hr h (by omega);have rx:=HR0.out.later ALL.out.2.2;generalize hxk:xs[h]'(by omega)=x at c0 c1 c2;have HXK:=Lib.hid hxk;have gk0:(0:Int)≤(h:Int):=by omega
    have gk1:(h:Int) < (xs.length:Int):=by omega
    have CX:=Lib.hid (fun w=>CC.out x w);have HSX:=Lib.hid (fun (w':World) (b':Below wr.heap.size wr w')=>show (fun w':World=>w'.cell? ⟨w.heap.size,0,none⟩=some (.string b.first)∧w'.cell? ⟨w.heap.size,1,none⟩=some (.string b.second)∧w'.cell? ⟨w.heap.size,2,none⟩=some (.int .i64 b.cost)∧w'.cell? ⟨gb,ob+h * 3,none⟩=some (.string x.first)∧w'.cell? ⟨gb,ob+h * 3+1,none⟩=some (.string x.second)∧w'.cell? ⟨gb,ob+h * 3+2,none⟩=some (.int .i64 x.cost)) w' from ⟨(rx.later b').c0,(rx.later b').c1,(rx.later b').c2,(b'.cell (p:=⟨gb,_,none⟩) hgb).trans c0,(b'.cell (p:=⟨gb,_,none⟩) hgb).trans c1,(b'.cell (p:=⟨gb,_,none⟩) hgb).trans c2⟩);have BR:=Lib.hid ((Below.refl wr.heap.size wr).drew);have hS:=HSX.out _ BR.out;clear hr rx c0 c1 c2 hxk hgb;refine wp_region_held_drew (S:=(fun w':World=>w'.cell? ⟨w.heap.size,0,none⟩=some (.string b.first)∧w'.cell? ⟨w.heap.size,1,none⟩=some (.string b.second)∧w'.cell? ⟨w.heap.size,2,none⟩=some (.int .i64 b.cost)∧w'.cell? ⟨gb,ob+h * 3,none⟩=some (.string x.first)∧w'.cell? ⟨gb,ob+h * 3+1,none⟩=some (.string x.second)∧w'.cell? ⟨gb,ob+h * 3+2,none⟩=some (.int .i64 x.cost))) (by kernel_rfl) hS (fun _=>?_);generalize wr.drew=we at BR hS ⊢;refine tJ 0 hS ?_;refine tJ 1 hS ?_;refine tJ 2 hS ?_;refine tJ 3 hS ?_;refine tJ 4 hS ?_;refine tJ 5 hS ?_;refine rJ 6 fun K hK=>?_
    refine step_callV 150 (.tmp 24) #[.tmp 28,.tmp 29] _ rfl (by go_simp) rfl #[.agg #[.string x.first,.string x.second,.int .i64 x.cost],.agg #[.string b.first,.string b.second,.int .i64 b.cost]] Tryz.call150 (by go_simp) (CX.out we) ?_;rintro e w1 ⟨rfl,g1b⟩;refine ⟨_,rfl,?_⟩;have b1:=g1b.below;replace BR:=Lib.hid (BR.out.trans (b1.mono BR.out.size));replace hS:=HSX.out w1 BR.out;have BF:=Lib.hid (ALL.out.2.2.trans (BR.out.mono ALL.out.2.2.size));clear b1 g1b;refine bJ hK hS ?_;clear hK K;simp only [Act.put,pA,pB,pC];refine tJ 7 hS ?_;refine wpAnyH_done (by kernel_rfl) ?_ _;clear hS HSX BR;have hw1:IntKind.i64.wrap ((h:Int)+1)=((h+1:Nat):Int):=(IntWalk.i64_in _ (by omega)).trans (by omega);have hneg:=cmpC_neg (bigKey x) (bigKey b);generalize cmpC (bigKey x) (bigKey b)=cv at hneg ⊢;cases hc:cLess (bigKey x) (bigKey b) with
    | true =>
      rw [hc] at hneg;have hp:cv < 0:=of_decide_eq_true hneg
      have HAT:=Lib.hid (show ∀ j (hj:j < xs.length),j < h+1→cLess (bigKey xs[j]) (bigKey b)=true from fun j hj hjh=>by
       by_cases e:j=h
       · subst e; rw [HXK.out]; exact hc
       · have h1:=HS.out j h (by omega) (by omega)
         rw [HXK.out] at h1;exact cLess_sto.tr _ _ _ h1 hc)
      go_wp2_with fail
      exact ⟨⟨h+1,m,by go_num,rfl,by omega,by omega,Lib.hid ⟨HAT.out,ALL.out.2.1,BF.out⟩⟩,by simp [intOf]; omega⟩
    | false =>
      rw [hc] at hneg;have hp:¬ cv < 0:=of_decide_eq_false hneg;have hp2:0≤cv:=by omega
      have HAF:=Lib.hid (show ∀ j (hj:j < xs.length),h≤j→cLess (bigKey xs[j]) (bigKey b)=false from fun j hj hjh=>by
       by_cases e:j=h
       · subst e; rw [HXK.out]; exact hc
       · have h1:=HS.out h j hj (by omega)
         rw [HXK.out] at h1;cases h2:cLess (bigKey xs[j]) (bigKey b) with
         | false=>rfl
         | true =>
           rw [cLess_sto.tr _ _ _ h1 h2] at hc;cases hc)
      go_wp2_with fail
      exact ⟨⟨a,h,rfl,rfl,by omega,by omega,Lib.hid ⟨ALL.out.1,HAF.out,BF.out⟩⟩,by simp [intOf]; omega⟩
  · obtain rfl:a=m:=by omega
    have g1:decide (a < a)=false:=decide_eq_false (by omega);have g2:¬ (a:Int) < (a:Int):=by omega
    by_cases hal:a < xs.length
    · have g3:decide (a < xs.length)=true:=decide_eq_true hal
      go_upto_region 8 with fail
      clear g1 g2;obtain ⟨A',c',he,-,-,hr⟩:=pBigrams_open (H.out.below ALL.out.2.2);cases he;obtain ⟨gb,ob,rfl,hgb,-,c0,c1,c2,-⟩:=hr a (by omega);have rx:=HR0.out.later ALL.out.2.2;generalize hxk:xs[a]'(by omega)=x at c0 c1 c2;have HXK:=Lib.hid hxk;have gk0:(0:Int)≤(a:Int):=by omega
      have gk1:(a:Int) < (xs.length:Int):=by omega
      have CX:=Lib.hid (fun w=>CC.out x w);have HSX:=Lib.hid (fun (w':World) (b':Below wr.heap.size wr w')=>show (fun w':World=>w'.cell? ⟨w.heap.size,0,none⟩=some (.string b.first)∧w'.cell? ⟨w.heap.size,1,none⟩=some (.string b.second)∧w'.cell? ⟨w.heap.size,2,none⟩=some (.int .i64 b.cost)∧w'.cell? ⟨gb,ob+a * 3,none⟩=some (.string x.first)∧w'.cell? ⟨gb,ob+a * 3+1,none⟩=some (.string x.second)∧w'.cell? ⟨gb,ob+a * 3+2,none⟩=some (.int .i64 x.cost)) w' from ⟨(rx.later b').c0,(rx.later b').c1,(rx.later b').c2,(b'.cell (p:=⟨gb,_,none⟩) hgb).trans c0,(b'.cell (p:=⟨gb,_,none⟩) hgb).trans c1,(b'.cell (p:=⟨gb,_,none⟩) hgb).trans c2⟩);have BR:=Lib.hid ((Below.refl wr.heap.size wr).drew);have hS:=HSX.out _ BR.out;clear hr rx c0 c1 c2 hxk hgb;refine wp_region_held_drew (S:=(fun w':World=>w'.cell? ⟨w.heap.size,0,none⟩=some (.string b.first)∧w'.cell? ⟨w.heap.size,1,none⟩=some (.string b.second)∧w'.cell? ⟨w.heap.size,2,none⟩=some (.int .i64 b.cost)∧w'.cell? ⟨gb,ob+a * 3,none⟩=some (.string x.first)∧w'.cell? ⟨gb,ob+a * 3+1,none⟩=some (.string x.second)∧w'.cell? ⟨gb,ob+a * 3+2,none⟩=some (.int .i64 x.cost))) (by kernel_rfl) hS (fun _=>?_);generalize wr.drew=we at BR hS ⊢;refine tJ 0 hS ?_;refine tJ 1 hS ?_;refine tJ 2 hS ?_;refine tJ 3 hS ?_;refine tJ 4 hS ?_;refine tJ 5 hS ?_;refine tJ 6 hS ?_;refine tJ 7 hS ?_;refine tJ 8 hS ?_;refine tJ 9 hS ?_;refine tJ 10 hS ?_;refine rJ 11 fun K hK=>?_
      refine step_callV 150 (.tmp 40) #[.tmp 44,.tmp 45] _ rfl (by go_simp) rfl #[.agg #[.string x.first,.string x.second,.int .i64 x.cost],.agg #[.string b.first,.string b.second,.int .i64 b.cost]] Tryz.call150 (by go_simp) (CX.out we) ?_;rintro e w1 ⟨rfl,g1b⟩;refine ⟨_,rfl,?_⟩;have b1:=g1b.below;replace BR:=Lib.hid (BR.out.trans (b1.mono BR.out.size));replace hS:=HSX.out w1 BR.out;have BF:=Lib.hid (ALL.out.2.2.trans (BR.out.mono ALL.out.2.2.size));clear b1 g1b;refine bJ hK hS ?_;clear hK K;simp only [Act.put,pA,pB,pC];refine tJ 12 hS ?_;refine tJ 13 hS ?_;refine tJ 14 hS ?_;refine tJ 15 hS ?_;refine wpAnyH_done (by kernel_rfl) ?_ _;clear hS HSX BR;have HZ:=Lib.hid (cmpC_zero (bigKey x) (bigKey b));generalize cmpC (bigKey x) (bigKey b)=cv at HZ ⊢
      go_wp2_with fail
      refine bodyPost_ret (v:=.tuple #[.int .i64 (a:Nat),.bool (cv == 0)]) (by simp only [results,Tryz.results149]; go_simp) rfl ?_;exact ⟨a,_,rfl,by omega,ALL.out.1,ALL.out.2.1,by rw [beq_iff_eq,HZ.out]; exact ⟨fun h=>⟨hal,by rw [HXK.out]; exact h⟩,fun ⟨_,h⟩=>by rw [← h,HXK.out]⟩,B0.out.trans (BF.out.mono B0.out.size)⟩
    · have g3:decide (a < xs.length)=false:=decide_eq_false hal
      go_upto_region 8 with fail
      have hS:(fun _:World=>True) wr.drew:=trivial;refine wp_region_held_drew (S:=(fun _:World=>True)) (by kernel_rfl) hS (fun _=>?_);refine tJ 0 hS ?_;refine tJ 1 hS ?_;refine tJ 2 hS ?_;refine tJ 3 hS ?_;refine tJ 4 hS ?_;refine tJ0 5 hS ?_;refine tJ0 6 hS ?_;refine tJ0 7 hS ?_;refine tJ0 8 hS ?_;refine tJ0 9 hS ?_;refine tJ0 10 hS ?_;refine tJ0 11 hS ?_;refine tJ0 12 hS ?_;refine tJ 13 hS ?_;refine tJ 14 hS ?_;refine tJ 15 hS ?_;refine wpAnyH_done (by kernel_rfl) ?_ _
      go_wp2_with fail
      refine bodyPost_ret (v:=.tuple #[.int .i64 (a:Nat),.bool false]) (by simp only [results,Tryz.results149]; go_simp) rfl ?_;exact ⟨a,.inl ⟨rfl,by omega,ALL.out.1,ALL.out.2.1,fun h _=>hal h,B0.out.trans (ALL.out.2.2.drew.mono B0.out.size)⟩⟩
end Go.Proofs.YtalmeogjhmblhaaGreat

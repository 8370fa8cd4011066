/- The order of the strokes. Conditions: none. -/
import Derived.Test.YtalmeogjhmblhaaGreatRwXw
import Derived.Test.YtalmeogjhmblhaaGreatRwQw
namespace Go.Proofs.YtalmeogjhmblhaaGreat
open Go Go.RowKit
set_option maxHeartbeats 8000000
set_option maxRecDepth 100000
def natI (l:List Nat):List Int:=l.map fun k:Nat=>(k:Int)
theorem natI_len (l:List Nat):(natI l).length=l.length:=by simp [natI]
theorem natI_snoc (l:List Nat) (k:Nat):natI (l++[k])=natI l++[(k:Int)]:=by simp [natI]
def Homes (w:World) (xs:List PStroke) (AH:Option Addr):Prop:=∀ k,k < xs.length→∃ b off,AH=some ⟨b,off,none⟩∧b < w.heap.size∧w.cell? ⟨b,off+k,none⟩=some (.int .i64 (homeI xs k))
theorem Homes.below {w w':World} {xs:List PStroke} {AH:Option Addr} (h:Homes w xs AH) (hb:Below w.heap.size w w'):Homes w' xs AH:=fun k hk=>by
 obtain ⟨b,off,h1,h2,h3⟩:=h k hk;exact ⟨b,off,h1,Nat.lt_of_lt_of_le h2 hb.size,(hb.cell (p:=⟨b,_,none⟩) h2).trans h3⟩
def homesR (xs:List PStroke) (k:Nat):Nat→Int:=fun x=>if x < k then homeI xs x else 0
theorem homesR_next (xs:List PStroke) (n k:Nat):ints n (fun y=>if y=k then homeI xs k else homesR xs k y)=ints n (homesR xs (k+1)):=by
 apply ints_congr;intro x _;unfold homesR
 by_cases e:x=k
 · subst e; simp
 · rw [if_neg e]
   by_cases h:x < k
   · rw [if_pos h,if_pos (by omega)]
   · rw [if_neg h,if_neg (by omega)]
theorem ordAll_few (xs:List PStroke) (h16:xs.length≤16) (k:Nat) (hk:k≤xs.length):(ordAll xs k).length≤272:=by
 have h1:=ordAll_len xs k;have h2:k * (xs.length+1)≤16 * 17:=Nat.mul_le_mul (by omega) (by omega);omega
theorem ordAll_not {xs:List PStroke} {k:Nat} (h:0≤homeI xs k):ordAll xs (k+1)=ordAll xs k:=by rw [ordAll_succ,if_neg (by omega)]
theorem ordAll_yes {xs:List PStroke} {k:Nat} (h:¬ 0≤homeI xs k):ordAll xs (k+1)=ordAll xs k++[k]++ordRow xs k xs.length:=by rw [ordAll_succ,if_pos (by omega)]
theorem ordRow_zero (xs:List PStroke) (k:Nat):ordRow xs k 0=[]:=rfl
theorem spec_l14Order_c {o:Bool} {pe st:TypeId} {xs:List PStroke} {A:Option Addr} {c gB oB:Nat} {F:List Nat} (w:World) (gl:gB < w.heap.size) (hcell:w.cell? ⟨gB,oB,none⟩=some (.slice A xs.length c)) (h:(pStrokes pe st).rep o w xs [.slice A xs.length c] F) (hs:∀ x∈xs,strokeB x=true) (h16:xs.length≤16) :
 Calls Tryz.prog 175 #[.pointer (some ⟨gB,oB,none⟩)] w (GivesO (nums 2) (natI (orderZ xs)) w):=by
 have CH:=Lib.hid (fun (wr:World) (b:Below w.heap.size w wr) (k:Nat) (hk:k < xs.length)=>spec_l14Home_c wr (Nat.lt_of_lt_of_le gl b.size) ((b.cell (p:=⟨gB,_,none⟩) gl).trans hcell) (h.below b) hs hk h16);have HX:=Lib.hid (fun (w':World) (b:Below w.heap.size w w')=>(b.cell (p:=⟨gB,oB,none⟩) gl).trans hcell);clear h hs hcell
 go_enter Tryz.func175,Tryz.ntmps175
 go_wp2_with fail
 go_loopw [3,4] (fun l i wr=>∃ (k:Nat) (v:Value) (G:List Nat),l=v∧i=.int .i64 k∧k≤xs.length∧Hid ((nums 2).rep true wr ((List.range k).map (homeI xs)) [v] G∧Fresh w.heap.size G∧Below w.heap.size w wr)) (fun _ i _=>xs.length - (intOf i).toNat)
 case atStart=>exact ⟨0,_,[w.heap.size],rfl,rfl,by omega,Lib.hid ⟨slice_of_row (T:=int64) (xs:=[]) (Row.new w _ _) ⟨rfl,rfl⟩ (by simp [maxLen]),⟨by simp,by simp⟩,(Below.refl _ _).alloc (Nat.le_refl _) _⟩⟩
 case round =>
 obtain ⟨k,vk,G,rfl,rfl,hk,all⟩:=hrel;have ALL:=Lib.hid all.out;clear all;obtain ⟨U,un,uc,rfl⟩:=slice_form ALL.out.1;have x0:=HX.out wr ALL.out.2.2
 by_cases hlt:k < xs.length
 · have gk:(k:Int) < (xs.length:Int):=by omega
   have gk0:(0:Int)≤(k:Int):=by omega
   have kw:=IntWalk.i64_in ((k:Int)+1) (by omega);have gl2:=Nat.lt_of_lt_of_le gl ALL.out.2.2.size;have hsm:=homeI_small (xs:=xs) (k:=k)
   go_wp2_with fail
   refine (CH.out wr ALL.out.2.2 k hlt).mono ?_;rintro e w1 ⟨rfl,b1⟩;have REP:=Lib.hid (ALL.out.1.below b1);have FR:=Lib.hid ALL.out.2.1;have BW:=Lib.hid (ALL.out.2.2.trans (b1.mono ALL.out.2.2.size));have LN:=Lib.hid (show ((List.range k).map (homeI xs)).length≤16 by simp; omega);have HN:=Lib.hid (show (List.range (k+1)).map (homeI xs)=(List.range k).map (homeI xs)++[homeI xs k] by simp [List.range_succ]);clear b1 ALL x0;generalize homeI xs k=hv at hsm HN ⊢
   go_wp2_with (at_builtin; refine wpList_append_repX (T:=int64) (e:=2) (ys:=[hv]) (ec:=[.int .i64 hv]) rfl (.tmp 18) (.tmp 22) rfl Tryz.underlying265 infoZ rfl (by decide) rfl (REP.out.alloc _) rfl (repL_nums _ (by intro z hz; simp only [List.mem_singleton] at hz; subst hz; constructor <;> omega)) (cellsAt_new _ _ _) trivial (by rw [List.append_nil]; exact FR.out.1) (by have:=LN.out; simp only [List.length_singleton,maxLen]; omega) (by have:=LN.out; simp only [List.length_singleton]; omega) ?_; intro v6 w6 F6 r6 o6 f6 x6)
   have hz:=BW.out.size;have HB6:=(BW.out.alloc hz (.cells #[.int .i64 hv] 2)).trans (o6.below (B:=w.heap.size) (by simp only [World.size_alloc]; omega) FR.out.2);have f6':=f6 w.heap.size (by rw [List.append_nil]; exact FR.out) (by simp only [World.size_alloc]; omega);exact ⟨⟨k+1,_,F6,rfl,by go_num,by omega,Lib.hid ⟨by rw [HN.out]; exact r6,f6',HB6⟩⟩,by simp [intOf]; omega⟩
 obtain rfl:k=xs.length:=by omega
 have gk:¬ (xs.length:Int) < (xs.length:Int):=by omega
 obtain ⟨wh,hwh⟩:∃ W,W=wr:=⟨_,rfl⟩
 subst hwh;have BH:=Lib.hid ALL.out.2.2;obtain ⟨AH,cH,he,-,-,hrh⟩:=nums_open ALL.out.1;simp only [Value.slice.injEq,List.length_map,List.length_range] at he;obtain ⟨hA1,hA2,hA3⟩:=he;subst hA1;subst hA2;subst hA3
 have HHM:=Lib.hid (show Homes wh xs U from fun k hk=>by
  obtain ⟨b,off,h1,h2,-,h3,-⟩:=hrh k (by simpa using hk);exact ⟨b,off,h1,h2,by simpa using h3⟩)
 clear hrh ALL CH
 go_wp2_with fail
 clear x0 HX
 go_loopw [5,6] (fun l i wr=>∃ (k:Nat) (v:Value) (G:List Nat),l=v∧i=.int .i64 k∧k≤xs.length∧Hid ((nums 2).rep true wr (natI (ordAll xs k)) [v] G∧Fresh wh.heap.size G∧Below wh.heap.size wh wr)) (fun _ i _=>xs.length - (intOf i).toNat)
 case atStart=>exact ⟨0,_,[wh.heap.size],rfl,rfl,by omega,Lib.hid ⟨slice_of_row (T:=int64) (xs:=[]) (Row.new wh _ _) ⟨rfl,rfl⟩ (by simp [maxLen]),⟨by simp,by simp⟩,(Below.refl _ _).alloc (Nat.le_refl _) _⟩⟩
 case round =>
  obtain ⟨k,vk,G,rfl,rfl,hk,all⟩:=hrel;have ALL:=Lib.hid all.out;clear all;obtain ⟨U,un,uc,rfl⟩:=slice_form ALL.out.1
  by_cases hlt:k < xs.length
  · obtain ⟨bh,oh,hAH,hbh,ch⟩:=HHM.out.below ALL.out.2.2 k hlt
    cases hAH
    (try rw [Nat.zero_add] at ch)
    have gk:(k:Int) < (xs.length:Int):=by omega
    have gk0:(0:Int)≤(k:Int):=by omega
    have kw:=IntWalk.i64_in ((k:Int)+1) (by omega)
    by_cases hhm:0≤homeI xs k
    · have e1:decide (0≤homeI xs k)=true:=decide_eq_true hhm
      have HN:=Lib.hid (ordAll_not hhm);clear hhm
      go_wp2_with fail
      exact ⟨⟨k+1,_,G,rfl,by go_num,by omega,Lib.hid ⟨by rw [HN.out]; exact ALL.out.1,ALL.out.2⟩⟩,by simp [intOf]; omega⟩
    · have e1:decide (0≤homeI xs k)=false:=decide_eq_false hhm
      have HN:=Lib.hid (ordAll_yes hhm);have REP:=Lib.hid ALL.out.1;have FR:=Lib.hid ALL.out.2.1;have BW:=Lib.hid ALL.out.2.2;have LN:=Lib.hid (ordAll_few xs h16 k hk);clear hhm ALL
      go_wp2_with (at_builtin; refine wpList_append_repX (T:=int64) (e:=2) (ys:=[(k:Nat)]) (ec:=[.int .i64 (k:Nat)]) rfl (.tmp 36) (.tmp 38) rfl Tryz.underlying265 infoZ rfl (by decide) rfl (REP.out.alloc _) rfl (repL_nums _ (by intro z hz; simp only [List.mem_singleton] at hz; subst hz; constructor <;> omega)) (cellsAt_new _ _ _) trivial (by rw [List.append_nil]; exact FR.out.1) (by have:=LN.out; rw [natI_len]; simp only [List.length_singleton,maxLen]; omega) (by have:=LN.out; rw [natI_len]; simp only [List.length_singleton]; omega) ?_; intro v6 w6 F6 r6 o6 f6 x6)
      have hz:=BW.out.size;have HB6:=Lib.hid ((BW.out.alloc hz (.cells #[.int .i64 (k:Nat)] 2)).trans (o6.below (B:=wh.heap.size) (by simp only [World.size_alloc]; omega) FR.out.2));have f6':=Lib.hid (f6 wh.heap.size (by rw [List.append_nil]; exact FR.out) (by simp only [World.size_alloc]; omega));have R6:=Lib.hid (show (nums 2).rep true w6 (natI (ordAll xs k++[k])) [v6] F6 by rw [natI_snoc]; exact r6);clear r6 o6 f6 x6 ch REP FR BW;obtain ⟨V6,n6,c6,rfl⟩:=slice_form R6.out
      go_wp2_with fail
      go_loopw [5,7] (fun l i wq=>∃ (d:Nat) (v:Value) (G:List Nat),l=v∧i=.int .i64 d∧d≤xs.length∧Hid ((nums 2).rep true wq (natI (ordAll xs k++[k]++ordRow xs k d)) [v] G∧Fresh wh.heap.size G∧Below wh.heap.size wh wq)) (fun _ i _=>xs.length - (intOf i).toNat)
      case atStart=>exact ⟨0,_,F6,rfl,rfl,by omega,Lib.hid ⟨by rw [ordRow_zero,List.append_nil]; exact R6.out,f6'.out,HB6.out⟩⟩
      case round =>
       obtain ⟨d,vd,G2,rfl,rfl,hd,all⟩:=hrel;have ALL:=Lib.hid all.out;clear all;obtain ⟨U2,un2,uc2,rfl⟩:=slice_form ALL.out.1
       by_cases hld:d < xs.length
       · obtain ⟨bh2,oh2,e8,hbh2,ch⟩:=HHM.out.below ALL.out.2.2 d hld
         cases e8
         (try rw [Nat.zero_add] at ch)
         have gd:(d:Int) < (xs.length:Int):=by omega
         have gd0:(0:Int)≤(d:Int):=by omega
         have kd:=IntWalk.i64_in ((d:Int)+1) (by omega)
         by_cases hhd:homeI xs d=(k:Int)
         · have e2:(homeI xs d == (k:Int))=true:=by rw [hhd]; simp
           have HD:=Lib.hid (show ordRow xs k (d+1)=ordRow xs k d++[d] by rw [ordRow_succ,if_pos hhd]);have REP:=Lib.hid ALL.out.1;have FR:=Lib.hid ALL.out.2.1;have BW:=Lib.hid ALL.out.2.2
           have LN2:=Lib.hid (show (ordAll xs k++[k]++ordRow xs k d).length≤400 by
            have h1:=ordAll_few xs h16 k hk;have h2:=ordRow_len xs k d;simp only [List.length_append,List.length_singleton]; omega)
           clear hhd ALL
           go_wp2_with (at_builtin; refine wpList_append_repX (T:=int64) (e:=2) (ys:=[(d:Nat)]) (ec:=[.int .i64 (d:Nat)]) rfl (.tmp 52) (.tmp 54) rfl Tryz.underlying265 infoZ rfl (by decide) rfl (REP.out.alloc _) rfl (repL_nums _ (by intro z hz; simp only [List.mem_singleton] at hz; subst hz; constructor <;> omega)) (cellsAt_new _ _ _) trivial (by rw [List.append_nil]; exact FR.out.1) (by have:=LN2.out; rw [natI_len]; simp only [List.length_singleton,maxLen]; omega) (by have:=LN2.out; rw [natI_len]; simp only [List.length_singleton]; omega) ?_; intro v6 w6 F6 r6 o6 f6 x6)
           have hz:=BW.out.size;have HB7:=(BW.out.alloc hz (.cells #[.int .i64 (d:Nat)] 2)).trans (o6.below (B:=wh.heap.size) (by simp only [World.size_alloc]; omega) FR.out.2);have f7':=f6 wh.heap.size (by rw [List.append_nil]; exact FR.out) (by simp only [World.size_alloc]; omega);exact ⟨⟨d+1,_,_,rfl,by go_num,by omega,Lib.hid ⟨by rw [HD.out,← List.append_assoc,natI_snoc]; exact r6,f7',HB7⟩⟩,by simp [intOf]; omega⟩
         · have e2:(homeI xs d == (k:Int))=false:=beq_false_of_ne hhd
           have HD:=Lib.hid (show ordRow xs k (d+1)=ordRow xs k d by rw [ordRow_succ,if_neg hhd]);clear hhd
           go_wp2_with fail
           exact ⟨⟨d+1,_,G2,rfl,by go_num,by omega,Lib.hid ⟨by rw [HD.out]; exact ALL.out.1,ALL.out.2⟩⟩,by simp [intOf]; omega⟩
       · obtain rfl:d=xs.length:=by omega
         have gd:¬ (xs.length:Int) < (xs.length:Int):=by omega
         go_wp2_with fail
         go_roundw
         case rel=>exact ⟨k+1,_,G2,rfl,by go_num,by omega,Lib.hid ⟨by rw [HN.out]; exact ALL.out.1,ALL.out.2⟩⟩
         case measure=>simp [intOf]; omega
  · obtain rfl:k=xs.length:=by omega
    have gk:¬ (xs.length:Int) < (xs.length:Int):=by omega
    go_wp2_with fail
    go_ret;exact ⟨_,G,rfl,by rw [← ordAll_all]; exact ALL.out.1,ALL.out.2.1.mono BH.out.size,BH.out.trans (ALL.out.2.2.mono BH.out.size)⟩
theorem impl_orderOf_c {o:Bool} {pe st:TypeId} {xs:List PStroke} {v:Value} {F:List Nat} (w:World) (h:(pStrokes pe st).rep o w xs [v] F) (hs:∀ x∈xs,strokeB x=true) (h16:xs.length≤16) :
 Calls Tryz.prog 194 #[.agg #[v]] w (GivesO (nums 2) (natI (orderZ xs)) w):=by
 obtain ⟨A,c,rfl,-,-,-⟩:=pStrokes_open h;have CH:=Lib.hid (fun (wr:World) (b:Below w.heap.size w wr) (k:Nat) (hk:k < xs.length)=>impl_homeOf_c wr (h.below b) hs hk h16);have hmk:=make_run (P:=Tryz.prog) (t:=325) (e:=3) (z:=.int .i64 0) (size:=1) (bytes:=8) Tryz.underlying325 (by kernel_rfl) xs.length (xs.length:Int) rfl (by omega) (by unfold maxLen; omega);have R0:=Row.new w 59 #[.slice A xs.length c];have b0:Below w.heap.size w (w.alloc (.cells #[.slice A xs.length c] 59)):=(Below.refl _ _).alloc (Nat.le_refl _) _;clear h hs
 go_enter Tryz.func194,Tryz.ntmps194
 go_upto_region 1 with fail
 generalize w.alloc (.cells #[.slice A xs.length c] 59)=w0 at R0 b0 ⊢;have HR0:=Lib.hid R0;have B0:=Lib.hid b0;have x0:=R0.c0;have l0:=R0.lt;clear R0 b0;have HX:=Lib.hid (fun (w':World) (b:Below w0.heap.size w0 w')=>(HR0.out.later b).c0)
 have STR:=Lib.hid (show Row (w0.alloc (.cells (madeCells #[Value.int .i64 0] xs.length) 3)) w0.heap.size 3 (ints xs.length (homesR xs 0)) by
  have R:=Row.new w0 3 (madeCells #[Value.int .i64 0] xs.length);have e0:=madeCells_ints xs.length;rw [Nat.mul_one] at e0;rw [e0] at R;rw [ints_congr (g:=fun _=>0) (fun x hx=>by simp [homesR])];exact R)
 have STB:=Lib.hid (show Below w0.heap.size w0 (w0.alloc (.cells (madeCells #[Value.int .i64 0] xs.length) 3)) from (Below.refl _ _).alloc (Nat.le_refl _) _);have x0':=HX.out _ STB.out
 go_wp2_with fail
 clear hmk x0 x0'
 go_loopw [16] (fun i wr=>∃ (k:Nat),i=.int .i64 k∧k≤xs.length∧Hid (Row wr w0.heap.size 3 (ints xs.length (homesR xs k))∧Below w0.heap.size w0 wr)) (fun i _=>xs.length - (intOf i).toNat)
 case atStart=>exact ⟨0,rfl,by omega,Lib.hid ⟨STR.out,STB.out⟩⟩
 case round =>
 obtain ⟨k,rfl,hk,all⟩:=hrel;have ALL:=Lib.hid all.out;clear all;have x0:=HX.out wr ALL.out.2
 by_cases hlt:k < xs.length
 · have gk:(k:Int) < (xs.length:Int):=by omega
   have gk0:(0:Int)≤(k:Int):=by omega
   have kw:=IntWalk.i64_in ((k:Int)+1) (by omega)
   go_wp2_with fail
   refine (CH.out wr (B0.out.trans (ALL.out.2.mono B0.out.size)) k hlt).mono ?_;rintro e w1 ⟨rfl,b1⟩;have RH:=Lib.hid (ALL.out.1.later b1);have BW:=Lib.hid (ALL.out.2.trans (b1.mono ALL.out.2.size));obtain ⟨⟨v0,hv0⟩,hf0⟩:=RH.out.can (i:=k) (by rw [ints_len]; exact hlt);clear b1 ALL x0
   go_wp2_with fail
   have R2:=RH.out.set k (.int .i64 (homeI xs k));rw [ints_set,homesR_next] at R2;exact ⟨⟨k+1,by go_num,by omega,Lib.hid ⟨R2,BW.out.setCell (p:=⟨w0.heap.size,k,none⟩) (Nat.le_refl _) _⟩⟩,by simp [intOf]; omega⟩
 obtain rfl:k=xs.length:=by omega
 have gk:¬ (xs.length:Int) < (xs.length:Int):=by omega
 obtain ⟨wh,hwh⟩:∃ W,W=wr:=⟨_,rfl⟩
 subst hwh;have BH:=Lib.hid (B0.out.trans (ALL.out.2.mono B0.out.size))
 have HHM:=Lib.hid (show Homes wh xs (some ⟨w0.heap.size,0,none⟩) from fun k hk=>⟨_,_,rfl,ALL.out.1.lt,by
  rw [Nat.zero_add,ALL.out.1.cell,ints_get hk,homesR,if_pos hk]⟩)
 have x0:=HX.out wh ALL.out.2;clear ALL CH
 go_wp2_with fail
 clear x0 HX
 go_loopw [5,29] (fun l i wr=>∃ (k:Nat) (v:Value) (G:List Nat),l=v∧i=.int .i64 k∧k≤xs.length∧Hid ((nums 2).rep true wr (natI (ordAll xs k)) [v] G∧Fresh wh.heap.size G∧Below wh.heap.size wh wr)) (fun _ i _=>xs.length - (intOf i).toNat)
 case atStart=>exact ⟨0,_,[],rfl,rfl,by omega,Lib.hid ⟨slice_nil int64 _ _ _,⟨by simp,by simp⟩,Below.refl _ _⟩⟩
 case round =>
  obtain ⟨k,vk,G,rfl,rfl,hk,all⟩:=hrel;have ALL:=Lib.hid all.out;clear all;obtain ⟨U,un,uc,rfl⟩:=slice_form ALL.out.1
  by_cases hlt:k < xs.length
  · obtain ⟨bh,oh,hAH,hbh,ch⟩:=HHM.out.below ALL.out.2.2 k hlt
    cases hAH
    (try rw [Nat.zero_add] at ch)
    have gk:(k:Int) < (xs.length:Int):=by omega
    have gk0:(0:Int)≤(k:Int):=by omega
    have kw:=IntWalk.i64_in ((k:Int)+1) (by omega)
    by_cases hhm:0≤homeI xs k
    · have e1:decide (0≤homeI xs k)=true:=decide_eq_true hhm
      have HN:=Lib.hid (ordAll_not hhm);clear hhm
      go_wp2_with fail
      exact ⟨⟨k+1,_,G,rfl,by go_num,by omega,Lib.hid ⟨by rw [HN.out]; exact ALL.out.1,ALL.out.2⟩⟩,by simp [intOf]; omega⟩
    · have e1:decide (0≤homeI xs k)=false:=decide_eq_false hhm
      have HN:=Lib.hid (ordAll_yes hhm);have REP:=Lib.hid ALL.out.1;have FR:=Lib.hid ALL.out.2.1;have BW:=Lib.hid ALL.out.2.2;have LN:=Lib.hid (ordAll_few xs h16 k hk);clear hhm ALL
      go_wp2_with (at_builtin; refine wpList_append_repX (T:=int64) (e:=2) (ys:=[(k:Nat)]) (ec:=[.int .i64 (k:Nat)]) rfl (.tmp 37) (.tmp 39) rfl Tryz.underlying265 infoZ rfl (by decide) rfl (REP.out.alloc _) rfl (repL_nums _ (by intro z hz; simp only [List.mem_singleton] at hz; subst hz; constructor <;> omega)) (cellsAt_new _ _ _) trivial (by rw [List.append_nil]; exact FR.out.1) (by have:=LN.out; rw [natI_len]; simp only [List.length_singleton,maxLen]; omega) (by have:=LN.out; rw [natI_len]; simp only [List.length_singleton]; omega) ?_; intro v6 w6 F6 r6 o6 f6 x6)
      have hz:=BW.out.size;have HB6:=Lib.hid ((BW.out.alloc hz (.cells #[.int .i64 (k:Nat)] 2)).trans (o6.below (B:=wh.heap.size) (by simp only [World.size_alloc]; omega) FR.out.2));have f6':=Lib.hid (f6 wh.heap.size (by rw [List.append_nil]; exact FR.out) (by simp only [World.size_alloc]; omega));have R6:=Lib.hid (show (nums 2).rep true w6 (natI (ordAll xs k++[k])) [v6] F6 by rw [natI_snoc]; exact r6);clear r6 o6 f6 x6 ch REP FR BW;obtain ⟨V6,n6,c6,rfl⟩:=slice_form R6.out
      go_wp2_with fail
      go_loopw [5,43] (fun l i wq=>∃ (d:Nat) (v:Value) (G:List Nat),l=v∧i=.int .i64 d∧d≤xs.length∧Hid ((nums 2).rep true wq (natI (ordAll xs k++[k]++ordRow xs k d)) [v] G∧Fresh wh.heap.size G∧Below wh.heap.size wh wq)) (fun _ i _=>xs.length - (intOf i).toNat)
      case atStart=>exact ⟨0,_,F6,rfl,rfl,by omega,Lib.hid ⟨by rw [ordRow_zero,List.append_nil]; exact R6.out,f6'.out,HB6.out⟩⟩
      case round =>
       obtain ⟨d,vd,G2,rfl,rfl,hd,all⟩:=hrel;have ALL:=Lib.hid all.out;clear all;obtain ⟨U2,un2,uc2,rfl⟩:=slice_form ALL.out.1
       by_cases hld:d < xs.length
       · obtain ⟨bh2,oh2,e8,hbh2,ch⟩:=HHM.out.below ALL.out.2.2 d hld
         cases e8
         (try rw [Nat.zero_add] at ch)
         have gd:(d:Int) < (xs.length:Int):=by omega
         have gd0:(0:Int)≤(d:Int):=by omega
         have kd:=IntWalk.i64_in ((d:Int)+1) (by omega)
         by_cases hhd:homeI xs d=(k:Int)
         · have e2:(homeI xs d == (k:Int))=true:=by rw [hhd]; simp
           have HD:=Lib.hid (show ordRow xs k (d+1)=ordRow xs k d++[d] by rw [ordRow_succ,if_pos hhd]);have REP:=Lib.hid ALL.out.1;have FR:=Lib.hid ALL.out.2.1;have BW:=Lib.hid ALL.out.2.2
           have LN2:=Lib.hid (show (ordAll xs k++[k]++ordRow xs k d).length≤400 by
            have h1:=ordAll_few xs h16 k hk;have h2:=ordRow_len xs k d;simp only [List.length_append,List.length_singleton]; omega)
           clear hhd ALL
           go_wp2_with (at_builtin; refine wpList_append_repX (T:=int64) (e:=2) (ys:=[(d:Nat)]) (ec:=[.int .i64 (d:Nat)]) rfl (.tmp 51) (.tmp 53) rfl Tryz.underlying265 infoZ rfl (by decide) rfl (REP.out.alloc _) rfl (repL_nums _ (by intro z hz; simp only [List.mem_singleton] at hz; subst hz; constructor <;> omega)) (cellsAt_new _ _ _) trivial (by rw [List.append_nil]; exact FR.out.1) (by have:=LN2.out; rw [natI_len]; simp only [List.length_singleton,maxLen]; omega) (by have:=LN2.out; rw [natI_len]; simp only [List.length_singleton]; omega) ?_; intro v6 w6 F6 r6 o6 f6 x6)
           have hz:=BW.out.size;have HB7:=(BW.out.alloc hz (.cells #[.int .i64 (d:Nat)] 2)).trans (o6.below (B:=wh.heap.size) (by simp only [World.size_alloc]; omega) FR.out.2);have f7':=f6 wh.heap.size (by rw [List.append_nil]; exact FR.out) (by simp only [World.size_alloc]; omega);exact ⟨⟨d+1,_,_,rfl,by go_num,by omega,Lib.hid ⟨by rw [HD.out,← List.append_assoc,natI_snoc]; exact r6,f7',HB7⟩⟩,by simp [intOf]; omega⟩
         · have e2:(homeI xs d == (k:Int))=false:=beq_false_of_ne hhd
           have HD:=Lib.hid (show ordRow xs k (d+1)=ordRow xs k d by rw [ordRow_succ,if_neg hhd]);clear hhd
           go_wp2_with fail
           exact ⟨⟨d+1,_,G2,rfl,by go_num,by omega,Lib.hid ⟨by rw [HD.out]; exact ALL.out.1,ALL.out.2⟩⟩,by simp [intOf]; omega⟩
       · obtain rfl:d=xs.length:=by omega
         have gd:¬ (xs.length:Int) < (xs.length:Int):=by omega
         go_wp2_with fail
         go_roundw
         case rel=>exact ⟨k+1,_,G2,rfl,by go_num,by omega,Lib.hid ⟨by rw [HN.out]; exact ALL.out.1,ALL.out.2⟩⟩
         case measure=>simp [intOf]; omega
  · obtain rfl:k=xs.length:=by omega
    have gk:¬ (xs.length:Int) < (xs.length:Int):=by omega
    go_wp2_with fail
    go_ret;exact ⟨_,G,rfl,by rw [← ordAll_all]; exact ALL.out.1,ALL.out.2.1.mono BH.out.size,BH.out.trans (ALL.out.2.2.mono BH.out.size)⟩
end Go.Proofs.YtalmeogjhmblhaaGreat

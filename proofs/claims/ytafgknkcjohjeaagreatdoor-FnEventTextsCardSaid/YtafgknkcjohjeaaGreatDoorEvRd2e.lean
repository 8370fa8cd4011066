/- ReadEvent of the program. Conditions: the library's variables are laid. -/
import Derived.Test.YtafgknkcjohjeaaGreatDoorTke
import Derived.Deep.Cut
import Derived.Deep.CutRange
import Derived.Test.YtafgknkcjohjeaaGreatDoorShelfStre
namespace Go.Proofs.YtafgknkcjohjeaaGreatDoor
open Go Go.RowKit
theorem infoN:(Tryz.prog.info? 2).map (fun i=>(i.zero,i.size,i.bytes))=some (some (.int .i64 0),int64.size,8):=by kernel_rfl
def kindK (nm:ByteArray):Nat→Int
 | 0=>0
 | k+1=>if nameB ((k+1:Nat):Int)=nm then ((k+1:Nat):Int) else kindK nm k
theorem nameB_eq (k:Int) (nm:ByteArray):(nameB k=nm)↔nm.data.toList=nameL k:=by
 rw [← nameB_list];exact ⟨fun h=>by rw [h],fun h=>(ba_ext h).symm⟩
theorem kindK_four (nm:ByteArray):kindK nm 4=kindL nm.data.toList:=by
 simp only [kindK,nameB_eq];unfold kindL;have d12:¬ nameL 1=nameL 2:=by decide
 have d13:¬ nameL 1=nameL 3:=by decide
 have d14:¬ nameL 1=nameL 4:=by decide
 have d23:¬ nameL 2=nameL 3:=by decide
 have d24:¬ nameL 2=nameL 4:=by decide
 have d34:¬ nameL 3=nameL 4:=by decide
 by_cases h1:nm.data.toList=nameL 1
 · simp [h1,d12,d13,d14]
 · by_cases h2:nm.data.toList=nameL 2
   · simp [h2,d23,d24,Ne.symm d12]
   · by_cases h3:nm.data.toList=nameL 3
     · simp [h3,d34,Ne.symm d13,Ne.symm d23]
     · by_cases h4:nm.data.toList=nameL 4
       · simp [h4,Ne.symm d14,Ne.symm d24,Ne.symm d34]
       · simp [h1,h2,h3,h4]
theorem kindK_le (nm:ByteArray):∀ k:Nat,0≤kindK nm k∧kindK nm k≤k
 | 0=>by simp [kindK]
 | k+1=>by
   have:=kindK_le nm k;rw [kindK]; split <;> constructor <;> omega
def numsW (ws:List ByteArray):List Int:=ws.map fun b=>(rdec b.data.toList).1
theorem four_cellsE {w:World} {g:Nat} {e:TypeId} {c:List Value} (R:Row w g e c) (hc:c.length=4) (a b d f:Value):Row ((((w.setCell ⟨g,0,none⟩ a).setCell ⟨g,1,none⟩ b).setCell ⟨g,2,none⟩ d).setCell ⟨g,3,none⟩ f) g e [a,b,d,f]:=by
 have h:=(((R.set 0 a).set 1 b).set 2 d).set 3 f
 match c,hc with
 | [_,_,_,_],_=>exact h
theorem cell_far {w:World} {g i b o:Nat} {u v:Value} (h:w.cell? ⟨b,o,none⟩=some v) (hne:b≠g):(w.setCell ⟨g,i,none⟩ u).cell? ⟨b,o,none⟩=some v:=by
 rw [World.cell?_setCell_other _ _ _ _ (by intro h; simp only [Addr.mk.injEq] at h; omega)]; exact h
set_option maxRecDepth 100000 in
set_option maxHeartbeats 4000000 in
theorem impl_ReadEvent_c (s:ByteArray) (w:World) (hs:s.size≤1048576) (hE:Env w) :
 Calls Tryz.prog 7 #[.string s] w fun en w'=>en=.returned (.tuple #[(if readOk s=true then .agg #[.int .i64 (implE s.data.toList).kind,.int .i64 (implE s.data.toList).x,.int .i64 (implE s.data.toList).y,.int .i64 (implE s.data.toList).t] else .agg #[.int .i64 0,.int .i64 0,.int .i64 0,.int .i64 0]),.bool (readOk s)])∧Below w.heap.size w w':=by
 obtain ⟨m,hm⟩:=hE.max;have CC:=Lib.hid (fun w' (q:w'.cell? ⟨0,0,none⟩=some (.int .i64 m))=>strings_Cut s ⟨#[32]⟩ m w' (by omega) q);obtain ⟨nm,hnm⟩:∃ t:ByteArray,t=⟨(Lib.cut s.data.toList [32]).1.toArray⟩:=⟨_,rfl⟩
 obtain ⟨rest,hrest⟩:∃ t:ByteArray,t=⟨(Lib.cut s.data.toList [32]).2.1.toArray⟩:=⟨_,rfl⟩
 rw [show (⟨#[32]⟩:ByteArray).data.toList=[32] from rfl,← hnm,← hrest] at CC
 have hrs:rest.size≤s.size:=by
  rw [← ba_size rest,hrest,← ba_size s]
  show (Lib.cut s.data.toList [32]).2.1.length≤_
  unfold Lib.cut
  split
  · simp
  · simp
 have hk0:=kindK_four nm;have hnl:nm.data.toList=(Lib.cut s.data.toList [32]).1:=by rw [hnm]
 have hrl:rest.data.toList=(Lib.cut s.data.toList [32]).2.1:=by rw [hrest]
 rw [hnl] at hk0
 have hI:implE s.data.toList=⟨kindK nm 4,if ((splitL rest.data.toList).map fun w=>(rdec w).1).length=3 then ((splitL rest.data.toList).map fun w=>(rdec w).1).getD 0 0 else 0,if ((splitL rest.data.toList).map fun w=>(rdec w).1).length=3 then ((splitL rest.data.toList).map fun w=>(rdec w).1).getD 1 0 else 0,((splitL rest.data.toList).map fun w=>(rdec w).1).getD (((splitL rest.data.toList).map fun w=>(rdec w).1).length - 1) 0⟩:=by
  rw [hk0,hrl]; rfl
 have hsl:=(splitL_le rest.data.toList).1;have hsc:=(splitL_le rest.data.toList).2;have hs0:=splitL_ne rest.data.toList;rw [ba_size] at hsl hsc;have HI:=Lib.hid hI;generalize (Lib.cut s.data.toList [32]).2.2=found at CC;clear hnm hrest hk0 hnl hrl hI;have hE1:=hE.below ((Below.refl _ _).alloc (Nat.le_refl _) (.cells #[.int .i64 0,.int .i64 0,.int .i64 0,.int .i64 0] 48))
 go_enter Tryz.func7,Tryz.ntmps7
 go_wp2_with fail
 refine (CC.out _ ?_).mono ?_
 · exact ((Below.refl _ _).alloc (Nat.le_refl _) _).cell (Lib.lt_of_cell hm) |>.trans hm
 rintro en w1 ⟨rfl,n,rfl⟩
 go_wp2_with fail
 have R0:=(Row.new w 48 #[.int .i64 0,.int .i64 0,.int .i64 0,.int .i64 0]).drewN n;have b0:Below w.heap.size w ((w.alloc (.cells #[.int .i64 0,.int .i64 0,.int .i64 0,.int .i64 0] 48)).drewN n):=below_drewN ((Below.refl _ _).alloc (Nat.le_refl _) _) n;have hs1:w.heap.size+1≤((w.alloc (.cells #[.int .i64 0,.int .i64 0,.int .i64 0,.int .i64 0] 48)).drewN n).heap.size:=by simp
 have hE1:Env ((w.alloc (.cells #[.int .i64 0,.int .i64 0,.int .i64 0,.int .i64 0] 48)).drewN n):=⟨hE1.tab,hE1.max,hE1.syn,hE1.ran⟩
 refine (impl_wordsOf_c rest _ (by omega) hE1).mono ?_;generalize ((w.alloc (.cells #[.int .i64 0,.int .i64 0,.int .i64 0,.int .i64 0] 48)).drewN n)=wa at R0 b0 hs1 hE1;rintro en w2 ⟨ws,v,rfl,hws,hrep,b2⟩;replace R0:=R0.later b2;replace hE1:=hE1.below b2;replace hs1:=Nat.le_trans hs1 b2.size;replace b0:=b0.trans (b2.mono b0.size);clear b2
 have hwz:∀ b∈ws,b.size≤1048576:=by
  intro b hb;have:=hsl b.data.toList (by rw [← hws]; exact List.mem_map_of_mem hb);rw [ba_size] at this;omega
 have hwn:ws.length≤1048577:=by rw [← hws,List.length_map] at hsc; omega
 have hw0:0 < ws.length:=by
  rcases Nat.eq_zero_or_pos ws.length with h | h
  · rw [List.eq_nil_of_length_eq_zero h] at hws; exact absurd hws.symm hs0
  · exact h
 have hn:(splitL rest.data.toList).map (fun w=>(rdec w).1)=numsW ws:=by rw [← hws,List.map_map]; rfl
 have HI2:=HI.out;rw [hn] at HI2;replace HI:=Lib.hid HI2;clear HI2 hn hws hsl hsc hs0 CC;obtain ⟨A,c,rfl,hc1,hc2,hr⟩:=strs_open hrep;clear hrep;have hlen:(numsW ws).length=ws.length:=by simp [numsW]
 go_wp2_with fail
 go_loopw [7,23] (fun nv iv wr=>∃ (k:Nat) (v:Value) (F:List Nat),k≤ws.length∧iv=.int .i64 k∧v=nv∧(nums 2).rep true wr ((numsW ws).take k) [v] F∧Fresh w2.heap.size F∧Below w2.heap.size w2 wr) (fun _ iv _=>ws.length - (intOf iv).toNat)
 case atStart=>exact ⟨0,_,[],Nat.zero_le _,rfl,rfl,by rw [List.take_zero]; exact slice_nil _ _ _ _,⟨by simp,by simp⟩,Below.refl _ _⟩
 case round =>
  obtain ⟨k,v,F,hk,rfl,rfl,hrep,hfr,hb⟩:=hrel;have hbs:=hb.size
  by_cases hlt:k < ws.length
  · obtain ⟨b,off,rfl,hbb,_,h0,_⟩:=hr k hlt
    rw [← hb.cell (p:=⟨b,_,none⟩) hbb] at h0;have C:=Lib.hid (impl_ReadDecimal_c ws[k] wr (hwz _ (List.getElem_mem hlt)) (hE1.below hb));have hz:I64 (rdec ws[k].data.toList).1:=rdec_ok _
    have hnx:(numsW ws).take (k+1)=(numsW ws).take k++[(rdec ws[k].data.toList).1]:=by
     rw [List.take_succ_eq_append_getElem (by omega)]; simp [numsW]
    have HN:=Lib.hid hnx;have hkl:((numsW ws).take k).length=k:=by rw [List.length_take]; omega
    have HKL:=Lib.hid hkl;generalize (numsW ws).take k=xs at hrep HN HKL hkl hnx;generalize (rdec ws[k].data.toList).1=z at C hz hnx HN;generalize (rdec ws[k].data.toList).2=zb at C;have i1:(k:Int) < (ws.length:Int):=by omega
    have i2:=IntWalk.i64_in ((k:Int)+1) (by omega);have i3:(0:Int)≤(k:Int):=by omega
    have HREP:=Lib.hid hrep;obtain ⟨U,uc,rfl⟩:=slice_len hrep;clear hr hrep hnx hkl
    go_wp2_with fail
    refine C.out.mono ?_;rintro en w3 ⟨rfl,b3⟩
    go_wp2_with (at_builtin; go_loud (refine wpList_append_repX (T:=int64) (e:=2) (ys:=[z]) (ec:=[.int .i64 z]) rfl (.tmp 32) (.tmp 34) rfl Tryz.underlying65 infoN rfl (by decide) rfl ((HREP.out.below b3).alloc _) rfl (repL_nums _ (by intro s hs; simp at hs; subst hs; exact hz)) (cellsAt_new _ _ _) trivial (by rw [List.append_nil]; exact hfr.1) (by have:=HKL.out; rw [this]; simp only [List.length_singleton,maxLen]; omega) (by have:=HKL.out; rw [this]; simp only [List.length_singleton]; omega) ?_); intro v2 w4 F2 r2 o2 q2 x2)
    go_roundw
    case rel =>
     have b4:=hb.trans (b3.mono hbs);refine ⟨k+1,v2,F2,by omega,by go_num,rfl,?_,q2 _ (by rw [List.append_nil]; exact hfr) (by have:=b4.size; simp; omega),(b4.alloc b4.size _).trans (o2.below (by have:=b4.size; simp; omega) (fun b hb=>hfr.2 b hb))⟩;rw [HN.out];exact r2
    case measure=>simp [intOf]; omega
  · obtain rfl:k=ws.length:=by omega
    rw [List.take_of_length_le (by omega)] at hrep;replace R0:=R0.below hb (by omega);replace b0:=b0.trans (hb.mono b0.size);replace hE1:=hE1.below hb;clear hr;obtain ⟨wo,hwo⟩:∃ x,x=wr:=⟨_,rfl⟩
    subst hwo;have HREP:=Lib.hid hrep;have HLEN:=Lib.hid hlen;clear hlen;generalize numsW ws=ns at hrep HREP HLEN HI;obtain ⟨U,uc,rfl⟩:=slice_len hrep;clear hrep;have ho1:w.heap.size < wo.heap.size:=by have:=hb.size; omega
    go_wp2_with fail
    go_loopw [13] (fun kv w3=>∃ k:Nat,k≤4∧kv=.int .i64 (k+1:Nat)∧Row w3 wo.heap.size 48 [.int .i64 (kindK nm k),.int .i64 0,.int .i64 0,.int .i64 0]∧Below wo.heap.size wo w3) (fun kv _=>5 - (intOf kv).toNat)
    case atStart=>exact ⟨0,by omega,rfl,Row.new _ _ _,(Below.refl _ _).alloc (Nat.le_refl _) _⟩
    case round =>
     obtain ⟨k,hk,rfl,R,hb3⟩:=hrel
     by_cases hk4:k < 4
     · have C:=Lib.hid (fun w'=>impl_eventName_c ((k+1:Nat):Int) w' (by omega))
       have hK:kindK nm (k+1)=if nameB ((k+1:Nat):Int)=nm then ((k+1:Nat):Int) else kindK nm k:=rfl
       have HK:=Lib.hid hK;clear hK;generalize nameB ((k+1:Nat):Int)=q at C HK;have g1:(((k+1:Nat):Int)≤4)=True:=eq_true (by omega);have i2:IntKind.i64.wrap (((k+1:Nat):Int)+1)=((k+1+1:Nat):Int):=IntWalk.i64_in _ (by omega)
       by_cases hq:q=nm
       · have tt:(q.toList == nm.toList)=true:=by rw [str_eq]; simp [hq]
         have HK2:=Lib.hid (show kindK nm (k+1)=((k+1:Nat):Int) by rw [HK.out,if_pos hq]);clear HK hq
         go_wp2_with fail
         refine (C.out _).mono ?_;rintro en w4 ⟨rfl,b4⟩;have R4:=R.later b4;have f0:=R4.frozen 0;have c0:=R4.c0
         go_wp2_with fail
         go_roundw
         case rel=>exact ⟨k+1,by omega,by go_num,by rw [HK2.out]; exact R4.set 0 _,(hb3.trans (b4.mono hb3.size)).setCell (Nat.le_refl _) _⟩
         case measure=>simp [intOf]; omega
       · have tt:(q.toList == nm.toList)=false:=by rw [str_eq]; simp [hq]
         have HK2:=Lib.hid (show kindK nm (k+1)=kindK nm k by rw [HK.out,if_neg hq]);clear HK hq
         go_wp2_with fail
         refine (C.out _).mono ?_;rintro en w4 ⟨rfl,b4⟩
         go_wp2_with fail
         go_roundw
         case rel=>exact ⟨k+1,by omega,by go_num,by rw [HK2.out]; exact R.later b4,hb3.trans (b4.mono hb3.size)⟩
         case measure=>simp [intOf]; omega
     · obtain rfl:k=4:=by omega
       have HN3:=HREP.out;have hnk:=kindK_le nm 4;have HIE:=HI.out;have hE3:=hE1.below hb3;have hb0:=b0.trans (hb3.mono b0.size);have R0:=R0.below hb3 ho1;have hlen:=HLEN.out;obtain ⟨nz,hnz⟩:∃ n,n=ws.length:=⟨_,rfl⟩
       clear HREP HI HLEN hE1 b0 hk hk4 hb hbs;generalize kindK nm 4=kd at R hnk HIE;obtain ⟨A',c',hv,_,_,hr⟩:=nums_open HN3;injection hv with hv1 _ hv2
       subst hv1 hv2
       by_cases h3:ns.length=3
       · obtain ⟨x0,x1,x2,rfl⟩:∃ a b d,ns=[a,b,d]:=by
          match ns,h3 with
          | [a,b,d],_=>exact ⟨a,b,d,rfl⟩
         obtain ⟨b,off,rfl,hbb,hbF,q0,j0⟩:=hr 0 (by simp);obtain ⟨b1,off1,hA1,_,_,q1,j1⟩:=hr 1 (by simp);obtain ⟨b2,off2,hA2,_,_,q2,j2⟩:=hr 2 (by simp);cases hA1;cases hA2;have hne:b≠wo.heap.size:=by omega
         rw [← hb3.cell (p:=⟨b,_,none⟩) hbb] at q0 q1 q2;simp only [List.getElem_cons_zero,List.getElem_cons_succ,Nat.add_zero] at q0 q1 q2 j0 j1 j2;clear hr;have c1:=R.c1;have c2:=R.c2;have f1:=R.frozen 1;have f2:=R.frozen 2;have hl3:(ws.length:Int)=3:=by rw [← hlen]; rfl
         clear hnz HN3;have hR:implE s.data.toList=⟨kd,x0,x1,x2⟩:=by rw [HIE]; rfl
         clear HIE hlen
         go_wp2_with fail
         have hS:(fun w':World=>w'.cell? ⟨b,off,none⟩=some (.int .i64 x0)∧w'.cell? ⟨b,off+1,none⟩=some (.int .i64 x1)) wr.drew:=⟨q0,q1⟩
         dsimp only at hS;refine wp_region_held_drew (S:=(fun w':World=>w'.cell? ⟨b,off,none⟩=some (.int .i64 x0)∧w'.cell? ⟨b,off+1,none⟩=some (.int .i64 x1))) (by kernel_rfl) hS (fun _=>?_);refine tJ 0 hS ?_;refine tJ 1 hS ?_;refine tJ 2 hS ?_;refine tJ 3 hS ?_;refine tJ 4 hS ?_;refine tJ 5 hS ?_;refine tJ 6 hS ?_;refine rJ 7 fun K hK=>?_
         go_simp
         refine hK.out _ _ ?_ (fun hHeld=>?_)
         · exact ⟨cell_far q0 hne,cell_far q1 hne⟩
         clear hK K hHeld;replace hS:(fun w':World=>w'.cell? ⟨b,off,none⟩=some (.int .i64 x0)∧w'.cell? ⟨b,off+1,none⟩=some (.int .i64 x1)) (wr.setCell ⟨wo.heap.size,1,none⟩ (.int .i64 x0)).drew:=⟨cell_far q0 hne,cell_far q1 hne⟩
         dsimp only at hS;refine tJ 8 hS ?_;refine rJ 9 fun K hK=>?_
         go_simp
         refine hK.out _ _ ?_ (fun hHeld=>?_)
         · exact ⟨cell_far (cell_far q0 hne) hne,cell_far (cell_far q1 hne) hne⟩
         clear hK K hHeld hS;refine wpAnyH_done (by kernel_rfl) ?_ _;replace R:=((R.set 1 (.int .i64 x0)).set 2 (.int .i64 x1)).drew;simp only [List.set_cons_zero,List.set_cons_succ] at R;replace R0:=((R0.far (p:=⟨wo.heap.size,1,none⟩) (by show w.heap.size≠wo.heap.size; omega) (.int .i64 x0)).far (p:=⟨wo.heap.size,2,none⟩) (by show w.heap.size≠wo.heap.size; omega) (.int .i64 x1)).drew;replace hb0:=((hb0.setCell (p:=⟨wo.heap.size,1,none⟩) (by show _≤wo.heap.size; omega) (.int .i64 x0)).setCell (p:=⟨wo.heap.size,2,none⟩) (by show _≤wo.heap.size; omega) (.int .i64 x1)).drew;have hgE:w.heap.size≤wo.heap.size:=by omega
         replace hE3:=hE.below hb0;replace q2:=cell_far (cell_far q2 hne (i:=1) (u:=.int .i64 x0)) hne (i:=2) (u:=.int .i64 x1);replace q2:(((wr.setCell ⟨wo.heap.size,1,none⟩ (.int .i64 x0)).setCell ⟨wo.heap.size,2,none⟩ (.int .i64 x1)).drew).cell? ⟨b,off+2,none⟩=some (.int .i64 x2):=q2;clear q0 q1 c1 c2 f1 f2 hl3;generalize ((wr.setCell ⟨wo.heap.size,1,none⟩ (.int .i64 x0)).setCell ⟨wo.heap.size,2,none⟩ (.int .i64 x1)).drew=wz at R R0 hb0 hE3 q2 ⊢;have ct:=R.c3;have ft:=R.frozen 3
         go_upto_region 18 with fail
         have R4:=R.set 3 (.int .i64 x2);simp only [List.set_cons_zero,List.set_cons_succ] at R4;have R5:=R0.far (p:=⟨wo.heap.size,3,none⟩) (by show w.heap.size≠wo.heap.size; omega) (.int .i64 x2);have b5:=hb0.setCell (p:=⟨wo.heap.size,3,none⟩) (by show _≤wo.heap.size; omega) (.int .i64 x2);have hE5:=hE.below b5;clear ct ft q2 R R0 hb0 hE3;generalize wz.setCell ⟨wo.heap.size,3,none⟩ (.int .i64 x2)=wv at R4 R5 b5 hE5 ⊢;have r0:=R4.c0;have r1:=R4.c1;have r2:=R4.c2;have r3:=R4.c3;have hro:readOk s=(possB ⟨kd,x0,x1,x2⟩ && decide (evText ⟨kd,x0,x1,x2⟩=s)):=by rw [readOk,hR]
         have CP:=Lib.hid (fun w'=>impl_possible_c ⟨kd,x0,x1,x2⟩ w');have CT:=Lib.hid (fun w' (q:Tab w')=>impl_EventText_c ⟨kd,x0,x1,x2⟩ w' q);generalize evText ⟨kd,x0,x1,x2⟩=tx at CT hro;have HR:=Lib.hid hR;clear hR
         by_cases hp:possB ⟨kd,x0,x1,x2⟩=true
         · rw [hp] at CP hro
           clear hp
           go_wp2_with fail
           refine (CP.out _).mono ?_;rintro en w6 ⟨rfl,rfl⟩;have b6:Below wv.heap.size wv (wv.alloc (.cells #[.int .i64 kd,.int .i64 x0,.int .i64 x1,.int .i64 x2] 48)):=(Below.refl _ _).alloc (Nat.le_refl _) _;replace R4:=R4.later b6;replace R5:=R5.later b6;replace b5:=b5.trans (b6.mono b5.size);replace hE5:=hE5.below b6;clear r0 r1 r2 r3 b6;generalize wv.alloc (.cells #[.int .i64 kd,.int .i64 x0,.int .i64 x1,.int .i64 x2] 48)=w7 at R4 R5 b5 hE5 ⊢;have r0:=R4.c0;have r1:=R4.c1;have r2:=R4.c2;have r3:=R4.c3
           by_cases hq:tx=s
           · have tt:(!tx.toList == s.toList)=false:=by rw [str_eq]; simp [hq]
             have HRO:=Lib.hid (show readOk s=true by rw [hro]; simp [hq]);clear hro hq
             go_wp2_with fail
             refine (CT.out _ hE5.tab).mono ?_;rintro en w8 ⟨rfl,b8⟩;replace R4:=R4.later b8;replace R5:=R5.later b8;replace b5:=b5.trans (b8.mono b5.size);clear r0 r1 r2 r3 b8 hE5 CT CP;have r0:=R4.c0;have r1:=R4.c1;have r2:=R4.c2;have r3:=R4.c3;have s0:=R5.c0;have s1:=R5.c1;have s2:=R5.c2;have s3:=R5.c3;have f0:=R5.frozen 0;have f1:=R5.frozen 1;have f2:=R5.frozen 2;have f3:=R5.frozen 3
             go_wp2_with fail
             all_goals
              have R9:=four_cellsE R5 rfl (.int .i64 kd) (.int .i64 x0) (.int .i64 x1) (.int .i64 x2);have b9:=(((b5.setCell (p:=⟨w.heap.size,0,none⟩) (Nat.le_refl _) (.int .i64 kd)).setCell (p:=⟨w.heap.size,1,none⟩) (Nat.le_refl _) (.int .i64 x0)).setCell (p:=⟨w.heap.size,2,none⟩) (Nat.le_refl _) (.int .i64 x1)).setCell (p:=⟨w.heap.size,3,none⟩) (Nat.le_refl _) (.int .i64 x2);clear s0 s1 s2 s3 f0 f1 f2 f3;generalize (((w8.setCell ⟨w.heap.size,0,none⟩ (.int .i64 kd)).setCell ⟨w.heap.size,1,none⟩ (.int .i64 x0)).setCell ⟨w.heap.size,2,none⟩ (.int .i64 x1)).setCell ⟨w.heap.size,3,none⟩ (.int .i64 x2)=w9 at R9 b9 ⊢;have z0:=R9.c0;have z1:=R9.c1;have z2:=R9.c2;have z3:=R9.c3;refine bodyPost_ret (v:=.tuple #[.agg #[.int .i64 kd,.int .i64 x0,.int .i64 x1,.int .i64 x2],.bool true]) (by simp [results,Tryz.results7,go_sem,z0,z1,z2,z3]) rfl ?_;refine ⟨?_,b9⟩
              first | rfl | simp [HR.out]
           · have tt:(!tx.toList == s.toList)=true:=by rw [str_eq]; simp [hq]
             have HRO:=Lib.hid (show readOk s=false by rw [hro]; simp [hq]);clear hro hq
             go_wp2_with fail
             refine (CT.out _ hE5.tab).mono ?_;rintro en w8 ⟨rfl,b8⟩;replace R5:=R5.later b8;replace b5:=b5.trans (b8.mono b5.size);clear r0 r1 r2 r3 b8 hE5 CT CP;have s0:=R5.c0;have s1:=R5.c1;have s2:=R5.c2;have s3:=R5.c3;have f0:=R5.frozen 0;have f1:=R5.frozen 1;have f2:=R5.frozen 2;have f3:=R5.frozen 3
             go_wp2_with fail
             all_goals
              have R9:=four_cellsE R5 rfl (.int .i64 0) (.int .i64 0) (.int .i64 0) (.int .i64 0);have b9:=(((b5.setCell (p:=⟨w.heap.size,0,none⟩) (Nat.le_refl _) (.int .i64 0)).setCell (p:=⟨w.heap.size,1,none⟩) (Nat.le_refl _) (.int .i64 0)).setCell (p:=⟨w.heap.size,2,none⟩) (Nat.le_refl _) (.int .i64 0)).setCell (p:=⟨w.heap.size,3,none⟩) (Nat.le_refl _) (.int .i64 0);clear s0 s1 s2 s3 f0 f1 f2 f3;generalize (((w8.setCell ⟨w.heap.size,0,none⟩ (.int .i64 0)).setCell ⟨w.heap.size,1,none⟩ (.int .i64 0)).setCell ⟨w.heap.size,2,none⟩ (.int .i64 0)).setCell ⟨w.heap.size,3,none⟩ (.int .i64 0)=w9 at R9 b9 ⊢;have z0:=R9.c0;have z1:=R9.c1;have z2:=R9.c2;have z3:=R9.c3;refine bodyPost_ret (v:=.tuple #[.agg #[.int .i64 0,.int .i64 0,.int .i64 0,.int .i64 0],.bool false]) (by simp [results,Tryz.results7,go_sem,z0,z1,z2,z3]) rfl ?_;refine ⟨?_,b9⟩
              first | rfl | (have hy:¬ readOk s=true:=(by rw [HRO.out]; simp); contradiction) | simp [HRO.out,HR.out]
         · rw [Bool.not_eq_true] at hp
           rw [hp] at CP hro;have HRO:=Lib.hid (show readOk s=false by rw [hro]; rfl);clear hro hp
           go_wp2_with fail
           refine (CP.out _).mono ?_;rintro en w6 ⟨rfl,rfl⟩;have b6:Below wv.heap.size wv (wv.alloc (.cells #[.int .i64 kd,.int .i64 x0,.int .i64 x1,.int .i64 x2] 48)):=(Below.refl _ _).alloc (Nat.le_refl _) _;replace R5:=R5.later b6;replace b5:=b5.trans (b6.mono b5.size);clear r0 r1 r2 r3 b6 CT CP;generalize wv.alloc (.cells #[.int .i64 kd,.int .i64 x0,.int .i64 x1,.int .i64 x2] 48)=w8 at R5 b5 ⊢;have s0:=R5.c0;have s1:=R5.c1;have s2:=R5.c2;have s3:=R5.c3;have f0:=R5.frozen 0;have f1:=R5.frozen 1;have f2:=R5.frozen 2;have f3:=R5.frozen 3
           go_wp2_with fail
           all_goals
            have R9:=four_cellsE R5 rfl (.int .i64 0) (.int .i64 0) (.int .i64 0) (.int .i64 0);have b9:=(((b5.setCell (p:=⟨w.heap.size,0,none⟩) (Nat.le_refl _) (.int .i64 0)).setCell (p:=⟨w.heap.size,1,none⟩) (Nat.le_refl _) (.int .i64 0)).setCell (p:=⟨w.heap.size,2,none⟩) (Nat.le_refl _) (.int .i64 0)).setCell (p:=⟨w.heap.size,3,none⟩) (Nat.le_refl _) (.int .i64 0);clear s0 s1 s2 s3 f0 f1 f2 f3;generalize (((w8.setCell ⟨w.heap.size,0,none⟩ (.int .i64 0)).setCell ⟨w.heap.size,1,none⟩ (.int .i64 0)).setCell ⟨w.heap.size,2,none⟩ (.int .i64 0)).setCell ⟨w.heap.size,3,none⟩ (.int .i64 0)=w9 at R9 b9 ⊢;have z0:=R9.c0;have z1:=R9.c1;have z2:=R9.c2;have z3:=R9.c3;refine bodyPost_ret (v:=.tuple #[.agg #[.int .i64 0,.int .i64 0,.int .i64 0,.int .i64 0],.bool false]) (by simp [results,Tryz.results7,go_sem,z0,z1,z2,z3]) rfl ?_;refine ⟨?_,b9⟩
            first | rfl | (have hy:¬ readOk s=true:=(by rw [HRO.out]; simp); contradiction) | simp [HRO.out,HR.out]
       · have hl3:((ws.length:Int) == 3)=false:=by rw [beq_eq_false_iff_ne]; omega
         have hl4:((ns.length:Int) == 3)=false:=by rw [beq_eq_false_iff_ne]; omega
         obtain ⟨lz,hlz⟩:∃ l,ws.length=l+1:=⟨ws.length - 1,by omega⟩
         have hlt:lz < ns.length:=by omega
         obtain ⟨b,off,rfl,hbb,hbF,q2,j2⟩:=hr lz hlt;have hne:b≠wo.heap.size:=by omega
         rw [← hb3.cell (p:=⟨b,_,none⟩) hbb] at q2
         have hR:implE s.data.toList=⟨kd,0,0,ns[lz]⟩:=by
          rw [HIE,if_neg h3,if_neg h3,show ns.length - 1=lz by omega,List.getD_eq_getElem?_getD,List.getElem?_eq_getElem hlt]; rfl
         generalize ns[lz]=x2 at q2 j2 hR;have i1:IntKind.i64.wrap ((ns.length:Int) - 1)=(lz:Int):=by rw [show (ns.length:Int) - 1=(lz:Int) by omega]; exact IntWalk.i64_in _ (by omega)
         have i2:(0:Int)≤(lz:Int):=by omega
         have i3:(lz:Int) < (ns.length:Int):=by omega
         have hb0:=hb0;generalize wr=wz at R R0 hb0 hE3 q2 ⊢;clear hr HIE hlen hnz hlz h3 HN3;have ct:=R.c3;have ft:=R.frozen 3
         go_upto_region 18 with fail
         have R4:=R.set 3 (.int .i64 x2);simp only [List.set_cons_zero,List.set_cons_succ] at R4;have R5:=R0.far (p:=⟨wo.heap.size,3,none⟩) (by show w.heap.size≠wo.heap.size; omega) (.int .i64 x2);have b5:=hb0.setCell (p:=⟨wo.heap.size,3,none⟩) (by show _≤wo.heap.size; omega) (.int .i64 x2);have hE5:=hE.below b5;clear ct ft q2 R R0 hb0 hE3;generalize wz.setCell ⟨wo.heap.size,3,none⟩ (.int .i64 x2)=wv at R4 R5 b5 hE5 ⊢;have r0:=R4.c0;have r1:=R4.c1;have r2:=R4.c2;have r3:=R4.c3;have hro:readOk s=(possB ⟨kd,0,0,x2⟩ && decide (evText ⟨kd,0,0,x2⟩=s)):=by rw [readOk,hR]
         have CP:=Lib.hid (fun w'=>impl_possible_c ⟨kd,0,0,x2⟩ w');have CT:=Lib.hid (fun w' (q:Tab w')=>impl_EventText_c ⟨kd,0,0,x2⟩ w' q);generalize evText ⟨kd,0,0,x2⟩=tx at CT hro;have HR:=Lib.hid hR;clear hR
         by_cases hp:possB ⟨kd,0,0,x2⟩=true
         · rw [hp] at CP hro
           clear hp
           go_wp2_with fail
           refine (CP.out _).mono ?_;rintro en w6 ⟨rfl,rfl⟩;have b6:Below wv.heap.size wv (wv.alloc (.cells #[.int .i64 kd,.int .i64 0,.int .i64 0,.int .i64 x2] 48)):=(Below.refl _ _).alloc (Nat.le_refl _) _;replace R4:=R4.later b6;replace R5:=R5.later b6;replace b5:=b5.trans (b6.mono b5.size);replace hE5:=hE5.below b6;clear r0 r1 r2 r3 b6;generalize wv.alloc (.cells #[.int .i64 kd,.int .i64 0,.int .i64 0,.int .i64 x2] 48)=w7 at R4 R5 b5 hE5 ⊢;have r0:=R4.c0;have r1:=R4.c1;have r2:=R4.c2;have r3:=R4.c3
           by_cases hq:tx=s
           · have tt:(!tx.toList == s.toList)=false:=by rw [str_eq]; simp [hq]
             have HRO:=Lib.hid (show readOk s=true by rw [hro]; simp [hq]);clear hro hq
             go_wp2_with fail
             refine (CT.out _ hE5.tab).mono ?_;rintro en w8 ⟨rfl,b8⟩;replace R4:=R4.later b8;replace R5:=R5.later b8;replace b5:=b5.trans (b8.mono b5.size);clear r0 r1 r2 r3 b8 hE5 CT CP;have r0:=R4.c0;have r1:=R4.c1;have r2:=R4.c2;have r3:=R4.c3;have s0:=R5.c0;have s1:=R5.c1;have s2:=R5.c2;have s3:=R5.c3;have f0:=R5.frozen 0;have f1:=R5.frozen 1;have f2:=R5.frozen 2;have f3:=R5.frozen 3
             go_wp2_with fail
             all_goals
              have R9:=four_cellsE R5 rfl (.int .i64 kd) (.int .i64 0) (.int .i64 0) (.int .i64 x2);have b9:=(((b5.setCell (p:=⟨w.heap.size,0,none⟩) (Nat.le_refl _) (.int .i64 kd)).setCell (p:=⟨w.heap.size,1,none⟩) (Nat.le_refl _) (.int .i64 0)).setCell (p:=⟨w.heap.size,2,none⟩) (Nat.le_refl _) (.int .i64 0)).setCell (p:=⟨w.heap.size,3,none⟩) (Nat.le_refl _) (.int .i64 x2);clear s0 s1 s2 s3 f0 f1 f2 f3;generalize (((w8.setCell ⟨w.heap.size,0,none⟩ (.int .i64 kd)).setCell ⟨w.heap.size,1,none⟩ (.int .i64 0)).setCell ⟨w.heap.size,2,none⟩ (.int .i64 0)).setCell ⟨w.heap.size,3,none⟩ (.int .i64 x2)=w9 at R9 b9 ⊢;have z0:=R9.c0;have z1:=R9.c1;have z2:=R9.c2;have z3:=R9.c3;refine bodyPost_ret (v:=.tuple #[.agg #[.int .i64 kd,.int .i64 0,.int .i64 0,.int .i64 x2],.bool true]) (by simp [results,Tryz.results7,go_sem,z0,z1,z2,z3]) rfl ?_;refine ⟨?_,b9⟩
              first | rfl | simp [HR.out]
           · have tt:(!tx.toList == s.toList)=true:=by rw [str_eq]; simp [hq]
             have HRO:=Lib.hid (show readOk s=false by rw [hro]; simp [hq]);clear hro hq
             go_wp2_with fail
             refine (CT.out _ hE5.tab).mono ?_;rintro en w8 ⟨rfl,b8⟩;replace R5:=R5.later b8;replace b5:=b5.trans (b8.mono b5.size);clear r0 r1 r2 r3 b8 hE5 CT CP;have s0:=R5.c0;have s1:=R5.c1;have s2:=R5.c2;have s3:=R5.c3;have f0:=R5.frozen 0;have f1:=R5.frozen 1;have f2:=R5.frozen 2;have f3:=R5.frozen 3
             go_wp2_with fail
             all_goals
              have R9:=four_cellsE R5 rfl (.int .i64 0) (.int .i64 0) (.int .i64 0) (.int .i64 0);have b9:=(((b5.setCell (p:=⟨w.heap.size,0,none⟩) (Nat.le_refl _) (.int .i64 0)).setCell (p:=⟨w.heap.size,1,none⟩) (Nat.le_refl _) (.int .i64 0)).setCell (p:=⟨w.heap.size,2,none⟩) (Nat.le_refl _) (.int .i64 0)).setCell (p:=⟨w.heap.size,3,none⟩) (Nat.le_refl _) (.int .i64 0);clear s0 s1 s2 s3 f0 f1 f2 f3;generalize (((w8.setCell ⟨w.heap.size,0,none⟩ (.int .i64 0)).setCell ⟨w.heap.size,1,none⟩ (.int .i64 0)).setCell ⟨w.heap.size,2,none⟩ (.int .i64 0)).setCell ⟨w.heap.size,3,none⟩ (.int .i64 0)=w9 at R9 b9 ⊢;have z0:=R9.c0;have z1:=R9.c1;have z2:=R9.c2;have z3:=R9.c3;refine bodyPost_ret (v:=.tuple #[.agg #[.int .i64 0,.int .i64 0,.int .i64 0,.int .i64 0],.bool false]) (by simp [results,Tryz.results7,go_sem,z0,z1,z2,z3]) rfl ?_;refine ⟨?_,b9⟩
              first | rfl | (have hy:¬ readOk s=true:=(by rw [HRO.out]; simp); contradiction) | simp [HRO.out,HR.out]
         · rw [Bool.not_eq_true] at hp
           rw [hp] at CP hro;have HRO:=Lib.hid (show readOk s=false by rw [hro]; rfl);clear hro hp
           go_wp2_with fail
           refine (CP.out _).mono ?_;rintro en w6 ⟨rfl,rfl⟩;have b6:Below wv.heap.size wv (wv.alloc (.cells #[.int .i64 kd,.int .i64 0,.int .i64 0,.int .i64 x2] 48)):=(Below.refl _ _).alloc (Nat.le_refl _) _;replace R5:=R5.later b6;replace b5:=b5.trans (b6.mono b5.size);clear r0 r1 r2 r3 b6 CT CP;generalize wv.alloc (.cells #[.int .i64 kd,.int .i64 0,.int .i64 0,.int .i64 x2] 48)=w8 at R5 b5 ⊢;have s0:=R5.c0;have s1:=R5.c1;have s2:=R5.c2;have s3:=R5.c3;have f0:=R5.frozen 0;have f1:=R5.frozen 1;have f2:=R5.frozen 2;have f3:=R5.frozen 3
           go_wp2_with fail
           all_goals
            have R9:=four_cellsE R5 rfl (.int .i64 0) (.int .i64 0) (.int .i64 0) (.int .i64 0);have b9:=(((b5.setCell (p:=⟨w.heap.size,0,none⟩) (Nat.le_refl _) (.int .i64 0)).setCell (p:=⟨w.heap.size,1,none⟩) (Nat.le_refl _) (.int .i64 0)).setCell (p:=⟨w.heap.size,2,none⟩) (Nat.le_refl _) (.int .i64 0)).setCell (p:=⟨w.heap.size,3,none⟩) (Nat.le_refl _) (.int .i64 0);clear s0 s1 s2 s3 f0 f1 f2 f3;generalize (((w8.setCell ⟨w.heap.size,0,none⟩ (.int .i64 0)).setCell ⟨w.heap.size,1,none⟩ (.int .i64 0)).setCell ⟨w.heap.size,2,none⟩ (.int .i64 0)).setCell ⟨w.heap.size,3,none⟩ (.int .i64 0)=w9 at R9 b9 ⊢;have z0:=R9.c0;have z1:=R9.c1;have z2:=R9.c2;have z3:=R9.c3;refine bodyPost_ret (v:=.tuple #[.agg #[.int .i64 0,.int .i64 0,.int .i64 0,.int .i64 0],.bool false]) (by simp [results,Tryz.results7,go_sem,z0,z1,z2,z3]) rfl ?_;refine ⟨?_,b9⟩
            first | rfl | (have hy:¬ readOk s=true:=(by rw [HRO.out]; simp); contradiction) | simp [HRO.out,HR.out]
end Go.Proofs.YtafgknkcjohjeaaGreatDoor

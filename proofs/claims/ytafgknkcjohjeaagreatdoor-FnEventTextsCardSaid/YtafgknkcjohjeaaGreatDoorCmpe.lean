/- The comparison of confusions: cmp.Compare, cmp.Or and the program's closure. Conditions: none. -/
import Derived.Test.YtafgknkcjohjeaaGreatDoorTyFeate
import Derived.Test.YtafgknkcjohjeaaGreatDoorStrSe
import Derived.Test.YtafgknkcjohjeaaGreatDoorSlOpse
import Derived.Test.YtafgknkcjohjeaaGreatDoorRowe
import Derived.Laws.Cover1
import Derived.Sort.Grow
import Derived.Test.YtafgknkcjohjeaaGreatDoorRows
import Derived.Test.YtafgknkcjohjeaaGreatDoorTke
import Derived.Test.YtafgknkcjohjeaaGreatDoorInkGe
import Derived.Laws.IdiomStrings
import Derived.Test.YtafgknkcjohjeaaGreatDoorEtCe
import Derived.Laws.BitsLemmas
import Derived.Test.YtafgknkcjohjeaaGreatDoorRcWordse
namespace Go.Proofs.YtafgknkcjohjeaaGreatDoor
open Go Go.RowKit
set_option maxHeartbeats 8000000
set_option maxRecDepth 100000
def Grw (w w':World):Prop:=∃ q os,w'=Sort.grow (w.drewN q) os
theorem Grw.refl (w:World):Grw w w:=⟨0,#[],by rw [Sort.grow_empty]; rfl⟩
theorem Grw.alloc {w w':World} (h:Grw w w') (o:Obj):Grw w (w'.alloc o):=by
 obtain ⟨q,os,rfl⟩:=h;exact ⟨q,os++#[o],by rw [Sort.alloc_eq_grow,Sort.grow_grow]⟩
theorem Grw.drewN {w w':World} (h:Grw w w') (n:Nat):Grw w (w'.drewN n):=by
 obtain ⟨q,os,rfl⟩:=h;exact ⟨q+n,os,by rw [← World.drewN_drewN]; rfl⟩
theorem Grw.drew {w w':World} (h:Grw w w'):Grw w w'.drew:=h.drewN 1
theorem Grw.below {w w':World} (h:Grw w w'):Below w.heap.size w w':=by
 obtain ⟨q,os,rfl⟩:=h;refine ⟨rfl,rfl,rfl,?_,fun i hi=>?_⟩
 · show w.heap.size≤(w.heap++os).size
   simp
 · show (w.heap++os)[i]?=w.heap[i]?
   rw [Array.getElem?_append_left hi]
theorem spec_l18Before_c (x y:PBigram) {g f g' f':Nat} (w:World) (a0:w.cell? ⟨g,f,none⟩=some (.string x.first)) (a1:w.cell? ⟨g,f+1,none⟩=some (.string x.second)) (b0:w.cell? ⟨g',f',none⟩=some (.string y.first)) (b1:w.cell? ⟨g',f'+1,none⟩=some (.string y.second)) :
 Calls Tryz.prog 94 #[.pointer (some ⟨g,f,none⟩),.pointer (some ⟨g',f',none⟩)] w (GivesB (cLess (bigKey x) (bigKey y)) w):=by
 have hc:cLess (bigKey x) (bigKey y)=(bLess x.first y.first || (decide (x.first=y.first) && bLess x.second y.second)):=rfl;have he:=str_eq x.first y.first;cases h1:bLess x.first y.first
 · by_cases h2:x.first=y.first
   · rw [decide_eq_true h2] at he
     cases h3:bLess x.second y.second
     · have HF:Hid (cLess (bigKey x) (bigKey y)=false):=by show _=_; rw [hc,h1,h3]; simp
       unfold bLess at h1 h3;clear hc h2
       go_enter Tryz.func94,Tryz.ntmps94
       go_wp2_with fail
       have hS:(fun w':World=>w'.cell? ⟨g,f,none⟩=some (.string x.first)∧w'.cell? ⟨g,f+1,none⟩=some (.string x.second)∧w'.cell? ⟨g',f',none⟩=some (.string y.first)∧w'.cell? ⟨g',f'+1,none⟩=some (.string y.second)) w.drew:=⟨a0,a1,b0,b1⟩
       dsimp only at hS;refine wp_region_held_drew (S:=(fun w':World=>w'.cell? ⟨g,f,none⟩=some (.string x.first)∧w'.cell? ⟨g,f+1,none⟩=some (.string x.second)∧w'.cell? ⟨g',f',none⟩=some (.string y.first)∧w'.cell? ⟨g',f'+1,none⟩=some (.string y.second))) (by kernel_rfl) hS (fun _=>?_);refine tJ 0 hS ?_;refine tJ 1 hS ?_;refine tJ 2 hS ?_;refine tJ 3 hS ?_;refine tJ 4 hS ?_;refine tJ 5 hS ?_;refine tJ 6 hS ?_;refine tJ 7 hS ?_;refine tJ 8 hS ?_;refine tJ 9 hS ?_;refine tJ 10 hS ?_;refine tJ 11 hS ?_;refine tJ 12 hS ?_;refine tJ 13 hS ?_;refine tJ 14 hS ?_;refine tJ 15 hS ?_;refine tJ 16 hS ?_;refine tJ 17 hS ?_;refine tJ 18 hS ?_;refine tJ 19 hS ?_;refine tJ 20 hS ?_;refine tJ 21 hS ?_;refine tJ 22 hS ?_;refine tJ 23 hS ?_;refine tJ 24 hS ?_;refine tJ 25 hS ?_;refine tJ 26 hS ?_;refine tJ 27 hS ?_;refine tJ 28 hS ?_;refine tJ 29 hS ?_;refine tJ 30 hS ?_;refine tJ 31 hS ?_;refine wpAnyH_done (by kernel_rfl) ?_ _
       go_wp2_with fail
       go_ret;exact ⟨ret_boolI HF.out.symm,1,rfl⟩
     · have HF:Hid (cLess (bigKey x) (bigKey y)=true):=by show _=_; rw [hc,h1,h3,decide_eq_true h2]; rfl
       unfold bLess at h1 h3;clear hc h2
       go_enter Tryz.func94,Tryz.ntmps94
       go_wp2_with fail
       have hS:(fun w':World=>w'.cell? ⟨g,f,none⟩=some (.string x.first)∧w'.cell? ⟨g,f+1,none⟩=some (.string x.second)∧w'.cell? ⟨g',f',none⟩=some (.string y.first)∧w'.cell? ⟨g',f'+1,none⟩=some (.string y.second)) w.drew:=⟨a0,a1,b0,b1⟩
       dsimp only at hS;refine wp_region_held_drew (S:=(fun w':World=>w'.cell? ⟨g,f,none⟩=some (.string x.first)∧w'.cell? ⟨g,f+1,none⟩=some (.string x.second)∧w'.cell? ⟨g',f',none⟩=some (.string y.first)∧w'.cell? ⟨g',f'+1,none⟩=some (.string y.second))) (by kernel_rfl) hS (fun _=>?_);refine tJ 0 hS ?_;refine tJ 1 hS ?_;refine tJ 2 hS ?_;refine tJ 3 hS ?_;refine tJ 4 hS ?_;refine tJ 5 hS ?_;refine tJ 6 hS ?_;refine tJ 7 hS ?_;refine tJ 8 hS ?_;refine tJ 9 hS ?_;refine tJ 10 hS ?_;refine tJ 11 hS ?_;refine tJ 12 hS ?_;refine tJ 13 hS ?_;refine tJ 14 hS ?_;refine tJ 15 hS ?_;refine tJ 16 hS ?_;refine tJ 17 hS ?_;refine tJ 18 hS ?_;refine tJ 19 hS ?_;refine tJ 20 hS ?_;refine tJ 21 hS ?_;refine tJ 22 hS ?_;refine tJ 23 hS ?_;refine tJ 24 hS ?_;refine tJ 25 hS ?_;refine tJ 26 hS ?_;refine tJ 27 hS ?_;refine tJ 28 hS ?_;refine tJ 29 hS ?_;refine tJ 30 hS ?_;refine tJ 31 hS ?_;refine wpAnyH_done (by kernel_rfl) ?_ _
       go_wp2_with fail
       go_ret;exact ⟨ret_boolI HF.out.symm,1,rfl⟩
   · rw [decide_eq_false h2] at he
     have HF:Hid (cLess (bigKey x) (bigKey y)=false):=by show _=_; rw [hc,h1,decide_eq_false h2]; rfl
     unfold bLess at h1;clear hc h2
     go_enter Tryz.func94,Tryz.ntmps94
     go_wp2_with fail
     have hS:(fun w':World=>w'.cell? ⟨g,f,none⟩=some (.string x.first)∧w'.cell? ⟨g,f+1,none⟩=some (.string x.second)∧w'.cell? ⟨g',f',none⟩=some (.string y.first)∧w'.cell? ⟨g',f'+1,none⟩=some (.string y.second)) w.drew:=⟨a0,a1,b0,b1⟩
     dsimp only at hS;refine wp_region_held_drew (S:=(fun w':World=>w'.cell? ⟨g,f,none⟩=some (.string x.first)∧w'.cell? ⟨g,f+1,none⟩=some (.string x.second)∧w'.cell? ⟨g',f',none⟩=some (.string y.first)∧w'.cell? ⟨g',f'+1,none⟩=some (.string y.second))) (by kernel_rfl) hS (fun _=>?_);refine tJ 0 hS ?_;refine tJ 1 hS ?_;refine tJ 2 hS ?_;refine tJ 3 hS ?_;refine tJ 4 hS ?_;refine tJ 5 hS ?_;refine tJ 6 hS ?_;refine tJ 7 hS ?_;refine tJ 8 hS ?_;refine tJ 9 hS ?_;refine tJ 10 hS ?_;refine tJ 11 hS ?_;refine tJ 12 hS ?_;refine tJ 13 hS ?_;refine tJ 14 hS ?_;refine tJ 15 hS ?_;refine tJ 16 hS ?_;refine tJ 17 hS ?_;refine tJ 18 hS ?_;refine tJ 19 hS ?_;refine tJ0 20 hS ?_;refine tJ0 21 hS ?_;refine tJ0 22 hS ?_;refine tJ0 23 hS ?_;refine tJ0 24 hS ?_;refine tJ0 25 hS ?_;refine tJ0 26 hS ?_;refine tJ0 27 hS ?_;refine tJ0 28 hS ?_;refine tJ 29 hS ?_;refine tJ 30 hS ?_;refine tJ 31 hS ?_;refine wpAnyH_done (by kernel_rfl) ?_ _
     go_wp2_with fail
     go_ret;exact ⟨ret_boolI HF.out.symm,1,rfl⟩
 · have HF:Hid (cLess (bigKey x) (bigKey y)=true):=by show _=_; rw [hc,h1]; rfl
   unfold bLess at h1;clear hc he
   go_enter Tryz.func94,Tryz.ntmps94
   go_wp2_with fail
   have hS:(fun w':World=>w'.cell? ⟨g,f,none⟩=some (.string x.first)∧w'.cell? ⟨g,f+1,none⟩=some (.string x.second)∧w'.cell? ⟨g',f',none⟩=some (.string y.first)∧w'.cell? ⟨g',f'+1,none⟩=some (.string y.second)) w.drew:=⟨a0,a1,b0,b1⟩
   dsimp only at hS;refine wp_region_held_drew (S:=(fun w':World=>w'.cell? ⟨g,f,none⟩=some (.string x.first)∧w'.cell? ⟨g,f+1,none⟩=some (.string x.second)∧w'.cell? ⟨g',f',none⟩=some (.string y.first)∧w'.cell? ⟨g',f'+1,none⟩=some (.string y.second))) (by kernel_rfl) hS (fun _=>?_);refine tJ 0 hS ?_;refine tJ 1 hS ?_;refine tJ 2 hS ?_;refine tJ 3 hS ?_;refine tJ 4 hS ?_;refine tJ 5 hS ?_;refine tJ 6 hS ?_;refine tJ 7 hS ?_;refine tJ 8 hS ?_;refine tJ 9 hS ?_;refine tJ0 10 hS ?_;refine tJ0 11 hS ?_;refine tJ0 12 hS ?_;refine tJ0 13 hS ?_;refine tJ0 14 hS ?_;refine tJ0 15 hS ?_;refine tJ0 16 hS ?_;refine tJ0 17 hS ?_;refine tJ0 18 hS ?_;refine tJ0 19 hS ?_;refine tJ0 20 hS ?_;refine tJ0 21 hS ?_;refine tJ0 22 hS ?_;refine tJ0 23 hS ?_;refine tJ0 24 hS ?_;refine tJ0 25 hS ?_;refine tJ0 26 hS ?_;refine tJ0 27 hS ?_;refine tJ0 28 hS ?_;refine tJ0 29 hS ?_;refine tJ 30 hS ?_;refine tJ 31 hS ?_;refine wpAnyH_done (by kernel_rfl) ?_ _
   go_wp2_with fail
   go_ret;exact ⟨ret_boolI HF.out.symm,1,rfl⟩
def midB (b:PBigram) (s:List PBigram × Bool) (x:PBigram):List PBigram × Bool:=if s.2=false∧cLess (bigKey x) (bigKey b)=false then (s.1++[b],true) else s
theorem stepMB_mid (b:PBigram) (s:List PBigram × Bool) (x:PBigram):stepMB b s x=(if bigKey x=bigKey b then (midB b s x).1 else (midB b s x).1++[x],(midB b s x).2):=rfl
def foldB (b:PBigram) (xs:List PBigram) (k:Nat):List PBigram × Bool:=(xs.take k).foldl (stepMB b) ([],false)
theorem foldB_succ {b:PBigram} {xs:List PBigram} {k:Nat} (h:k < xs.length):foldB b xs (k+1)=stepMB b (foldB b xs k) xs[k]:=by
 rw [foldB,List.take_succ_eq_append_getElem h,List.foldl_append]; rfl
theorem foldB_len (b:PBigram) (xs:List PBigram):∀ k,(foldB b xs k).1.length≤2 * k:=by
 intro k
 have key:∀ (l:List PBigram) (s:List PBigram × Bool),(l.foldl (stepMB b) s).1.length≤s.1.length+2 * l.length:=by
  intro l
  induction l with
  | nil=>intro s; exact Nat.le_refl _
  | cons x l ih =>
    intro s;rw [List.foldl_cons,List.length_cons];refine Nat.le_trans (ih _) ?_
    have:(stepMB b s x).1.length≤s.1.length+2:=by
     rw [stepMB_mid,midB]
     split <;> split <;> simp
    omega
 have:=key (xs.take k) ([],false);rw [List.length_take] at this;unfold foldB;simp only [List.length_nil] at this;omega
theorem midB_len (b:PBigram) (s:List PBigram × Bool) (x:PBigram):(midB b s x).1.length≤s.1.length+1:=by
 rw [midB]; split <;> simp
theorem spec_l18Put_c {o:Bool} {bg:TypeId} {xs:List PBigram} {b:PBigram} {v:Value} {F:List Nat} (w:World) (r:(pBigrams bg).rep o w xs [v] F) (hx:xs.length≤1000) (hok:pBigramOk b) :
 Calls Tryz.prog 65 #[v,.agg #[.string b.first,.string b.second,.int .i64 b.cost]] w (GivesO (pBigrams 143) (putB xs b) w):=by
 obtain ⟨A,c,rfl,hc1,hc2,-⟩:=pBigrams_open r;have R:=Lib.hid r;have HOK:=Lib.hid (pBigrams_ok r);have R0:=(Row.new w 143 #[.string b.first,.string b.second,.int .i64 b.cost]).alloc (.cells #[] 143);have e0:=empty_is pBigram 143 (w.alloc (.cells #[.string b.first,.string b.second,.int .i64 b.cost] 143));have b0:Below w.heap.size w ((w.alloc (.cells #[.string b.first,.string b.second,.int .i64 b.cost] 143)).alloc (.cells #[] 143)):=((Below.refl _ _).alloc (Nat.le_refl _) _).alloc (by simp) _;have l0:w.heap.size+1 < ((w.alloc (.cells #[.string b.first,.string b.second,.int .i64 b.cost] 143)).alloc (.cells #[] 143)).heap.size:=by simp
 rw [World.size_alloc] at e0;have HOB:=Lib.hid (show ∀ s∈[b],pBigramOk s from by intro s hs; simp only [List.mem_singleton] at hs; subst hs; exact hok);clear r hok
 go_enter Tryz.func65,Tryz.ntmps65
 go_upto_region 4 with fail
 generalize (w.alloc (.cells #[.string b.first,.string b.second,.int .i64 b.cost] 143)).alloc (.cells #[] 143)=w0 at R0 e0 b0 l0 ⊢;have HR0:=Lib.hid R0;have B0:=Lib.hid b0;have E0:=Lib.hid e0;clear R0 b0 e0
 go_loopw [5,6,7] (fun l d i wr=>∃ (k:Nat) (u:Value) (G:List Nat),l=u∧d=.bool (foldB b xs k).2∧i=.int .i64 k∧k≤xs.length∧Hid ((pBigram.slice 143).rep true wr (foldB b xs k).1 [u] G∧Fresh (w.heap.size+1) G∧Below w.heap.size w wr∧Row wr w.heap.size 143 [.string b.first,.string b.second,.int .i64 b.cost])) (fun _ _ i _=>xs.length - (intOf i).toNat)
 case atStart=>exact ⟨0,_,[w.heap.size+1],rfl,rfl,rfl,by omega,Lib.hid ⟨E0.out,⟨by simp,by simp⟩,B0.out,HR0.out⟩⟩
 case round =>
  obtain ⟨k,u,G,rfl,rfl,rfl,hk,all⟩:=hrel;have ALL:=Lib.hid all.out;clear all;obtain ⟨U,un,uc,rfl⟩:=slice_form ALL.out.1
  by_cases hlt:k < xs.length
  · have gk:(k:Int) < (xs.length:Int):=by omega
    have gk0:(0:Int)≤(k:Int):=by omega
    have kw:=IntWalk.i64_in ((k:Int)+1) (by omega);obtain ⟨A',c',he,-,-,hr⟩:=pBigrams_open R.out;cases he;obtain ⟨bx,ox,rfl,hbx,-,c0,c1,c2,-⟩:=hr k hlt;have HS:=Lib.hid (foldB_succ (b:=b) hlt);have hokx:=HOK.out _ (List.getElem_mem hlt);have HL:=Lib.hid (show (foldB b xs k).1.length≤2000 from Nat.le_trans (foldB_len _ _ _) (by omega));generalize xs[k]=x at c0 c1 c2 HS hokx;have HOX:=Lib.hid (show ∀ s∈[x],pBigramOk s from by intro s hs; simp only [List.mem_singleton] at hs; subst hs; exact hokx);obtain ⟨s,hs⟩:∃ s,foldB b xs k=s:=⟨_,rfl⟩
    rw [hs] at HS HL ALL ⊢;obtain ⟨sl,sd⟩:=s;dsimp only at ALL HL ⊢;have HX:=Lib.hid (fun (w':World) (bb:Below w.heap.size w w')=>show (w'.cell? ⟨bx,ox+k * 3,none⟩=some (.string x.first)∧w'.cell? ⟨bx,ox+k * 3+1,none⟩=some (.string x.second)∧w'.cell? ⟨bx,ox+k * 3+2,none⟩=some (.int .i64 x.cost)) from ⟨(bb.cell (p:=⟨bx,_,none⟩) hbx).trans c0,(bb.cell (p:=⟨bx,_,none⟩) hbx).trans c1,(bb.cell (p:=⟨bx,_,none⟩) hbx).trans c2⟩);clear hr hokx hs c0 c1 c2 hbx
    go_upto_region 6 with fail
    go_cut [23] from 15 to 23 (fun cn wx=>∃ n,cn=.bool (!sd && !cLess (bigKey x) (bigKey b))∧wx=wr.drewN n)
    case first =>
     obtain ⟨x0,x1,x2⟩:=HX.out wr ALL.out.2.2.1;have y0:=ALL.out.2.2.2.c0;have y1:=ALL.out.2.2.2.c1;cases sd with
     | true =>
       go_wp2_with fail
       go_meet
       case rel=>exact ⟨0,rfl,rfl⟩
     | false =>
       have CB:=Lib.hid (spec_l18Before_c x b wr x0 x1 y0 y1)
       go_wp2_with fail
       refine CB.out.mono ?_;rintro e w2 ⟨rfl,n9,rfl⟩;clear x0 x1 x2 y0 y1 CB
       go_wp2_with fail
       go_meet
       case rel=>exact ⟨n9,by cases cLess (bigKey x) (bigKey b) <;> rfl,rfl⟩
    case rest =>
    obtain ⟨n9,rfl,rfl⟩:=hcut;have HB2:=Lib.hid (below_drewN (Below.refl wr.heap.size wr) n9);have AB:=Lib.hid (show (pBigram.slice 143).rep true (wr.drewN n9) sl [.slice U un uc] G∧Fresh (w.heap.size+1) G∧Below w.heap.size w (wr.drewN n9)∧Row (wr.drewN n9) w.heap.size 143 [.string b.first,.string b.second,.int .i64 b.cost] from ⟨ALL.out.1.below HB2.out,ALL.out.2.1,below_drewN ALL.out.2.2.1 n9,ALL.out.2.2.2.later HB2.out⟩);clear HB2 ALL;generalize World.drewN wr n9=w2 at AB ⊢
    have HMI:=Lib.hid (show midB b (sl,sd) x=if (!sd && !cLess (bigKey x) (bigKey b))=true then (sl++[b],true) else (sl,sd) by
     rw [midB];cases sd <;> cases cLess (bigKey x) (bigKey b) <;> rfl)
    generalize (!sd && !cLess (bigKey x) (bigKey b))=cb at HMI ⊢
    go_upto_if 23 with fail
    go_cut [5,6] from 15 to 27 (fun l d wx=>∃ (u:Value) (G':List Nat),l=u∧d=.bool (midB b (sl,sd) x).2∧Hid ((pBigram.slice 143).rep true wx (midB b (sl,sd) x).1 [u] G'∧Fresh (w.heap.size+1) G'∧Below w.heap.size w wx∧Row wx w.heap.size 143 [.string b.first,.string b.second,.int .i64 b.cost]))
    case first =>
     cases cb with
     | false =>
       have HM:=Lib.hid (HMI.out.trans (if_neg (by decide)))
       go_wp2_with fail
       go_meet
       case rel=>exact ⟨_,G,rfl,by rw [HM.out],Lib.hid (by rw [HM.out]; exact AB.out)⟩
     | true =>
       have HM:=Lib.hid (HMI.out.trans (if_pos rfl));have y0:=AB.out.2.2.2.c0;have y1:=AB.out.2.2.2.c1;have y2:=AB.out.2.2.2.c2
       go_wp2_with (at_builtin; refine wpList_append_repX (T:=pBigram) (e:=143) (ys:=[b]) (ec:=[.string b.first,.string b.second,.int .i64 b.cost]) rfl (.tmp 24) (.tmp 26) rfl Tryz.underlying34 Tryz.infoBigram rfl (by decide) rfl (AB.out.1.alloc _) rfl (repL_pBigram [b] HOB.out) (cellsAt_new _ _ _) trivial (by rw [List.append_nil]; exact AB.out.2.1.1) (by have:=HL.out; simp only [List.length_singleton,maxLen]; omega) (by have:=HL.out; simp only [List.length_singleton]; omega) ?_; intro v6 w8 F6 r6 o6 f6 x6; obtain ⟨V6,n6,c6,rfl⟩:=slice_form r6)
       go_meet
       case rel =>
        have hzw:=AB.out.2.2.2.lt;have BB:=AB.out.2.2.1;refine ⟨_,F6,rfl,by rw [HM.out],Lib.hid ?_⟩;rw [HM.out];exact ⟨r6,f6 (w.heap.size+1) (by rw [List.append_nil]; exact AB.out.2.1) (by simp only [World.size_alloc]; omega),(BB.alloc BB.size (.cells #[.string b.first,.string b.second,.int .i64 b.cost] 143)).trans (o6.below (B:=w.heap.size) (by simp only [World.size_alloc]; omega) (fun z hz=>by have:=AB.out.2.1.2 z hz; omega)),(AB.out.2.2.2.alloc _).onl o6 (fun hin=>by have:=AB.out.2.1.2 _ hin; omega)⟩
    case rest =>
     obtain ⟨wm,hwm⟩:∃ W,W=wc:=⟨_,rfl⟩
     subst hwm;obtain ⟨u2,G2,rfl,rfl,all2⟩:=hcut;have HM:=Lib.hid (stepMB_mid b (sl,sd) x);have HML:=Lib.hid (show (midB b (sl,sd) x).1.length≤2001 from Nat.le_trans (midB_len _ _ _) (by have:=HL.out; dsimp only; omega));have HS2:=Lib.hid (HS.out.trans HM.out);clear HM HS AB HL HMI;generalize midB b (sl,sd) x=ms at all2 HML HS2 ⊢;obtain ⟨ml,md⟩:=ms;have ALL:=Lib.hid all2.out;clear all2;dsimp only at ALL HML HS2 ⊢;obtain ⟨U2,n2,c2',rfl⟩:=slice_form ALL.out.1;obtain ⟨x0,x1,x2⟩:=HX.out wm ALL.out.2.2.1;have y0:=ALL.out.2.2.2.c0;have y1:=ALL.out.2.2.2.c1
     obtain ⟨e1,e2,hcase⟩:∃ e1 e2:Bool,(x.first.toList == b.first.toList)=e1∧(x.first.toList != b.first.toList)=!e1∧(x.second.toList == b.second.toList)=e2∧(x.second.toList != b.second.toList)=!e2∧Hid (foldB b xs (k+1)=if e1 && e2 then (ml,md) else (ml++[x],md)):=by
      by_cases h1:x.first=b.first
      · obtain ⟨q1,q2⟩:=str_eqB h1
        by_cases h2:x.second=b.second
        · obtain ⟨q3,q4⟩:=str_eqB h2
          exact ⟨true,true,q1,q2,q3,q4,Lib.hid (by rw [HS2.out,if_pos (show bigKey x=bigKey b from Prod.ext h1 h2)]; rfl)⟩
        · obtain ⟨q3,q4⟩:=str_neB h2
          exact ⟨true,false,q1,q2,q3,q4,Lib.hid (by rw [HS2.out,if_neg (show ¬ bigKey x=bigKey b from fun e=>h2 (congrArg Prod.snd e))]; rfl)⟩
      · obtain ⟨q1,q2⟩:=str_neB h1
        exact ⟨false,_,q1,q2,rfl,by rw [bne],Lib.hid (by rw [HS2.out,if_neg (show ¬ bigKey x=bigKey b from fun e=>h1 (congrArg Prod.fst e))]; rfl)⟩
     obtain ⟨q1,q2,q3,q4,HN0⟩:=hcase;have HNE:=Lib.hid HN0.out;clear HN0;rcases (show (e1=true∧e2=true)∨(e1=true∧e2=false)∨e1=false from by cases e1 <;> cases e2 <;> simp) with ⟨rfl,rfl⟩ | ⟨rfl,rfl⟩ | rfl
     all_goals (
      simp only [Bool.not_true,Bool.not_false] at q2 q4;have HN:=Lib.hid HNE.out;clear HNE
      )
     all_goals (
      go_upto_region 9 with fail
      go_quiet (fail)
      obtain ⟨m9,rfl⟩:∃ n:Nat,n=nq:=⟨_,rfl⟩
      clear x0 x1 x2 y0 y1;have hBQ:=below_drewN (Below.refl wm.heap.size wm) m9;have AL2:=Lib.hid (show (pBigram.slice 143).rep true (wm.drewN m9) ml [.slice U2 n2 c2'] G2∧Fresh (w.heap.size+1) G2∧Below w.heap.size w (wm.drewN m9)∧Row (wm.drewN m9) w.heap.size 143 [.string b.first,.string b.second,.int .i64 b.cost] from ⟨ALL.out.1.below hBQ,ALL.out.2.1,below_drewN ALL.out.2.2.1 m9,ALL.out.2.2.2.later hBQ⟩);clear hBQ ALL;generalize World.drewN wm m9=wn at AL2 ⊢;obtain ⟨x0,x1,x2⟩:=HX.out wn AL2.out.2.2.1
      )
     · go_wp2_with fail
       exact ⟨⟨k+1,_,G2,rfl,by rw [HN.out]; rfl,by go_num,by omega,Lib.hid (by rw [HN.out]; exact AL2.out)⟩,by simp [intOf]; omega⟩
     all_goals (
      go_wp2_with (at_builtin; refine wpList_append_repX (T:=pBigram) (e:=143) (ys:=[x]) (ec:=[.string x.first,.string x.second,.int .i64 x.cost]) rfl (.tmp 46) (.tmp 51) rfl Tryz.underlying34 Tryz.infoBigram rfl (by decide) rfl (AL2.out.1.alloc _) rfl (repL_pBigram [x] HOX.out) (cellsAt_new _ _ _) trivial (by rw [List.append_nil]; exact AL2.out.2.1.1) (by have:=HML.out; simp only [List.length_singleton,maxLen]; omega) (by have:=HML.out; simp only [List.length_singleton]; omega) ?_; intro v6 w8 F6 r6 o6 f6 x6; obtain ⟨V6,n6,c6,rfl⟩:=slice_form r6)
      have hzw:=AL2.out.2.2.2.lt;have BB:=AL2.out.2.2.1;exact ⟨⟨k+1,_,F6,rfl,by rw [HN.out]; rfl,by go_num,by omega,Lib.hid (by rw [HN.out]; exact ⟨r6,f6 (w.heap.size+1) (by rw [List.append_nil]; exact AL2.out.2.1) (by simp only [World.size_alloc]; omega),(BB.alloc BB.size (.cells #[.string x.first,.string x.second,.int .i64 x.cost] 143)).trans (o6.below (B:=w.heap.size) (by simp only [World.size_alloc]; omega) (fun z hz=>by have:=AL2.out.2.1.2 z hz; omega)),(AL2.out.2.2.2.alloc _).onl o6 (fun hin=>by have:=AL2.out.2.1.2 _ hin; omega)⟩)⟩,by simp [intOf]; omega⟩
      )
  · obtain rfl:k=xs.length:=by omega
    have gk:¬ (xs.length:Int) < (xs.length:Int):=by omega
    have HP:=Lib.hid (show putB xs b=if (foldB b xs xs.length).2=false then (foldB b xs xs.length).1++[b] else (foldB b xs xs.length).1 by rw [foldB,List.take_length]; rfl);have HL:=Lib.hid (show (foldB b xs xs.length).1.length≤2000 from Nat.le_trans (foldB_len _ _ _) (by omega));generalize foldB b xs xs.length=s at ALL HP HL ⊢;obtain ⟨sl,sd⟩:=s;dsimp only at ALL HP HL ⊢;cases sd with
    | true =>
      have HN:=Lib.hid (HP.out.trans (if_neg (by simp)))
      go_wp2_with fail
      go_ret;exact ⟨_,G,rfl,by rw [HN.out]; exact ALL.out.1,ALL.out.2.1.mono (by omega),ALL.out.2.2.1⟩
    | false =>
      have HN:=Lib.hid (HP.out.trans (if_pos rfl));have y0:=ALL.out.2.2.2.c0;have y1:=ALL.out.2.2.2.c1;have y2:=ALL.out.2.2.2.c2
      go_wp2_with (at_builtin; refine wpList_append_repX (T:=pBigram) (e:=143) (ys:=[b]) (ec:=[.string b.first,.string b.second,.int .i64 b.cost]) rfl (.tmp 55) (.tmp 57) rfl Tryz.underlying34 Tryz.infoBigram rfl (by decide) rfl (ALL.out.1.alloc _) rfl (repL_pBigram [b] HOB.out) (cellsAt_new _ _ _) trivial (by rw [List.append_nil]; exact ALL.out.2.1.1) (by have:=HL.out; simp only [List.length_singleton,maxLen]; omega) (by have:=HL.out; simp only [List.length_singleton]; omega) ?_; intro v6 w8 F6 r6 o6 f6 x6; obtain ⟨V6,n6,c6,rfl⟩:=slice_form r6)
      go_ret;have hzw:=ALL.out.2.2.2.lt;have BB:=ALL.out.2.2.1;exact ⟨_,F6,rfl,by rw [HN.out]; exact r6,f6 w.heap.size (by rw [List.append_nil]; exact ALL.out.2.1.mono (by omega)) (by simp only [World.size_alloc]; omega),(BB.alloc BB.size (.cells #[.string b.first,.string b.second,.int .i64 b.cost] 143)).trans (o6.below (B:=w.heap.size) (by simp only [World.size_alloc]; omega) (fun z hz=>by have:=ALL.out.2.1.2 z hz; omega))⟩
theorem u64w (x:Int):0≤IntKind.u64.wrap x∧IntKind.u64.wrap x < 18446744073709551616:=by
 rw [IntKind.wrap_u64]; omega
theorem and255 (x:Int) (h0:0≤x) (h1:x < 9223372036854775808):0≤bits .and .u64 x 255∧bits .and .u64 x 255≤255:=by
 have h:=bits_mask .u64 63 (by decide) (fun n h₀ h₁=>by rw [IntKind.wrap_u64]; omega) 8 (by decide) x (by omega) (by omega);have e:((2:Int) ^ 8 - 1)=255:=by decide
 have e2:((2:Int) ^ 8)=256:=by decide
 rw [e,e2] at h;rw [h]; omega
theorem w64 (x:Int) (h0:0≤x) (h1:x≤255):wrap64 x=x:=by unfold wrap64; omega
theorem bytes_open {o:Bool} {w:World} {e:TypeId} {xs:List UInt8} {v:Value} {F:List Nat} (h:(byte.slice e).rep o w xs [v] F) :
 ∃ A c,v=.slice A xs.length c∧xs.length≤c∧c≤maxLen∧∀ k (hk:k < xs.length),∃ b off,A=some ⟨b,off,none⟩∧b < w.heap.size∧b∈F∧w.cell? ⟨b,off+k,none⟩=some (.int .u8 (xs[k].toNat:Int)):=by
 obtain ⟨A,c,hv,h1,h2,h3⟩:=slice_open h;refine ⟨A,c,hv,h1,h2,fun k hk=>?_⟩;obtain ⟨b,off,ck,Fk,hA,hb,hin,⟨rfl,-,-⟩,_,hc⟩:=h3 k hk;have h0:=hc 0 _ rfl;rw [show k * byte.size+0=k from Nat.mul_one k] at h0;exact ⟨b,off,hA,hb,hin,h0⟩
structure SrcIs (B g:Nat) (code:List UInt8) (m:Nat) (w:World):Prop where
 few:code.length≤4096
 low:g < B
 at_:∃ (e:TypeId) (v:Value) (F:List Nat) (i:Nat) (seed:Int),Row w g 73 [v,.int .i64 (i:Int),.int .u64 seed]∧(byte.slice e).rep false w code [v] F∧(∀ b∈F,b < B∧b≠g)∧i≤m∧0≤seed∧seed < 18446744073709551616
section
variable {B g m:Nat} {code:List UInt8} {w w':World}
theorem SrcIs.below (h:SrcIs B g code m w) (hb:Below w.heap.size w w'):SrcIs B g code m w':=by
 obtain ⟨h0,h1,e,v,F,i,s,R,hr,hF,hi⟩:=h;exact ⟨h0,h1,e,v,F,i,s,R.later hb,hr.below hb,hF,hi⟩
theorem SrcIs.only {G:List Nat} (h:SrcIs B g code m w) (ho:Only G w w') (hG:∀ b∈G,B≤b):SrcIs B g code m w':=by
 obtain ⟨h0,h1,e,v,F,i,s,R,hr,hF,hi⟩:=h;refine ⟨h0,h1,e,v,F,i,s,(ho.block g R.lt (fun hin=>by have:=hG _ hin; omega)).trans R,hr.only ho (fun b hb hin=>by have:=hG _ hin; have:=(hF b hb).1; omega),hF,hi⟩
theorem SrcIs.more (h:SrcIs B g code m w) {k:Nat} (hk:m≤k):SrcIs B g code k w:=by
 obtain ⟨h0,h1,e,v,F,i,s,R,hr,hF,hi,h2⟩:=h;exact ⟨h0,h1,e,v,F,i,s,R,hr,hF,by omega,h2⟩
theorem SrcIs.lt (h:SrcIs B g code m w):g < w.heap.size:=by
 obtain ⟨h0,h1,e,v,F,i,s,R,_⟩:=h;exact R.lt
end
theorem only_drewN {F:List Nat} {a b:World} (h:Only F a b) (n:Nat):Only F a (b.drewN n):=⟨h.os,h.tape,h.output,h.size,h.block⟩
theorem byte_kept {o:Bool} {w w':World} {e:TypeId} {xs:List UInt8} {cs:List Value} {F:List Nat} (h:(byte.slice e).rep o w xs cs F) (hk:∀ b∈F,w'.heap[b]?=w.heap[b]?):(byte.slice e).rep o w' xs cs F:=Ty.kept _ h hk
theorem src_next_c {B g m:Nat} {code:List UInt8} (w:World) (h:SrcIs B g code m w) (hm:m≤1000000) :
 Calls Tryz.prog 24 #[.pointer (some ⟨g,0,none⟩)] w fun e w'=>(∃ r:Int,0≤r∧r≤255∧e=.returned (.int .i64 r))∧SrcIs B g code (m+1) w'∧Only [g] w w':=by
 obtain ⟨h0,h1,e,v,F,i,seed,R,hr,hF,hi,s0,s1⟩:=h;have hr':=hr;obtain ⟨A,c,rfl,hc1,hc2,ho⟩:=bytes_open hr;have r0:=R.c0;have r1:=R.c1;have r2:=R.c2;have rf:=R.frozen;have kw:=IntWalk.i64_in ((i:Int)+1) (by omega);clear hr
 by_cases hlt:i < code.length
 · obtain ⟨b,off,rfl,hbb,hbF,hcell⟩:=ho i hlt
   have g1:(i:Int) < (code.length:Int):=by omega
   have g2:(0:Int)≤(i:Int):=by omega
   have g3:(i:Int)+1≤(code.length:Int):=by omega
   clear ho
   go_enter Tryz.func24,Tryz.ntmps24
   go_wp2_with fail
   go_quiet (fail)
   obtain ⟨n1,rfl⟩:∃ n:Nat,n=nq:=⟨_,rfl⟩
   go_wp2_with fail
   go_quiet (fail)
   obtain ⟨n2,rfl⟩:∃ n:Nat,n=nq:=⟨_,rfl⟩
   go_wp2_with fail
   go_quiet (fail)
   obtain ⟨n3,rfl⟩:∃ n:Nat,n=nq:=⟨_,rfl⟩
   go_wp2_with fail
   have u8:(code[i].toNat:Int)≤255:=by have:=code[i].toNat_lt; omega
   have hs:=u64w (IntKind.u64.wrap (IntKind.u64.wrap (seed * 6364136223846793005)+IntKind.u64.wrap (wrap64 (code[i].toNat:Int)))+1442695040888963407);go_ret;refine ⟨⟨_,?_,?_,rfl⟩,⟨h0,h1,e,_,F,i+1,_,((((R.drewN n1).drewN n2).set 1 (.int .i64 ((i:Int)+1))).set 2 _).drewN n3,?_,hF,by omega,hs.1,hs.2⟩,?_⟩
   · show 0≤wrap64 (code[i].toNat:Int); rw [w64 _ (by omega) u8]; omega
   · show wrap64 (code[i].toNat:Int)≤255; rw [w64 _ (by omega) u8]; exact u8
   · exact byte_kept hr' (fun b hb=>((Below.heap_setCell _ ⟨g,2,none⟩ _ b (hF b hb).2).trans (Below.heap_setCell _ ⟨g,1,none⟩ _ b (hF b hb).2)))
   · exact only_drewN (((only_drewN (Only.refl [g] w) _).set (p:=⟨g,1,none⟩) (by simp) _).set (p:=⟨g,2,none⟩) (by simp) _) _
 · have g1:¬ ((i:Int) < (code.length:Int)):=by omega
   clear ho
   go_enter Tryz.func24,Tryz.ntmps24
   go_wp2_with fail
   go_quiet (fail)
   obtain ⟨n1,rfl⟩:∃ n:Nat,n=nq:=⟨_,rfl⟩
   go_wp2_with fail
   go_quiet (fail)
   obtain ⟨n3,rfl⟩:∃ n:Nat,n=nq:=⟨_,rfl⟩
   go_wp2_with fail
   have hs:=u64w (IntKind.u64.wrap (IntKind.u64.wrap (seed * 6364136223846793005))+1442695040888963407);have hx:0≤IntKind.u64.wrap (IntKind.u64.wrap (IntKind.u64.wrap (seed * 6364136223846793005))+1442695040888963407) / 1099511627776∧IntKind.u64.wrap (IntKind.u64.wrap (IntKind.u64.wrap (seed * 6364136223846793005))+1442695040888963407) / 1099511627776 < 9223372036854775808:=by omega
   have ha:=and255 _ hx.1 hx.2;go_ret;refine ⟨⟨_,?_,?_,rfl⟩,⟨h0,h1,e,_,F,i+1,_,(((R.drewN n1).set 1 (.int .i64 ((i:Int)+1))).set 2 _).drewN n3,?_,hF,by omega,hs.1,hs.2⟩,?_⟩
   · show 0≤wrap64 _; rw [w64 _ ha.1 ha.2]; exact ha.1
   · show wrap64 _≤255; rw [w64 _ ha.1 ha.2]; exact ha.2
   · exact byte_kept hr' (fun b hb=>((Below.heap_setCell _ ⟨g,2,none⟩ _ b (hF b hb).2).trans (Below.heap_setCell _ ⟨g,1,none⟩ _ b (hF b hb).2)))
   · exact only_drewN (((only_drewN (Only.refl [g] w) _).set (p:=⟨g,1,none⟩) (by simp) _).set (p:=⟨g,2,none⟩) (by simp) _) _
theorem src_pick_c {B g m:Nat} {code:List UInt8} (w:World) (h:SrcIs B g code m w) (hm:m≤1000000) (n:Int) (hn:n≤200) :
 Calls Tryz.prog 11 #[.pointer (some ⟨g,0,none⟩),.int .i64 n] w fun e w'=>(∃ r:Int,0≤r∧(r=0∨r < n)∧e=.returned (.int .i64 r))∧SrcIs B g code (m+1) w'∧Only [g] w w':=by
 by_cases h1:n≤1
 · go_enter Tryz.func11,Tryz.ntmps11
   go_wp2_with fail
   go_ret;exact ⟨⟨0,by omega,.inl rfl,rfl⟩,h.more (by omega),Only.refl _ _⟩
 · have h2:¬ 200 < n:=by omega
   have H:=Lib.hid (src_next_c w h hm);clear h
   go_enter Tryz.func11,Tryz.ntmps11
   go_wp2_with fail
   refine H.out.mono ?_;rintro e w1 ⟨⟨r,r0,r1,rfl⟩,S,O⟩;have hm1:=Int.emod_nonneg r (show n≠0 by omega);have hm2:=Int.emod_lt_of_pos r (show 0 < n by omega);have ht:r.tmod n=r % n:=Int.tmod_eq_emod_of_nonneg r0;have nz:¬ n=0:=by omega
   have nz':(n == 0)=false:=by simpa using nz
   go_wp2_with fail
   go_ret;refine ⟨⟨r % n,hm1,.inr hm2,?_⟩,S,O⟩
   first | rfl | exact congrArg (fun x=>Ending.returned (.int .i64 x)) (by rw [ht]) | exact congrArg (fun x=>Ending.returned (.int .i64 x)) (by rw [ht]; exact IntWalk.i64_in _ (by omega))
theorem src_one_c {B g m:Nat} {code:List UInt8} (w:World) (h:SrcIs B g code m w) (hm:m≤1000000) (n:Int) (hn:n≤200) :
 Calls Tryz.prog 26 #[.pointer (some ⟨g,0,none⟩),.int .i64 n] w fun e w'=>(∃ b:Bool,e=.returned (.bool b))∧SrcIs B g code (m+1) w'∧Only [g] w w':=by
 have H:=Lib.hid (src_pick_c w h hm n hn);clear h
 go_enter Tryz.func26,Tryz.ntmps26
 go_wp2_with fail
 refine H.out.mono ?_;rintro e w1 ⟨⟨r,r0,r1,rfl⟩,S,O⟩
 go_wp2_with fail
 go_ret;exact ⟨⟨_,rfl⟩,S,O⟩
theorem src_text_c {B g m:Nat} {code:List UInt8} {o:Bool} {e:TypeId} {xs:List ByteArray} {v:Value} {F:List Nat} (w:World) (h:SrcIs B g code m w) (hm:m≤1000000) (hl:(strs e).rep o w xs [v] F) (hF:g∉F) (h1:1≤xs.length) (h2:xs.length≤200) :
 Calls Tryz.prog 45 #[.pointer (some ⟨g,0,none⟩),v] w fun e w'=>(∃ t,t∈xs∧e=.returned (.string t))∧SrcIs B g code (m+1) w'∧Only [g] w w':=by
 have H:=Lib.hid (src_pick_c w h hm (xs.length:Int) (by omega));have HL:=Lib.hid hl;obtain ⟨A,c,rfl⟩:=slice_len hl;clear h hl
 go_enter Tryz.func45,Tryz.ntmps45
 go_wp2_with fail
 refine H.out.mono ?_;rintro e w1 ⟨⟨r,r0,r1,rfl⟩,S,O⟩;obtain ⟨k,rfl⟩:=Int.eq_ofNat_of_zero_le r0;have hk:k < xs.length:=by omega
 have hl2:=HL.out.only O (fun b hb hin=>by simp at hin; subst hin; exact hF hb);obtain ⟨A',c',he,_,_,hr⟩:=strs_open hl2;cases he;obtain ⟨b,off,rfl,hbb,_,h0,_⟩:=hr k hk;have g1:(k:Int) < (xs.length:Int):=by omega
 clear hr hl2 r1
 go_wp2_with fail
 go_ret;exact ⟨⟨_,List.getElem_mem hk,rfl⟩,S,O⟩
theorem src_pickB_c {B g m:Nat} {code:List UInt8} (w:World) (h:SrcIs B g code m w) (hm:m≤999000) (n:Int) (h1:200 < n) (hn:n≤60000) :
 Calls Tryz.prog 11 #[.pointer (some ⟨g,0,none⟩),.int .i64 n] w fun e w'=>(∃ r:Int,0≤r∧r < n∧e=.returned (.int .i64 r))∧SrcIs B g code (m+2) w'∧Only [g] w w':=by
 have H:=Lib.hid (src_next_c w h (by omega));have h2:¬ n≤1:=by omega
 clear h
 go_enter Tryz.func11,Tryz.ntmps11
 go_wp2_with fail
 refine H.out.mono ?_;rintro e w1 ⟨⟨r,r0,r1,rfl⟩,S,O⟩;have H2:=Lib.hid (src_next_c w1 S (by omega));clear S
 go_wp2_with fail
 refine H2.out.mono ?_;rintro e w2 ⟨⟨r',r0',r1',rfl⟩,S2,O2⟩;have e1:=IntWalk.i64_in (r * 256) (by omega);have e2:=IntWalk.i64_in (r * 256+r') (by omega);obtain ⟨x,hx⟩:∃ x,r * 256+r'=x:=⟨_,rfl⟩
 have x0:0≤x:=by omega
 rw [hx] at e2;have hm1:=Int.emod_nonneg x (show n≠0 by omega);have hm2:=Int.emod_lt_of_pos x (show 0 < n by omega);have ht:x.tmod n=x % n:=Int.tmod_eq_emod_of_nonneg x0;have nz:¬ n=0:=by omega
 have nz':(n == 0)=false:=by simpa using nz
 rw [← hx] at hm1 hm2;clear hx
 go_wp2_with fail
 go_ret;exact ⟨⟨(r * 256+r') % n,hm1,hm2,rfl⟩,S2,O.trans O2⟩
theorem src_among_c {B g m:Nat} {code:List UInt8} {o:Bool} {e:TypeId} {xs:List Int} {v:Value} {F:List Nat} (w:World) (h:SrcIs B g code m w) (hm:m≤990000) (hl:(nums e).rep o w xs [v] F) (hF:g∉F) (h1:1≤xs.length) (h2:xs.length≤200) :
 Calls Tryz.prog 27 #[.pointer (some ⟨g,0,none⟩),v] w fun e w'=>(∃ t,t∈xs∧e=.returned (.int .i64 t))∧SrcIs B g code (m+1) w'∧Only [g] w w':=by
 have H:=Lib.hid (src_pick_c w h (by omega) (xs.length:Int) (by omega));have HL:=Lib.hid hl;obtain ⟨A,c,rfl⟩:=slice_len hl;clear h hl
 go_enter Tryz.func27,Tryz.ntmps27
 go_wp2_with fail
 refine H.out.mono ?_;rintro e w1 ⟨⟨r,r0,r1,rfl⟩,S,O⟩;obtain ⟨k,rfl⟩:=Int.eq_ofNat_of_zero_le r0;have hk:k < xs.length:=by omega
 have hl2:=HL.out.only O (fun b hb hin=>by simp at hin; subst hin; exact hF hb);obtain ⟨A',c',he,_,_,hr⟩:=nums_open hl2;cases he;obtain ⟨b,off,rfl,hbb,_,h0,_⟩:=hr k hk;have g1:(k:Int) < (xs.length:Int):=by omega
 clear hr hl2 r1
 go_wp2_with fail
 go_ret;exact ⟨⟨_,List.getElem_mem hk,rfl⟩,S,O⟩
def lexWords:List ByteArray:=[⟨#[97]⟩,⟨#[97,110]⟩,⟨#[97,110,116]⟩,⟨#[97,116]⟩,⟨#[97,116,101]⟩,⟨#[101,97,116]⟩,⟨#[101]⟩,⟨#[101,110]⟩,⟨#[105]⟩,⟨#[105,110]⟩,⟨#[105,115]⟩,⟨#[105,116]⟩,⟨#[110,101,115,116]⟩,⟨#[110,101,116]⟩,⟨#[115,101,116]⟩,⟨#[115,105,116]⟩,⟨#[115,97,116]⟩,⟨#[115,105,116,101]⟩,⟨#[116,101,97]⟩,⟨#[116,101,110]⟩,⟨#[116,101,115,116]⟩,⟨#[116,105,101]⟩,⟨#[116,105,110]⟩,⟨#[116,105]⟩]
theorem lexWords_small:∀ s∈lexWords,s.size≤4:=by decide
theorem spec_l16Words_c (w:World):Calls Tryz.prog 62 #[] w fun e w'=>e=.returned (.slice (some ⟨w.heap.size,0,none⟩) 24 24)∧w'=w.alloc (.cells (lexWords.map Value.string).toArray 9):=by
 go_enter Tryz.func62,Tryz.ntmps62
 go_wp2_with fail
 go_ret;exact ⟨rfl,rfl⟩
theorem lexWords_at (w:World):(strs 9).rep true (w.alloc (.cells (lexWords.map Value.string).toArray 9)) lexWords [.slice (some ⟨w.heap.size,0,none⟩) 24 24] [w.heap.size] :=
 slice_of_row (xs:=lexWords) (Row.new w _ _) (repL_strs _ (fun s hs=>by have:=lexWords_small s hs; unfold maxLen; omega)) (by decide)
end Go.Proofs.YtafgknkcjohjeaaGreatDoor

/- A lexicon is drawn: the parts, in the reference. Conditions: none. -/
import Derived.Test.YtafgknkcjohjeaaGreatDoorInkGe
import Derived.Test.YtafgknkcjohjeaaGreatDoorSlOpse
import Derived.Test.YtafgknkcjohjeaaGreatDoorRyPe
import Derived.Test.YtafgknkcjohjeaaGreatDoorRwDe
import Derived.Test.YtafgknkcjohjeaaGreatDoorRcWordse
import Derived.Deep.Cut
import Derived.Deep.CutRange
import Derived.BigQuiet
namespace Go.Proofs.YtafgknkcjohjeaaGreatDoor
open Go Go.RowKit
set_option maxHeartbeats 8000000
set_option maxRecDepth 100000
theorem without_succ {xs:List PEntry} {t:ByteArray} {k:Nat} (h:k < xs.length):withoutE (xs.take (k+1)) t=if xs[k].word=t then withoutE (xs.take k) t else withoutE (xs.take k) t++[xs[k]]:=by
 rw [withoutE,List.take_succ_eq_append_getElem h,List.filter_append,← withoutE]
 split
 · rename_i e; rw [List.filter_cons_of_neg (by simp [e])]; simp
 · rename_i e; rw [List.filter_cons_of_pos (by simp [e])]; rfl
theorem without_len (xs:List PEntry) (t:ByteArray):(withoutE xs t).length≤xs.length:=List.length_filter_le _ _
theorem spec_l16Without_c {o:Bool} {en:TypeId} {xs:List PEntry} {A:Option Addr} {c g f:Nat} {F:List Nat} {t:ByteArray} (w:World) (gl:g < w.heap.size) (cx:w.cell? ⟨g,f,none⟩=some (.slice A xs.length c)) (h:(pEntrys en).rep o w xs [.slice A xs.length c] F) (hx:xs.length≤1000) :
 Calls Tryz.prog 64 #[.pointer (some ⟨g,f,none⟩),.string t] w (GivesO (pEntrys 138) (withoutE xs t) w):=by
 have HX:=Lib.hid (fun (w':World) (b:Below w.heap.size w w')=>(b.cell (p:=⟨g,f,none⟩) gl).trans cx);have H:=Lib.hid h;have HOK:=Lib.hid (pEntrys_ok h);have b0:Below w.heap.size w (w.alloc (.cells #[] 138)):=(Below.refl _ _).alloc (Nat.le_refl _) _;have e0:=empty_is pEntry 138 w;clear h cx
 go_enter Tryz.func64,Tryz.ntmps64
 go_upto_region 3 with fail
 generalize hw0:w.alloc (.cells #[] 138)=w0 at b0 e0 ⊢;have hl0:w.heap.size < w0.heap.size:=by rw [← hw0]; simp
 clear hw0;have B0:=Lib.hid b0;have E0:=Lib.hid e0;clear b0 e0
 go_loopw [5,6] (fun l i wr=>∃ (k:Nat) (u:Value) (G:List Nat),l=u∧i=.int .i64 k∧k≤xs.length∧Hid ((pEntry.slice 138).rep true wr (withoutE (xs.take k) t) [u] G∧Fresh w.heap.size G∧Below w.heap.size w wr)) (fun _ i _=>xs.length - (intOf i).toNat)
 case atStart=>exact ⟨0,_,[w.heap.size],rfl,rfl,by omega,Lib.hid ⟨E0.out,⟨by simp,by simp⟩,B0.out⟩⟩
 case round =>
  obtain ⟨k,u,G,rfl,rfl,hk,all⟩:=hrel;have ALL:=Lib.hid all.out;clear all;obtain ⟨U,un,uc,rfl⟩:=slice_form ALL.out.1;have x0:=HX.out wr ALL.out.2.2
  by_cases hlt:k < xs.length
  · have gk:(k:Int) < (xs.length:Int):=by omega
    have gk0:(0:Int)≤(k:Int):=by omega
    have kw:=IntWalk.i64_in ((k:Int)+1) (by omega);obtain ⟨A',c',he,-,-,hr⟩:=pEntrys_open (H.out.below ALL.out.2.2);cases he;obtain ⟨be,oe,rfl,hbe,-,c0,c1,-⟩:=hr k hlt;have HS:=Lib.hid (without_succ (t:=t) hlt);have hok:=HOK.out _ (List.getElem_mem hlt);have HL:=Lib.hid (show (withoutE (xs.take k) t).length≤1000 from Nat.le_trans (without_len _ _) (by rw [List.length_take]; omega));generalize xs[k]=e at c0 c1 HS hok;have HO:=Lib.hid (show ∀ s∈[e],pEntryOk s from by intro s hs; simp only [List.mem_singleton] at hs; subst hs; exact hok);clear hr hok
    by_cases he:e.word=t
    · obtain ⟨q1,q2⟩:=str_eqB he
      have HN:=Lib.hid (HS.out.trans (if_pos he))
      go_wp2_with fail
      exact ⟨⟨k+1,_,G,rfl,by go_num,by omega,Lib.hid ⟨by rw [HN.out]; exact ALL.out.1,ALL.out.2.1,ALL.out.2.2⟩⟩,by simp [intOf]; omega⟩
    · obtain ⟨q1,q2⟩:=str_neB he
      have HN:=Lib.hid (HS.out.trans (if_neg he));clear he
      go_wp2_with (at_builtin; refine wpList_append_repX (T:=pEntry) (e:=138) (ys:=[e]) (ec:=[.string e.word,.int .i64 e.cost]) rfl (.tmp 27) (.tmp 35) rfl Tryz.underlying31 Tryz.infoEntry rfl (by decide) rfl (ALL.out.1.alloc _) rfl (repL_pEntry [e] HO.out) (cellsAt_new _ _ _) trivial (by rw [List.append_nil]; exact ALL.out.2.1.1) (by have:=HL.out; simp only [List.length_singleton,maxLen]; omega) (by have:=HL.out; simp only [List.length_singleton]; omega) ?_; intro v6 w8 F6 r6 o6 f6 x6; obtain ⟨V6,n6,c6,rfl⟩:=slice_form r6)
      have hz:=ALL.out.2.2.size;have HB6:=(ALL.out.2.2.alloc hz (.cells #[.string e.word,.int .i64 e.cost] 138)).trans (o6.below (B:=w.heap.size) (by simp only [World.size_alloc]; omega) ALL.out.2.1.2);have f6':=f6 w.heap.size (by rw [List.append_nil]; exact ALL.out.2.1) (by simp only [World.size_alloc]; omega);exact ⟨⟨k+1,_,F6,rfl,by go_num,by omega,Lib.hid ⟨by rw [HN.out]; exact r6,f6',HB6⟩⟩,by simp [intOf]; omega⟩
  · obtain rfl:k=xs.length:=by omega
    have gk:¬ (xs.length:Int) < (xs.length:Int):=by omega
    go_wp2_with fail
    go_ret;exact ⟨_,G,rfl,by have:=ALL.out.1; rwa [List.take_length] at this,ALL.out.2.1,ALL.out.2.2⟩
theorem repL_swap {α:Type} {T T':Ty α} {o:Bool} {w:World} (hr:∀ a cs F,T.rep o w a cs F→T'.rep o w a cs F):∀ {xs:List α} {cs:List Value} {F:List Nat},repL T o w xs cs F→repL T' o w xs cs F
 | [],_,_,h=>h
 | _ :: _,_,_,⟨c1,c2,F1,F2,e1,e2,h1,h2⟩=>⟨c1,c2,F1,F2,e1,e2,hr _ _ _ h1,repL_swap hr h2⟩
theorem slice_swap {α:Type} {T T':Ty α} {o:Bool} {w:World} {e:TypeId} {xs:List α} {v:List Value} {F:List Nat} (hs:T.size=T'.size) (hr:∀ a cs F,T.rep o w a cs F→T'.rep o w a cs F) (h:(T.slice e).rep o w xs v F):(T'.slice e).rep o w xs v F:=by
 obtain ⟨A,c,ec,F0,F1,h1,h2,h3,h4,h5,h6,h7,h8⟩:=h;exact ⟨A,c,ec,F0,F1,h1,h2,h3,h4,repL_swap hr h5,h6,h7,by rw [← hs]; exact h8⟩
def pEntryF:Ty PEntry:=.flat 2 (fun e=>[.string e.word,.int .i64 e.cost]) (fun e=>e.word.size≤maxLen∧I64 e.cost) (fun _=>rfl) (by intro a u h; simp at h; rcases h with rfl | rfl <;> rfl)
theorem entry_flat {o:Bool} {w:World} {a:PEntry} {cs:List Value} {F:List Nat}:pEntry.rep o w a cs F↔pEntryF.rep o w a cs F:=pEntry_rep
theorem entrys_flat {o:Bool} {w:World} {e:TypeId} {xs:List PEntry} {v:List Value} {F:List Nat} (h:(pEntrys e).rep o w xs v F):(pEntryF.slice e).rep o w xs v F:=slice_swap (T:=pEntry) rfl (fun _ _ _=>entry_flat.1) h
theorem entrys_back {o:Bool} {w:World} {e:TypeId} {xs:List PEntry} {v:List Value} {F:List Nat} (h:(pEntryF.slice e).rep o w xs v F):(pEntrys e).rep o w xs v F:=slice_swap (T:=pEntryF) (T':=pEntry) rfl (fun _ _ _=>entry_flat.2) h
theorem infoEntryF:(Tryz.prog.info? 138).map (fun i=>(i.zero,i.size,i.bytes))=some (some (.agg #[.string .empty,.int .i64 0]),pEntryF.size,24):=by kernel_rfl
def putAt (ys:List PEntry) (h:PEntry) (k:Nat):List PEntry:=ys.take k++h :: ys.drop k
def PutEnt (ys:List PEntry) (h:PEntry) (w:World) (e:Ending) (w':World):Prop:=∃ u F' k,e=.returned u∧k≤ys.length∧(∀ i,k≤i→i < ys.length→bLess h.word (entAt ys i).word=true)∧(k=0∨¬ bLess h.word (entAt ys (k - 1)).word=true)∧(pEntrys 138).rep true w' (putAt ys h k) [u] F'∧Fresh w.heap.size F'∧Below w.heap.size w w'
theorem spec_l16Put_c {en:TypeId} {ys:List PEntry} {h:PEntry} {v:Value} {F:List Nat} (w:World) (r0:(pEntrys en).rep true w ys [v] F) (hx:ys.length≤1000) (hok:h.word.size≤maxLen∧I64 h.cost) :
 Calls Tryz.prog 63 #[v,.agg #[.string h.word,.int .i64 h.cost]] w (PutEnt ys h w):=by
 have r:=entrys_flat r0;obtain ⟨A,c,rfl,hc1,hc2,-⟩:=pEntrys_open r0;have R:=Lib.hid r;have RE:=Lib.hid r0;have R0:=Row.new w 138 #[.string h.word,.int .i64 h.cost];have b0:Below w.heap.size w (w.alloc (.cells #[.string h.word,.int .i64 h.cost] 138)):=(Below.refl _ _).alloc (Nat.le_refl _) _;have l0:w.heap.size < (w.alloc (.cells #[.string h.word,.int .i64 h.cost] 138)).heap.size:=by simp
 have OK:=Lib.hid hok;clear r r0 hok
 go_enter Tryz.func63,Tryz.ntmps63
 go_upto_region 1 with fail
 generalize w.alloc (.cells #[.string h.word,.int .i64 h.cost] 138)=w0 at R0 b0 l0 ⊢;have HR0:=Lib.hid R0;have B0:=Lib.hid b0;clear R0 b0
 go_upto_block 0 with fail
 go_cut [5] from 9 to 23 (fun s wx=>∃ k:Nat,s=.int .i64 k∧k≤ys.length∧(∀ i,k≤i→i < ys.length→bLess h.word (entAt ys i).word=true)∧(k=0∨¬ bLess h.word (entAt ys (k - 1)).word=true)∧Below w0.heap.size w0 wx)
 case first =>
  go_wp2_with fail
  go_loopw [5] (fun s wr=>∃ k:Nat,s=.int .i64 k∧k≤ys.length∧Hid ((∀ i,k≤i→i < ys.length→bLess h.word (entAt ys i).word=true)∧Below w0.heap.size w0 wr)) (fun s _=>(intOf s).toNat)
  case atStart=>exact ⟨ys.length,rfl,Nat.le_refl _,Lib.hid ⟨fun i h1 h2=>by omega,Below.refl _ _⟩⟩
  case round =>
   obtain ⟨k,rfl,hk,all⟩:=hrel;have ALL:=Lib.hid all.out;clear all;cases k with
   | zero =>
     have z0:decide ((0:Int) < 0)=false:=rfl;have z1:decide (0 < 0)=false:=rfl;have z2:(((0:Nat):Int))=0:=rfl;rw [z2]
     go_upto_region 2 with fail
     go_quiet (fail)
     obtain ⟨m9,rfl⟩:∃ n:Nat,n=nq:=⟨_,rfl⟩
     go_wp2_with fail
     go_meet
     case rel=>exact ⟨0,rfl,Nat.zero_le _,ALL.out.1,.inl rfl,below_drewN ALL.out.2 m9⟩
   | succ k1 =>
     obtain ⟨A2,c2,he,-,-,hry⟩:=pEntrys_open (RE.out.below (B0.out.trans (ALL.out.2.mono B0.out.size)));cases he;have hk':k1 < ys.length:=hk;obtain ⟨g,off,rfl,hg,-,c0,c1,-⟩:=hry k1 hk';have HYK:=Lib.hid (entAt_get hk');rw [← HYK.out] at c0 c1;generalize hyy:entAt ys k1=y at c0 c1;have HYY:=Lib.hid hyy;have rx:=HR0.out.later ALL.out.2;have d0:=rx.c0;have HK1:=Lib.hid hk';have gk0:(0:Int)≤(k1:Int):=by omega
     have gk1:(k1:Int) < (ys.length:Int):=by omega
     have gk2:(0:Int) < ((k1+1:Nat):Int):=by omega
     have km:IntKind.i64.wrap (((k1+1:Nat):Int) - 1)=(k1:Int):=(IntWalk.i64_in _ (by omega)).trans (by omega);generalize hkk:((k1+1:Nat):Int)=kk at gk2 km ⊢;have HKK:=Lib.hid hkk;have gk3:decide (0 < kk)=true:=decide_eq_true gk2;clear hry rx hk hg hkk hyy c1;cases hq:bLess h.word y.word
     · have HQ:=Lib.hid hq
       have hor:bLess y.word h.word=true∨y.word=h.word:=by
        cases h2:bLess y.word h.word with
        | true=>exact .inl rfl
        | false=>exact .inr (bLess_sto.tot _ _ h2 hq)
       rcases hor with h2 | h2
       · have q1:Op.bytesLess y.word.toList h.word.toList=true:=h2
         clear h2
         go_upto_region 2 with fail
         go_quiet (fail)
         obtain ⟨m9,rfl⟩:∃ n:Nat,n=nq:=⟨_,rfl⟩
         go_wp2_with fail
         go_meet
         case rel=>exact ⟨k1+1,by rw [HKK.out],HK1.out,ALL.out.1,.inr (by rw [Nat.add_sub_cancel,HYY.out,HQ.out]; decide),below_drewN ALL.out.2 m9⟩
       · obtain ⟨q2,q3⟩:=str_eqB h2
         have q1:Op.bytesLess y.word.toList h.word.toList=false:=by rw [h2]; exact bLess_sto.irr h.word
         clear h2
         go_upto_region 2 with fail
         go_quiet (fail)
         obtain ⟨m9,rfl⟩:∃ n:Nat,n=nq:=⟨_,rfl⟩
         go_wp2_with fail
         go_meet
         case rel=>exact ⟨k1+1,by rw [HKK.out],HK1.out,ALL.out.1,.inr (by rw [Nat.add_sub_cancel,HYY.out,HQ.out]; decide),below_drewN ALL.out.2 m9⟩
     · have q1:Op.bytesLess y.word.toList h.word.toList=false:=by
        cases h2:bLess y.word h.word with
        | false=>exact h2
        | true =>
          have:=bLess_sto.tr _ _ _ h2 hq;rw [bLess_sto.irr] at this; cases this
       obtain ⟨q2,q3⟩:=str_neB (a:=y.word) (b:=h.word) (fun e=>by rw [e,bLess_sto.irr] at hq; cases hq);have HQ:=Lib.hid hq;clear hq
       go_upto_region 2 with fail
       go_quiet (fail)
       obtain ⟨m9,rfl⟩:∃ n:Nat,n=nq:=⟨_,rfl⟩
       go_wp2_with fail
       refine ⟨⟨k1,by first | rfl | go_num,Nat.le_of_lt HK1.out,Lib.hid ⟨fun i h1 h2=>?_,below_drewN ALL.out.2 m9⟩⟩,?_⟩
       · by_cases e:i=k1
         · subst e; rw [HYY.out]; exact HQ.out
         · exact ALL.out.1 i (by omega) h2
       · simp [intOf]; have:=HKK.out; omega
 case rest =>
  obtain ⟨wp,hwp⟩:∃ W,W=wc:=⟨_,rfl⟩
  subst hwp;obtain ⟨k,rfl,hk,hafter,hbefore,bp⟩:=hcut;have REP2:=Lib.hid (R.out.below (B0.out.trans (bp.mono B0.out.size)));have HINS:=Lib.hid (show ys.take k++h :: ys.drop k=putAt ys h k from rfl);have HAF:=Lib.hid hafter;have HBE:=Lib.hid hbefore;have HB2:=Lib.hid (B0.out.trans (bp.mono B0.out.size));have rx:=HR0.out.later bp;have x0:=rx.c0;have x1:=rx.c1;have hl0:w.heap.size < wp.heap.size:=rx.lt;have hl1:=hl0;have gk0:(0:Int)≤(k:Int):=by omega
  have gk1:(k:Int)≤(ys.length:Int):=by omega
  have HK:=Lib.hid hk;clear hafter hbefore bp rx hk;have hyok:=flat_ok REP2.out;have HOKT:=Lib.hid (fun z (hz:z∈ys.take k)=>hyok z (List.mem_of_mem_take hz));have HOKD:=Lib.hid (fun z (hz:z∈ys.drop k)=>hyok z (List.mem_of_mem_drop hz));have HNT:=Lib.hid (show (ys.take k).length=k by rw [List.length_take]; have:=HK.out; omega);have HND:=Lib.hid (show (ys.drop k).length=ys.length - k by rw [List.length_drop]);clear hyok;rcases flat_parts REP2.out HK.out with ⟨hv,hyn⟩ | ⟨g,cc,AD,hv,h1,h2,hF,hg,ht,hif,hd⟩
  case' inl =>
   have hk0:k=0:=by have:=HK.out; rw [hyn] at this; simpa using this
   simp only [Value.slice.injEq] at hv;obtain ⟨rfl,hv2,rfl⟩:=hv;have ht:CellsAt wp none ((ys.take k).flatMap (fun e:PEntry=>[Value.string e.word,.int .i64 e.cost])):=fun h0=>by rw [hyn] at h0; simp at h0
   have hd:CellsAt wp none ((ys.drop k).flatMap (fun e:PEntry=>[Value.string e.word,.int .i64 e.cost])):=fun h0=>by rw [hyn] at h0; simp at h0
   have HLT:=Lib.hid (show ∀ a:Addr,(none:Option Addr)=some a→a.block < wp.heap.size by intro a h; cases h);have HLD:=HLT;clear hyn
  case' inr =>
   cases hv;have HLT:=Lib.hid (show ∀ a:Addr,(some ⟨g,0,none⟩:Option Addr)=some a→a.block < wp.heap.size by intro a h; cases h; exact hg)
   have HLD:=Lib.hid (show ∀ a:Addr,(some AD:Option Addr)=some a→a.block < wp.heap.size by
    intro a h
    split at hif
    · cases hif; cases h; exact hg
    · cases hif; cases h; exact hg)
  all_goals
   have HT:=Lib.hid ht;have HD:=Lib.hid hd;clear ht hd
   go_upto_region 5 with (at_builtin; refine wpList_append_repX (T:=pEntryF) (e:=138) (ys:=ys.take k) (ec:=(ys.take k).flatMap (fun e:PEntry=>[Value.string e.word,.int .i64 e.cost])) rfl (.tmp 24) (.tmp 27) rfl Tryz.underlying31 infoEntryF rfl (by decide) rfl (empty_is pEntryF _ _) (by first | (rw [HNT.out]; rfl) | (rw [HNT.out,hk0]; rfl)) (flat_repL _ HOKT.out) (cellsAt_later HT.out HLT.out ((Below.refl _ _).alloc (Nat.le_refl _) _)) trivial (by simp) (by rw [HNT.out]; simp only [List.length_nil,maxLen]; omega) (by rw [HNT.out]; simp only [List.length_nil]; omega) ?_; intro v2 w2 F2 r2 o2 f2 x2)
   have b2:=((Below.refl wp.heap.size wp).alloc (Nat.le_refl _) (.cells #[] 138)).trans (o2.below (B:=wp.heap.size) (by simp) (by simp));have fr2:=f2 wp.heap.size ⟨by simp,by simp⟩ (by simp);have R2:=Lib.hid r2;have FR2:=Lib.hid fr2;have B2:=Lib.hid b2;obtain ⟨V2,n2,c2,rfl⟩:=slice_form r2;clear r2 o2 f2 x2 fr2;replace x0:=(b2.cell (p:=⟨w.heap.size,0,none⟩) hl0).trans x0; replace x1:=(b2.cell (p:=⟨w.heap.size,1,none⟩) hl0).trans x1
   clear b2
   go_upto_region 6 with (at_builtin; refine wpList_append_repX (T:=pEntryF) (e:=138) (ys:=[h]) (ec:=[.string h.word,.int .i64 h.cost]) rfl (.tmp 29) (.tmp 31) rfl Tryz.underlying31 infoEntryF rfl (by decide) rfl (R2.out.alloc _) rfl (flat_repL _ (by intro z hz; simp only [List.mem_singleton] at hz; subst hz; exact OK.out)) (cellsAt_new _ _ _) trivial (by rw [List.append_nil]; exact FR2.out.1) (by simp only [List.nil_append,HNT.out,List.length_singleton,maxLen]; omega) (by simp only [List.nil_append,HNT.out,List.length_singleton]; omega) ?_; intro v3 w3 F3 r3 o3 f3 x3)
   have hz2:=B2.out.size;have b3:=(B2.out.alloc hz2 (.cells [.string h.word,.int .i64 h.cost].toArray 138)).trans (o3.below (B:=wp.heap.size) (by simp only [World.size_alloc]; omega) FR2.out.2);have fr3:=f3 wp.heap.size (by rw [List.append_nil]; exact FR2.out) (by simp only [World.size_alloc]; omega);have R3:=Lib.hid r3;have FR3:=Lib.hid fr3;have B3:=Lib.hid b3;obtain ⟨V3,n3,c3,rfl⟩:=slice_form r3;clear r3 o3 f3 x3 fr3 b3
   go_wp2_with (at_builtin; refine wpList_append_repX (T:=pEntryF) (e:=138) (ys:=ys.drop k) (ec:=(ys.drop k).flatMap (fun e:PEntry=>[Value.string e.word,.int .i64 e.cost])) rfl (.tmp 33) (.tmp 36) rfl Tryz.underlying31 infoEntryF rfl (by decide) rfl R3.out (by first | (rw [HND.out]; rfl) | (rw [HND.out,hv2,hk0]; rfl)) (flat_repL _ HOKD.out) (cellsAt_later HD.out HLD.out B3.out) trivial (by rw [List.append_nil]; exact FR3.out.1) (by rw [HND.out]; simp only [List.nil_append,List.length_append,HNT.out,List.length_singleton,maxLen]; omega) (by rw [HND.out]; simp only [List.nil_append,List.length_append,HNT.out,List.length_singleton]; omega) ?_; intro v4 w4 F4 r4 o4 f4 x4)
   have hz3:=B3.out.size;have b4:=B3.out.trans (o4.below (B:=wp.heap.size) hz3 FR3.out.2);have fr4:=f4 wp.heap.size (by rw [List.append_nil]; exact FR3.out) hz3;have e4:[]++ys.take k++[h]++ys.drop k=ys.take k++h :: ys.drop k:=by simp
   rw [e4,HINS.out] at r4;clear x0 x1;go_ret;refine ⟨_,F4,k,rfl,HK.out,HAF.out,HBE.out,entrys_back r4,fr4.mono (Nat.le_of_lt hl1),?_⟩;exact (HB2.out.trans (b4.mono HB2.out.size)).mono (Nat.le_refl _)
end Go.Proofs.YtafgknkcjohjeaaGreatDoor

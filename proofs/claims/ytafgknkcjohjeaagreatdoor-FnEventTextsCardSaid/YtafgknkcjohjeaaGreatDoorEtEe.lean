/- A lexicon is drawn, in the reference. Conditions: none. -/
import Derived.Test.YtafgknkcjohjeaaGreatDoorTke
import Derived.Test.YtafgknkcjohjeaaGreatDoorCmpe
import Derived.Test.YtafgknkcjohjeaaGreatDoorRyPe
import Derived.Test.YtafgknkcjohjeaaGreatDoorInkGe
import Derived.Test.YtafgknkcjohjeaaGreatDoorRcRead2e
import Derived.Test.YtafgknkcjohjeaaGreatDoorRwLe
import Derived.Deep.Cut
import Derived.Deep.CutRange
namespace Go.Proofs.YtafgknkcjohjeaaGreatDoor
open Go Go.RowKit
set_option maxHeartbeats 8000000
set_option maxRecDepth 100000
theorem only_setE {F:List Nat} {a b:World} (h:Only F a b) {p:Addr} (hp:a.heap.size≤p.block) (u:Value):Only F a (b.setCell p u) :=
 ⟨h.os,h.tape,h.output,by rw [World.size_setCell]; exact h.size,fun k hk hn=>(Below.heap_setCell b p u k (by omega)).trans (h.block k hk hn)⟩
theorem lexWords_word:∀ s∈lexWords,isWordB s=true:=by decide +kernel
def DrawsLex (B g:Nat) (code:List UInt8) (m most:Nat) (w:World) (e:Ending) (w':World):Prop:=∃ xs u F,e=.returned (.agg #[u])∧LexP xs∧xs.length≤most∧(pEntrys 138).rep true w' xs [u] F∧Fresh w.heap.size F∧SrcIs B g code m w'∧Only [g] w w'
theorem spec_l16Draw_c {B g m most:Nat} {code:List UInt8} (w:World) (h:SrcIs B g code m w) (hB:B≤w.heap.size) (hm:m≤900000) (hM:most≤60) :
 Calls Tryz.prog 47 #[.pointer (some ⟨g,0,none⟩),.int .i64 (most:Int)] w (DrawsLex B g code (m+1+2 * most) most w):=by
 have lg:=h.low;have R0:=(Row.new w 33 #[.slice none 0 0]).alloc (.cells #[.slice none 0 0] 33);have R1:=Row.new (w.alloc (.cells #[.slice none 0 0] 33)) 33 #[.slice none 0 0];have b0:Below w.heap.size w ((w.alloc (.cells #[.slice none 0 0] 33)).alloc (.cells #[.slice none 0 0] 33)):=((Below.refl _ _).alloc (Nat.le_refl _) _).alloc (by simp) _;rw [World.size_alloc] at R1;have S0:=h.below b0;have zm:=IntWalk.i64_in ((most:Int)+1) (by omega);clear h
 go_enter Tryz.func47,Tryz.ntmps47
 go_upto_region 2 with fail
 generalize (w.alloc (.cells #[.slice none 0 0] 33)).alloc (.cells #[.slice none 0 0] 33)=w0 at R0 R1 b0 S0 ⊢;have C1:=Lib.hid (src_pick_c w0 S0 (by omega) ((most:Int)+1) (by omega));have HR0:=Lib.hid R0;have HR1:=Lib.hid R1;have B0:=Lib.hid b0;have l1:w.heap.size+1 < w0.heap.size:=R1.lt;clear R0 R1 b0 S0
 go_wp2_with fail
 refine C1.out.mono ?_;rintro e w1 ⟨⟨r,r0,r1,rfl⟩,S1,O1⟩;obtain ⟨k0,rfl⟩:=Int.eq_ofNat_of_zero_le r0;have hk0:k0≤most:=by omega
 replace HR0:=Lib.hid (HR0.out.onl O1 (by simp only [List.mem_singleton]; omega));replace HR1:=Lib.hid (HR1.out.onl O1 (by simp only [List.mem_singleton]; omega));have HS1:=Lib.hid S1;have HO1:=Lib.hid (show Only [g] w w1 from (Only.of_below B0.out).trans O1);clear r0 r1 S1 O1 C1
 go_wp2_with fail
 go_loopw [6] (fun i wr=>∃ (k j:Nat) (xs:List PEntry) (u:Value) (G:List Nat),i=.int .i64 (k:Int)∧j+k=k0∧Hid (LexP xs∧xs.length≤j∧Row wr (w.heap.size+1) 33 [u]∧Row wr w.heap.size 33 [.slice none 0 0]∧(pEntrys 138).rep true wr xs [u] G∧Fresh (w.heap.size+2) G∧SrcIs B g code (m+1+2 * j) wr∧Only [g] w wr)) (fun i _=>(intOf i).toNat)
 case atStart=>exact ⟨k0,0,[],_,[],rfl,by omega,Lib.hid ⟨LexP.nil,by simp,HR1.out,HR0.out,slice_nil _ _ _ _,⟨by simp,by simp⟩,HS1.out,HO1.out⟩⟩
 case round =>
  obtain ⟨k,j,xs,u,G,rfl,hjk,all⟩:=hrel;have ALL:=Lib.hid all.out;clear all;cases k with
  | zero =>
    have z0:decide ((0:Int) < 0)=false:=rfl;obtain ⟨hL,hlen,rO,rT,rep,fr,src,onl⟩:=ALL.out;obtain ⟨U,un,uc,rfl⟩:=slice_form rep;have y0:=rO.c0;have v0:=rT.c0;have vF:=rT.frozen;have e0:=(rT.set 0 (.slice U un uc)).c0;have hne:w.heap.size∉G:=fun hin=>by have:=fr.2 _ hin; omega
    have RES:=Lib.hid (Ty.rep.setCell (T:=pEntrys 138) rep (p:=⟨w.heap.size,0,none⟩) hne (.slice U un uc));have SRC:=Lib.hid ((src.only ((Only.refl [w.heap.size] wr).set (p:=⟨w.heap.size,0,none⟩) (by simp) (.slice U un uc)) (by simpa using hB)).more (show m+1+2 * j≤m+1+2 * most by omega));have ONL:=Lib.hid (only_setE onl (p:=⟨w.heap.size,0,none⟩) (Nat.le_refl _) (.slice U un uc));have FRR:=Lib.hid (fr.mono (show w.heap.size≤w.heap.size+2 by omega));have HL:=Lib.hid hL;clear hL rO rT rep fr src onl hne ALL
    go_wp2_with fail
    refine bodyPost_ret (v:=.agg #[.slice U un uc]) (by simp only [results,Tryz.results47]; go_simp) rfl ?_;exact ⟨xs,_,G,rfl,HL.out,by omega,RES.out,FRR.out,SRC.out,ONL.out⟩
  | succ k1 =>
    have gk2:(0:Int) < ((k1+1:Nat):Int):=by omega
    have km:IntKind.i64.wrap (((k1+1:Nat):Int) - 1)=(k1:Int):=(IntWalk.i64_in _ (by omega)).trans (by omega);generalize hkk:((k1+1:Nat):Int)=kk at gk2 km ⊢;have gk3:decide (0 < kk)=true:=decide_eq_true gk2;have CW:=Lib.hid (spec_l16Words_c wr);have HKK:=Lib.hid hkk;clear hkk
    go_wp2_with fail
    refine CW.out.mono ?_;rintro e w2 ⟨rfl,rfl⟩;obtain ⟨hL,hlen,rO,rT,rep,fr,src,onl⟩:=ALL.out;have bW:Below wr.heap.size wr (wr.alloc (.cells (lexWords.map Value.string).toArray 9)):=(Below.refl _ _).alloc (Nat.le_refl _) _;have LW:=lexWords_at wr;have hgw:g∉[wr.heap.size]:=by have:=onl.size; simp only [List.mem_singleton]; omega
    have CT:=Lib.hid (src_text_c _ (src.below bW) (by omega) LW hgw (by decide) (by decide));clear LW CW ALL;replace rO:=rO.later bW;replace rT:=rT.later bW;replace rep:=rep.below bW;replace onl:=onl.trans (Only.of_below bW)
    go_wp2_with fail
    refine CT.out.mono ?_;rintro e w3 ⟨⟨t,ht,rfl⟩,S3,O3⟩;clear CT hgw src;replace rO:=rO.onl O3 (by simp only [List.mem_singleton]; omega);replace rT:=rT.onl O3 (by simp only [List.mem_singleton]; omega);replace rep:=rep.only O3 (fun z hz hin=>by simp only [List.mem_singleton] at hin; have:=fr.2 z hz; omega);replace onl:=onl.trans O3;have CP:=Lib.hid (src_pick_c w3 S3 (by omega) 30 (by omega));clear S3 O3 bW
    go_wp2_with fail
    refine CP.out.mono ?_;rintro e w4 ⟨⟨cv,cv0,cv1,rfl⟩,S4,O4⟩;clear CP;replace rO:=rO.onl O4 (by simp only [List.mem_singleton]; omega);replace rT:=rT.onl O4 (by simp only [List.mem_singleton]; omega);replace rep:=rep.only O4 (fun z hz hin=>by simp only [List.mem_singleton] at hin; have:=fr.2 z hz; omega);replace onl:=onl.trans O4;have RE:=Row.new w4 138 #[.string t,.int .i64 cv];have bE:Below w4.heap.size w4 (w4.alloc (.cells #[.string t,.int .i64 cv] 138)):=(Below.refl _ _).alloc (Nat.le_refl _) _
    go_upto_region 6 with fail
    generalize w4.alloc (.cells #[.string t,.int .i64 cv] 138)=w5 at RE bE ⊢;have BZ:=Lib.hid ((Below.refl w5.heap.size w5).drew);have HRE:=Lib.hid RE;have HRO:=Lib.hid (rO.later bE);have HRT:=Lib.hid (rT.later bE);have HRP:=Lib.hid (rep.below bE);have HSR:=Lib.hid (S4.below bE);have HON:=Lib.hid (onl.trans (Only.of_below bE));have HL:=Lib.hid hL;have HFR:=Lib.hid fr;have hO5:w.heap.size+1 < w5.heap.size:=HRO.out.lt;have hgE:=HRE.out.lt;have hOE:w.heap.size+1 < w4.heap.size:=rO.lt;clear RE bE rO rT rep S4 O4 onl hL fr;generalize w4.heap.size=gE at HRE hgE hOE ⊢
    have HSX:=Lib.hid (fun (w':World) (b:Only [w.heap.size+1] w5 w')=>show (fun w':World=>w'.cell? ⟨gE,0,none⟩=some (.string t)∧w'.cell? ⟨gE,1,none⟩=some (.int .i64 cv)) w' from by
     have:=HRE.out.onl b (by simp only [List.mem_singleton]; omega);exact ⟨this.c0,this.c1⟩)
    have hS:=HSX.out _ (Only.of_below BZ.out);refine wp_region_held_drew (S:=(fun w':World=>w'.cell? ⟨gE,0,none⟩=some (.string t)∧w'.cell? ⟨gE,1,none⟩=some (.int .i64 cv))) (by kernel_rfl) hS (fun _=>?_);generalize w5.drew=we at BZ hS ⊢;refine tJ 0 hS ?_;refine tJ 1 hS ?_;refine tJ 3 hS ?_;obtain ⟨U,uc,rfl⟩:=slice_len HRP.out;have CWO:=Lib.hid (spec_l16Without_c (t:=t) we (Nat.lt_of_lt_of_le hO5 BZ.out.size) (HRO.out.later BZ.out).c0 (HRP.out.below BZ.out) (by omega));refine rJ 2 fun K hK=>?_
    refine step_call 64 #[.tmp 5,.tmp 24] _ rfl rfl #[.pointer (some ⟨w.heap.size+1,0,none⟩),.string t] Tryz.call64 (by go_simp) CWO.out ?_;rintro en w6 ⟨u6,G6,rfl,r6,f6,b6⟩;refine ⟨_,rfl,?_⟩;have hl6:=without_len xs t;have hts:=lexWords_small t ht;replace BZ:=Lib.hid (BZ.out.trans (b6.mono BZ.out.size));replace hS:=HSX.out _ (Only.of_below BZ.out);have CPU:=Lib.hid (spec_l16Put_c (h:=⟨t,cv⟩) w6 r6 (by omega) ⟨by show t.size≤maxLen; unfold maxLen; omega,by show I64 cv; exact ⟨by omega,by omega⟩⟩);clear b6 CWO;refine bJ hK hS ?_;clear hK K;simp only [Act.put,pA,pB,pC];refine rJ 4 fun K hK=>?_
    refine step_call 63 #[.tmp 25,.tmp 26] _ rfl rfl #[u6,.agg #[.string t,.int .i64 cv]] Tryz.call63 (by go_simp) CPU.out ?_;rintro en w7 ⟨u7,G7,kp,rfl,hk,haf,hbe,r7,f7,b7⟩;refine ⟨_,rfl,?_⟩;obtain ⟨U7,n7,c7,rfl⟩:=slice_form r7;have hz6:w5.heap.size≤w6.heap.size:=BZ.out.size;replace BZ:=Lib.hid (BZ.out.trans (b7.mono BZ.out.size));replace hS:=HSX.out _ (Only.of_below BZ.out);refine bJ hK hS ?_;clear hK K;simp only [Act.put,pA,pB,pC];refine tJ 5 hS ?_;have RO7:=HRO.out.later BZ.out;have v0:=RO7.c0;have vF:=RO7.frozen;refine rJ 6 fun K hK=>?_
    go_simp
    have hS7:=HSX.out _ ((Only.of_below BZ.out).set (p:=⟨w.heap.size+1,0,none⟩) (by simp) (.slice U7 n7 c7));refine bJ hK hS7 ?_;clear hK K v0 vF hS hS7;refine wpAnyH_done (by kernel_rfl) ?_ _;have hne:w.heap.size+1∉G7:=fun hin=>by have:=f7.2 _ hin; omega
    have RO8:=Lib.hid (RO7.set 0 (.slice U7 n7 c7));have RT8:=Lib.hid ((HRT.out.later BZ.out).far (p:=⟨w.heap.size+1,0,none⟩) (by show w.heap.size≠w.heap.size+1; omega) (.slice U7 n7 c7));have RP8:=Lib.hid (Ty.rep.setCell (T:=pEntrys 138) r7 (p:=⟨w.heap.size+1,0,none⟩) hne (.slice U7 n7 c7));have SR8:=Lib.hid (((HSR.out.below BZ.out).only ((Only.refl [w.heap.size+1] w7).set (p:=⟨w.heap.size+1,0,none⟩) (by simp) (.slice U7 n7 c7)) (by intro b hb; simp only [List.mem_singleton] at hb; omega)).more (show m+1+2 * j+1+1≤m+1+2 * (j+1) by omega));have ON8:=Lib.hid (only_setE (HON.out.trans (Only.of_below BZ.out)) (p:=⟨w.heap.size+1,0,none⟩) (by show w.heap.size≤w.heap.size+1; omega) (.slice U7 n7 c7))
    have LX:=Lib.hid (show LexP (putAt (withoutE xs t) ⟨t,cv⟩ kp) from by
     have:=(HL.out.without t).put (e:=⟨t,cv⟩) ⟨lexWords_word t ht,by show 0≤cv; omega,by show cv≤1000000; omega⟩ without_ne hk haf hbe
     simpa [putAt] using this)
    have LN:=Lib.hid (show (putAt (withoutE xs t) ⟨t,cv⟩ kp).length≤j+1 from by
     rw [putAt,List.length_append,List.length_cons,List.length_take,List.length_drop]; omega)
    have F8:=Lib.hid (f7.mono (show w.heap.size+2≤w6.heap.size by omega));clear RO7 r7 f7 b7 hne HSX
    go_wp2_with fail
    exact ⟨⟨k1,j+1,_,_,G7,by first | rfl | go_num,by omega,Lib.hid ⟨LX.out,LN.out,RO8.out,RT8.out,RP8.out,F8.out,SR8.out,ON8.out⟩⟩,by simp [intOf]; have:=HKK.out; omega⟩
structure DrawnS (s:PStroke) (t:Int):Prop where
 ok:ptsOk s s.length=true
 last:s.length=0∨(pt s (s.length - 1)).t < t
theorem DrawnS.nil (t:Int):DrawnS [] t:=⟨rfl,.inl rfl⟩
theorem DrawnS.snoc {s:PStroke} {x y t u:Int} (h:DrawnS s t) (hp:pointB ⟨x,y,t⟩=true) (hu:t < u):DrawnS (s++[⟨x,y,t⟩]) u:=by
 refine ⟨?_,.inr ?_⟩
 · rw [ptsOk_snoc,h.ok,hp]
   simp only [Bool.true_and];rcases h.last with h0 | h0
   · rw [decide_eq_true h0]; rfl
   · rw [decide_eq_true h0]; simp
 · rw [List.length_append,List.length_singleton,Nat.add_sub_cancel,pt_last]; exact hu
theorem DrawnS.stroke {s:PStroke} {t:Int} (h:DrawnS s t) (h1:1≤s.length) (h2:s.length≤60):strokeB s=true:=by
 rw [strokeB,h.ok,decide_eq_true h1,decide_eq_true h2]; rfl
def teaT:ByteArray:=⟨#[116,101,97]⟩
def fullK (k:Nat):List PStroke:=(List.range k).map fun (i:Nat)=>[⟨9 * (i:Int),5,(i:Int)⟩]
theorem fullK_succ (k:Nat):fullK (k+1)=fullK k++[[⟨9 * (k:Int),5,(k:Int)⟩]]:=by rw [fullK,List.range_succ,List.map_append]; rfl
theorem fullK_len (k:Nat):(fullK k).length=k:=by rw [fullK,List.length_map,List.length_range]
def longK (k:Nat):PStroke:=(List.range k).map fun (i:Nat)=>⟨10+(i:Int),50 - (i:Int) / 2,3 * (i:Int)⟩
theorem longK_succ (k:Nat):longK (k+1)=longK k++[⟨10+(k:Int),50 - (k:Int) / 2,3 * (k:Int)⟩]:=by rw [longK,List.range_succ,List.map_append]; rfl
theorem longK_len (k:Nat):(longK k).length=k:=by rw [longK,List.length_map,List.length_range]
theorem sess_tea {q:PSess} (h:sessB q=true) (hl:q.words.length < 60):sessB { q with words:=q.words++[teaT] }=true:=by
 obtain ⟨h1,h2,h3,h4,h5,h6,h7⟩:=sessB_parts h;refine sessB_of h1 h2 h3 h4 h5 ?_ ?_
 · show (q.words++[teaT]).all isWordB=true
   rw [List.all_append,h6]; decide
 · show (q.words++[teaT]).length≤60
   rw [List.length_append,List.length_singleton]; omega
theorem full_ok:inkB (fullK 16)=true:=by decide +kernel
theorem sess_full {q:PSess} (h:sessB q=true):sessB { q with strokes:=fullK 16,time:=100,opn:=[⟨1,1,90⟩] }=true:=by
 obtain ⟨h1,h2,h3,h4,h5,h6,h7⟩:=sessB_parts h;exact sessB_of h1 full_ok ⟨by show (0:Int)≤100; omega,by show (100:Int)≤3600000; omega⟩ (by show inkEndI (fullK 16)≤100; decide +kernel) (by show (decide (([⟨1,1,90⟩]:PStroke).length=0) || (strokeB [⟨1,1,90⟩] && (decide (inkEndI (fullK 16) < (pt [⟨1,1,90⟩] 0).t) && decide ((pt [⟨1,1,90⟩] (([⟨1,1,90⟩]:PStroke).length - 1)).t≤100))))=true; decide +kernel) h6 h7
theorem sess_long {q:PSess} (h:sessB q=true):sessB { q with strokes:=[],opn:=longK 60,time:=500 }=true:=by
 obtain ⟨h1,h2,h3,h4,h5,h6,h7⟩:=sessB_parts h;exact sessB_of h1 inkB_nil ⟨by show (0:Int)≤500; omega,by show (500:Int)≤3600000; omega⟩ (by show inkEndI []≤500; decide +kernel) (by show (decide ((longK 60).length=0) || (strokeB (longK 60) && (decide (inkEndI [] < (pt (longK 60) 0).t) && decide ((pt (longK 60) ((longK 60).length - 1)).t≤500))))=true; decide +kernel) h6 h7
theorem sess_start {p:PSetup} (h:setupB p=true):sessB ⟨p,[],[],0,[]⟩=true :=
 sessB_of h inkB_nil ⟨by show (0:Int)≤0; omega,by show (0:Int)≤3600000; omega⟩ (by show inkEndI []≤0; decide +kernel) rfl rfl (by show 0≤60; omega)
structure DrawnP (p:PSetup):Prop where
 temps:∀ t∈p.temps,tempB t=true
 few:p.temps.length≤40
 band:p.band=8
 set:(2≤p.points∧p.points≤24)∧(1≤p.most∧p.most≤8)∧(0≤p.pen∧p.pen≤1000)
 lex:LexP p.entries
 lexl:p.entries.length≤60
 mod:ModP p.bigrams
 modl:p.bigrams.length≤60
 dflt:0≤p.dflt∧p.dflt≤1000000
 pause:1≤p.pause∧p.pause≤60000
theorem DrawnP.setupB {p:PSetup} (h:DrawnP p):setupB p=true:=by
 rw [Go.Proofs.YtafgknkcjohjeaaGreatDoor.setupB,storeB,h.lex.lexB h.lexl,h.mod.modelB h.modl h.dflt,settingB,h.band,List.all_eq_true.2 h.temps];simp only [inR,decide_eq_true h.few,decide_eq_true h.set.1.1,decide_eq_true h.set.1.2,decide_eq_true h.set.2.1.1,decide_eq_true h.set.2.1.2,decide_eq_true h.set.2.2.1,decide_eq_true h.set.2.2.2,decide_eq_true h.pause.1,decide_eq_true h.pause.2]
 decide
def boxAllK (xs:List PStroke) (k:Nat):BoxZ:=(xs.take k).foldl (fun b s=>joinZ b (boxOfZ s)) (boxOfZ (strk xs 0))
theorem boxAllK_all (xs:List PStroke):boxAllK xs xs.length=boxAllZ xs:=by rw [boxAllK,List.take_length]; rfl
theorem boxAllK_one {xs:List PStroke} (h:1≤xs.length):boxAllK xs 1=boxOfZ (strk xs 0):=by
 cases xs with
 | nil=>simp at h
 | cons p r=>exact joinZ_self _
theorem boxAllK_succ {xs:List PStroke} {k:Nat} (h:k < xs.length):boxAllK xs (k+1)=joinZ (boxAllK xs k) (boxOfZ xs[k]):=by
 rw [boxAllK,boxAllK,List.take_succ_eq_append_getElem h,List.foldl_append];rfl
section
variable {w w0:World} {g g' o B:Nat} {e:TypeId} {cs:List Value} {a b c d:Value}
theorem Row.set4 (h:Row w g e [a,b,c,d]) (p q r s:Value):Row ((((w.setCell ⟨g,0,none⟩ p).setCell ⟨g,1,none⟩ q).setCell ⟨g,2,none⟩ r).setCell ⟨g,3,none⟩ s) g e [p,q,r,s]:=(((h.set 0 p).set 1 q).set 2 r).set 3 s
theorem Row.far4 (h:Row w g' e cs) (hg:g'≠g) (p q r s:Value):Row ((((w.setCell ⟨g,0,none⟩ p).setCell ⟨g,1,none⟩ q).setCell ⟨g,2,none⟩ r).setCell ⟨g,3,none⟩ s) g' e cs:=(((h.far (p:=⟨g,0,none⟩) hg p).far (p:=⟨g,1,none⟩) hg q).far (p:=⟨g,2,none⟩) hg r).far (p:=⟨g,3,none⟩) hg s
theorem below_set4 (h:Below B w0 w) (hg:B≤g) (p q r s:Value):Below B w0 ((((w.setCell ⟨g,0,none⟩ p).setCell ⟨g,1,none⟩ q).setCell ⟨g,2,none⟩ r).setCell ⟨g,3,none⟩ s):=(((h.setCell (p:=⟨g,0,none⟩) hg p).setCell (p:=⟨g,1,none⟩) hg q).setCell (p:=⟨g,2,none⟩) hg r).setCell (p:=⟨g,3,none⟩) hg s
theorem cell_far4 (hg:g'≠g) (p q r s:Value):((((w.setCell ⟨g,0,none⟩ p).setCell ⟨g,1,none⟩ q).setCell ⟨g,2,none⟩ r).setCell ⟨g,3,none⟩ s).cell? ⟨g',o,none⟩=w.cell? ⟨g',o,none⟩:=by
 refine World.cell?_of_block ?_;rw [Below.heap_setCell _ ⟨g,3,none⟩ _ _ hg,Below.heap_setCell _ ⟨g,2,none⟩ _ _ hg,Below.heap_setCell _ ⟨g,1,none⟩ _ _ hg,Below.heap_setCell _ ⟨g,0,none⟩ _ _ hg]
end
theorem strokeB_both {s:PStroke} (h:strokeB s=true):1≤s.length∧s.length≤60:=by
 simp only [strokeB,Bool.and_eq_true,decide_eq_true_eq] at h;exact h.2
theorem spec_l02All_c {ob:Bool} {pe e:TypeId} {xs:List PStroke} {A:Option Addr} {c gB oB:Nat} {F:List Nat} (w:World) (gl:gB < w.heap.size) (hcell:w.cell? ⟨gB,oB,none⟩=some (.slice A xs.length c)) (h:(pStrokes pe e).rep ob w xs [.slice A xs.length c] F) (hs:∀ s∈xs,strokeB s=true) (h1:1≤xs.length) :
 Calls Tryz.prog 60 #[.pointer (some ⟨gB,oB,none⟩)] w fun e w'=>e=.returned (boxVZ (boxAllZ xs))∧Below w.heap.size w w':=by
 obtain ⟨A',c',he,hc1,hc2,hr⟩:=pStrokes_open h;cases he;have CB:=Lib.hid (fun (s:PStroke) (hin:s∈xs) (wr:World) (A:Option Addr) (c g0 o0:Nat) (Fk:List Nat) (gl0:g0 < wr.heap.size) (hc0:wr.cell? ⟨g0,o0,none⟩=some (.slice A s.length c)) (r0:(pPoints pe).rep ob wr s [.slice A s.length c] Fk)=>have hl:=strokeB_both (hs s hin); spec_l02BoxOf_c wr gl0 hc0 r0 hl.1 (by omega));have g0:(0:Int) < (xs.length:Int):=by omega
 have hml:xs.length≤9223372036854775807:=by unfold maxLen at hc2; omega
 obtain ⟨bs,os,u0,F0,rfl,hbs,hbF,r0,hF0,c0⟩:=hr 0 h1;have hin0:=List.getElem_mem h1;have HS0:=Lib.hid (strk_get h1);generalize xs[0]=s00 at r0 hin0 HS0;have B0:Below w.heap.size w (w.alloc (.cells #[.int .i64 0,.int .i64 0,.int .i64 0,.int .i64 0] 133)):=(Below.refl _ _).alloc (Nat.le_refl _) _;have QR:=Row.new w 133 #[.int .i64 0,.int .i64 0,.int .i64 0,.int .i64 0];have x0:=(B0.cell (p:=⟨gB,oB,none⟩) gl).trans hcell;have s0:=(B0.cell (p:=⟨bs,os+0,none⟩) hbs).trans c0;obtain ⟨A0,n0,k0,rfl⟩:=slice_form r0;obtain ⟨A0',k0',he0,-,-,-⟩:=pPoints_open r0;cases he0;have C0:=Lib.hid (CB.out s00 hin0 (w.alloc (.cells #[.int .i64 0,.int .i64 0,.int .i64 0,.int .i64 0] 133)) A0 k0 bs (os+0) F0 (Nat.lt_of_lt_of_le hbs B0.size) s0 (r0.below B0));have H:=Lib.hid h;have ST:=Lib.hid (And.intro QR B0);have H1:=Lib.hid h1;have GL:=Lib.hid gl;have HC:=Lib.hid hcell;simp only [Nat.add_zero] at s0;clear hr r0 hF0 c0 QR B0 h h1 hs gl hcell
 go_enter Tryz.func60,Tryz.ntmps60
 go_wp2_with fail
 refine C0.out.mono ?_;rintro e w1 ⟨rfl,b1⟩;unfold boxVZ;have R1:=ST.out.1.later b1;have B1:=ST.out.2.trans (b1.mono ST.out.2.size);have hz1:w.heap.size+0 < w1.heap.size:=R1.lt;have x0:=(B1.cell (p:=⟨gB,oB,none⟩) GL.out).trans HC.out;have bx0:boxAllK xs 0=boxOfZ s00:=by show boxOfZ (strk xs 0)=_; rw [HS0.out]
 generalize boxOfZ s00=nb at bx0 ⊢;have S1:=R1.alloc (.cells #[.int .i64 nb.x1,.int .i64 nb.y1,.int .i64 nb.x2,.int .i64 nb.y2] 133);have SX:=Row.new w1 133 #[.int .i64 nb.x1,.int .i64 nb.y1,.int .i64 nb.x2,.int .i64 nb.y2];have SB:=B1.alloc B1.size (.cells #[.int .i64 nb.x1,.int .i64 nb.y1,.int .i64 nb.x2,.int .i64 nb.y2] 133);have BX0:=Lib.hid bx0;have SZ:=Lib.hid (And.intro S1 (And.intro SX SB));clear b1 C0 ST R1 B1 bx0 S1 SX SB s0
 go_wp2_with fail
 clear x0
 go_loopw [4] (fun i wr=>∃ k:Nat,i=.int .i64 k∧1≤k∧k≤xs.length∧Hid (Row wr w.heap.size 133 [.int .i64 0,.int .i64 0,.int .i64 0,.int .i64 0]∧Row wr w1.heap.size 133 (boxL (boxAllK xs k))∧Below w.heap.size w wr)) (fun i _=>xs.length - (intOf i).toNat)
 case atStart=>exact ⟨1,rfl,Nat.le_refl _,H1.out,by rw [boxAllK_one H1.out,HS0.out,← show boxAllK xs 0=boxOfZ s00 from (show boxOfZ (strk xs 0)=_ by rw [HS0.out]),BX0.out]; exact SZ⟩
 case round =>
  obtain ⟨k,rfl,hk1,hk,all⟩:=hrel;obtain ⟨R0,R2,hb⟩:=all.out;have hbs':=R2.lt;clear all SZ;generalize hbk:boxAllK xs k=bk at R2;have y0:=R2.c0;have y1:=R2.c1;have y2:=R2.c2;have y3:=R2.c3
  by_cases hlt:k < xs.length
  · obtain ⟨A',c',he,-,-,hr⟩:=pStrokes_open (H.out.below hb)
    cases he;obtain ⟨bs',os',u1,F1,e8,hbq,hbF1,r1,hF1,c1⟩:=hr k hlt;cases e8;obtain ⟨A1,n1,k1,rfl⟩:=slice_form r1;have gk:(k:Int) < (xs.length:Int):=by omega
    have gk0:(0:Int)≤(k:Int):=by omega
    have kw:=IntWalk.i64_in ((k:Int)+1) (by omega);have HN:=Lib.hid (show boxAllK xs (k+1)=joinZ bk (boxOfZ xs[k]) by rw [boxAllK_succ hlt,hbk]);have HB:=Lib.hid hb;have HR0:=Lib.hid R0;have HR2:=Lib.hid R2;have HR1:=Lib.hid r1;have hin:=List.getElem_mem hlt;have HIN:=Lib.hid hin;clear hr hF1 hb hbk R0 R2 r1 hin;have x0:=(HB.out.cell (p:=⟨gB,oB,none⟩) GL.out).trans HC.out;have gB':=Nat.lt_of_lt_of_le GL.out HB.out.size;obtain ⟨A1',k1',he1,-,-,-⟩:=pPoints_open HR1.out;cases he1
    go_upto_region 5 with fail
    have hS:wr.drew.cell? ⟨gB,oB,none⟩=some (.slice (some ⟨bs,os,none⟩) xs.length c):=x0;obtain ⟨wq,hwq⟩:∃ W,W=wr:=⟨_,rfl⟩
    subst hwq;have hbs2:=hbs';have hw2:=gB';clear y0 y1 y2 y3;refine wp_region_held_drew (S:=(fun w':World=>w'.cell? ⟨gB,oB,none⟩=some (.slice (some ⟨bs,os,none⟩) xs.length c))) (by kernel_rfl) hS (fun _=>?_);replace HB:=Lib.hid HB.out.drew;replace HR0:=Lib.hid HR0.out.drew;replace HR2:=Lib.hid HR2.out.drew;replace HR1:=Lib.hid HR1.out.drew;replace hw2:gB < wq.drew.heap.size:=hw2;replace hbs2:w1.heap.size < wq.drew.heap.size:=hbs2;replace hbq:bs < wq.drew.heap.size:=hbq;replace c1:wq.drew.cell? ⟨bs,os+k,none⟩=_:=c1;generalize wq.drew=we at HB HR0 HR2 HR1 hw2 hbs2 hS hbq c1 x0 ⊢;refine tJ 1 hS ?_;refine tJ 2 hS ?_;refine tJ 3 hS ?_;refine tJ 4 hS ?_;refine tJ 5 hS ?_;refine tJ 6 hS ?_;refine rJ2 0 7 (fun K hK=>?ga) (fun K hK=>?gb)
    case' ga =>
     have y0:=HR2.out.c0;have y1:=HR2.out.c1;have y2:=HR2.out.c2;have y3:=HR2.out.c3
     go_simp
     refine bJ hK hS ?_;clear hK K y0 y1 y2 y3;refine rJ 7 fun K hK=>?_
     refine step_call 89 #[.tmp 26] _ rfl rfl #[.pointer (some ⟨bs,os+k,none⟩)] Tryz.call89 (by go_simp) (CB.out xs[k] HIN.out we A1 k1 bs (os+k) F1 hbq c1 HR1.out) ?_;rintro e w2 ⟨rfl,b2⟩;refine ⟨_,rfl,?_⟩;replace hS:=(b2.cell (p:=⟨gB,oB,none⟩) hw2).trans hS;replace HB:=Lib.hid (HB.out.trans (b2.mono HB.out.size));replace HR0:=Lib.hid (HR0.out.later b2);replace HR2:=Lib.hid (HR2.out.later b2);replace hw2:=Nat.lt_of_lt_of_le hw2 b2.size;refine bJ hK hS ?_;clear hK K;simp only [Act.put,pA,pB,pC]
    case' gb =>
     refine step_call 89 #[.tmp 26] _ rfl rfl #[.pointer (some ⟨bs,os+k,none⟩)] Tryz.call89 (by go_simp) (CB.out xs[k] HIN.out we A1 k1 bs (os+k) F1 hbq c1 HR1.out) ?_;rintro e w2 ⟨rfl,b2⟩;refine ⟨_,rfl,?_⟩;replace hS:=(b2.cell (p:=⟨gB,oB,none⟩) hw2).trans hS;replace HB:=Lib.hid (HB.out.trans (b2.mono HB.out.size));replace HR0:=Lib.hid (HR0.out.later b2);replace HR2:=Lib.hid (HR2.out.later b2);replace hw2:=Nat.lt_of_lt_of_le hw2 b2.size;refine bJ hK hS ?_;clear hK K;simp only [Act.put,pA,pB,pC];have y0:=HR2.out.c0;have y1:=HR2.out.c1;have y2:=HR2.out.c2;have y3:=HR2.out.c3;refine rJ 0 fun K hK=>?_
     go_simp
     refine bJ hK hS ?_;clear hK K y0 y1 y2 y3
    all_goals (
     unfold boxVZ;refine rJ 8 fun K hK=>?_
     refine step_call 90 #[.tmp 20,.tmp 27] _ rfl rfl #[.agg #[.int .i64 bk.x1,.int .i64 bk.y1,.int .i64 bk.x2,.int .i64 bk.y2],.agg #[.int .i64 (boxOfZ xs[k]).x1,.int .i64 (boxOfZ xs[k]).y1,.int .i64 (boxOfZ xs[k]).x2,.int .i64 (boxOfZ xs[k]).y2]] Tryz.call90 (by go_simp) (spec_joinZ_c bk (boxOfZ xs[k]) w2) ?_;rintro e w3 ⟨rfl,b3⟩;refine ⟨_,rfl,?_⟩;replace hS:=(b3.cell (p:=⟨gB,oB,none⟩) hw2).trans hS;replace HB:=Lib.hid (HB.out.trans (b3.mono HB.out.size));replace HR0:=Lib.hid (HR0.out.later b3);replace HR2:=Lib.hid (HR2.out.later b3);replace hw2:=Nat.lt_of_lt_of_le hw2 b3.size;refine bJ hK hS ?_;clear hK K;simp only [Act.put,pA,pB,pC];rw [← HN.out];have HNB:=Lib.hid (rfl:boxAllK xs (k+1)=boxAllK xs (k+1));obtain ⟨nb2,hnb2⟩:∃ b,boxAllK xs (k+1)=b:=⟨_,rfl⟩
     rw [hnb2];replace HNB:=Lib.hid hnb2;clear hnb2;unfold boxVZ;have v0:=HR2.out.c0;have v1:=HR2.out.c1;have v2:=HR2.out.c2;have v3:=HR2.out.c3;have vF:=HR2.out.frozen;refine rJ 9 fun K hK=>?_
     go_simp
     replace hS:=(cell_far4 (g':=gB) (o:=oB) (g:=w1.heap.size) (by have:=GL.out; omega) (.int .i64 nb2.x1) (.int .i64 nb2.y1) (.int .i64 nb2.x2) (.int .i64 nb2.y2)).trans hS;refine bJ hK hS ?_;refine wpAnyH_done (by kernel_rfl) ?_ _;have T0:=HR0.out.far4 (g:=w1.heap.size) (by omega) (.int .i64 nb2.x1) (.int .i64 nb2.y1) (.int .i64 nb2.x2) (.int .i64 nb2.y2);have T2:=HR2.out.set4 (.int .i64 nb2.x1) (.int .i64 nb2.y1) (.int .i64 nb2.x2) (.int .i64 nb2.y2);have TB:=below_set4 HB.out (g:=w1.heap.size) (by omega) (.int .i64 nb2.x1) (.int .i64 nb2.y1) (.int .i64 nb2.x2) (.int .i64 nb2.y2);clear v0 v1 v2 v3 vF hK K hS x0
     go_wp2_with fail
     exact ⟨⟨k+1,by go_num,by omega,by omega,Lib.hid ⟨T0,(by rw [HNB.out]; exact T2),TB⟩⟩,by simp [intOf]; omega⟩)
  · have hke:k=xs.length:=by omega
    subst hke;rw [boxAllK_all] at hbk;have gk:¬ (xs.length:Int) < (xs.length:Int):=by omega
    have v0:=R0.c0;have v1:=R0.c1;have v2:=R0.c2;have v3:=R0.c3;have vF:=R0.frozen;have T0:=R0.set4 (.int .i64 bk.x1) (.int .i64 bk.y1) (.int .i64 bk.x2) (.int .i64 bk.y2);have TB:=below_set4 hb (g:=w.heap.size) (by omega) (.int .i64 bk.x1) (.int .i64 bk.y1) (.int .i64 bk.x2) (.int .i64 bk.y2);have e0:=T0.c0;have e1:=T0.c1;have e2:=T0.c2;have e3:=T0.c3;have HBK:=Lib.hid hbk;have x0:=(hb.cell (p:=⟨gB,oB,none⟩) GL.out).trans HC.out;clear hbk hb H T0
    go_wp2_with fail
    rw [HBK.out];refine bodyPost_ret (v:=boxVZ bk) (by simp only [results,Tryz.results60]; go_simp; rfl) rfl ⟨rfl,TB⟩
end Go.Proofs.YtafgknkcjohjeaaGreatDoor

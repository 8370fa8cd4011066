/- Strokes that are drawn, in the reference. Conditions: none. -/
import Derived.Test.YtafgknkcjohjeaaGreatDoorEtEe
import Derived.Test.YtafgknkcjohjeaaGreatDoorRwFe
import Derived.Test.YtafgknkcjohjeaaGreatDoorRzDe
import Derived.Test.YtafgknkcjohjeaaGreatDoorTyFeate
import Derived.Test.YtafgknkcjohjeaaGreatDoorInkGe
import Derived.Test.YtafgknkcjohjeaaGreatDoorSlOpse
import Derived.Test.YtafgknkcjohjeaaGreatDoorRcWordse
import Derived.Test.YtafgknkcjohjeaaGreatDoorStrSe
namespace Go.Proofs.YtafgknkcjohjeaaGreatDoor
open Go Go.RowKit
set_option maxHeartbeats 8000000
set_option maxRecDepth 100000
theorem only_ownE {F G:List Nat} {a b c:World} (h:Only F a b) (o:Only G b c) (hG:∀ z∈G,a.heap.size≤z):Only F a c :=
 ⟨o.os.trans h.os,o.tape.trans h.tape,o.output.trans h.output,Nat.le_trans h.size o.size,fun k hk hn=>(o.block k (Nat.lt_of_lt_of_le hk h.size) (fun e=>by have:=hG k e; omega)).trans (h.block k hk hn)⟩
theorem drawn_ok {x y t:Int} (hx:0≤x∧x≤4095) (hy:0≤y∧y≤4095) (ht:0≤t∧t≤3600000):pointB ⟨x,y,t⟩=true:=by
 simp [pointB,inR]; omega
theorem drawn_i64 {x y t:Int} (hx:0≤x∧x≤4095) (hy:0≤y∧y≤4095) (ht:0≤t∧t≤3600000):∀ z∈[(⟨x,y,t⟩:PPoint)],pPointOk z:=by
 intro z hz;simp only [List.mem_singleton] at hz;subst hz;refine ⟨?_,?_,?_⟩ <;> constructor <;> dsimp only <;> omega
def DrawsStroke (B g:Nat) (code:List UInt8) (m:Nat) (w:World) (e:Ending) (w':World):Prop:=∃ s u F t,e=.returned (.agg #[u])∧DrawnS s t∧(1≤s.length∧s.length≤10)∧(pPoints 85).rep true w' s [u] F∧Fresh w.heap.size F∧SrcIs B g code m w'∧Only [g] w w'
theorem spec_l02DrawStroke_c {B g m:Nat} {code:List UInt8} (w:World) (h:SrcIs B g code m w) (hB:B≤w.heap.size) (hm:m≤900000) :
 Calls Tryz.prog 44 #[.pointer (some ⟨g,0,none⟩),.int .i64 0,.int .i64 100,.int .i64 300] w (DrawsStroke B g code (m+63) w):=by
 have lg:=h.low;have R0:=(Row.new w 89 #[.slice none 0 0]).alloc (.cells #[.slice none 0 0] 89);have R1:=Row.new (w.alloc (.cells #[.slice none 0 0] 89)) 89 #[.slice none 0 0];have b0:Below w.heap.size w ((w.alloc (.cells #[.slice none 0 0] 89)).alloc (.cells #[.slice none 0 0] 89)):=((Below.refl _ _).alloc (Nat.le_refl _) _).alloc (by simp) _;rw [World.size_alloc] at R1;have S0:=h.below b0;clear h
 go_enter Tryz.func44,Tryz.ntmps44
 go_upto_region 2 with fail
 generalize (w.alloc (.cells #[.slice none 0 0] 89)).alloc (.cells #[.slice none 0 0] 89)=w0 at R0 R1 b0 S0 ⊢;have C:=Lib.hid (src_pick_c w0 S0 (by omega) 60 (by omega));have O0:Only [g] w w0:=Only.of_below b0;have hz0:w.heap.size+1 < w0.heap.size:=R1.lt;clear b0 S0
 go_wp2_with fail
 refine C.out.mono ?_;rintro e w1 ⟨⟨dx,dx0,dx1,rfl⟩,S1,O1⟩;have C1:=Lib.hid (src_pick_c w1 S1 (by omega) 60 (by omega));replace R0:=R0.onl O1 (by simp only [List.mem_singleton]; omega);replace R1:=R1.onl O1 (by simp only [List.mem_singleton]; omega);replace O0:=O0.trans O1;have ed:=IntWalk.i64_in (dx - 20) (by omega);clear C S1 O1
 go_wp2_with fail
 refine C1.out.mono ?_;rintro e w2 ⟨⟨dy,dy0,dy1,rfl⟩,S2,O2⟩;have C2:=Lib.hid (src_pick_c w2 S2 (by omega) 10 (by omega));replace R0:=R0.onl O2 (by simp only [List.mem_singleton]; omega);replace R1:=R1.onl O2 (by simp only [List.mem_singleton]; omega);replace O0:=O0.trans O2;have ey:=IntWalk.i64_in (dy - 30) (by omega);clear C1 S2 O2 ed
 go_wp2_with fail
 refine C2.out.mono ?_;rintro e w3 ⟨⟨r,r0,r1,rfl⟩,S3,O3⟩;obtain ⟨k0,hk0⟩:=Int.eq_ofNat_of_zero_le (show 0≤1+r by omega);have ek:IntKind.i64.wrap (1+r)=(k0:Int):=(IntWalk.i64_in _ (by omega)).trans hk0;have hkb:1≤k0∧k0≤10:=by omega
 have HR0:=Lib.hid (R0.onl O3 (by simp only [List.mem_singleton]; omega));have HR1:=Lib.hid (R1.onl O3 (by simp only [List.mem_singleton]; omega));have HO:=Lib.hid (O0.trans O3);have HS:=Lib.hid S3;clear C2 S3 O3 R0 R1 O0 ey hk0 r0 r1
 go_wp2_with fail
 go_loopw [1,2,3,10,11,12] (fun vt vx vy va vb vk wr=>∃ (n j:Nat) (tt xx yy ax ay:Int) (s:PStroke) (u:Value) (G:List Nat),vt=.int .i64 tt∧vx=.int .i64 xx∧vy=.int .i64 yy∧va=.int .i64 ax∧vb=.int .i64 ay∧vk=.int .i64 (n:Int)∧j+n=k0∧Hid ((0≤tt∧tt≤20 * j)∧(0≤xx∧xx≤4095)∧(0≤yy∧yy≤4095)∧(-60≤ax∧ax≤60)∧(-60≤ay∧ay≤60)∧DrawnS s tt∧s.length=j∧Row wr (w.heap.size+1) 89 [u]∧Row wr w.heap.size 89 [.slice none 0 0]∧(pPoints 85).rep true wr s [u] G∧Fresh (w.heap.size+2) G∧SrcIs B g code (m+3+6 * j) wr∧Only [g] w wr)) (fun _ _ _ _ _ i _=>(intOf i).toNat)
 case atStart=>exact ⟨k0,0,0,100,300,dx - 20,dy - 30,[],_,[],rfl,rfl,rfl,rfl,rfl,rfl,by omega,Lib.hid ⟨by omega,by omega,by omega,by omega,by omega,DrawnS.nil _,rfl,HR1.out,HR0.out,slice_nil _ _ _ _,⟨by simp,by simp⟩,HS.out,HO.out⟩⟩
 case round =>
  obtain ⟨n,j,tt,xx,yy,ax,ay,s,u,G,rfl,rfl,rfl,rfl,rfl,rfl,hjk,all⟩:=hrel;obtain ⟨ht,hx,hy,ha,hb,hD,hlen,rO,rT,rep,fr,src,onl⟩:=all.out;clear all;obtain ⟨U,un,uc,rfl⟩:=slice_form rep;cases n with
  | zero =>
    have z0:decide ((0:Int) < 0)=false:=rfl;have y0:=rO.c0;have v0:=rT.c0;have vF:=rT.frozen;have e0:=(rT.set 0 (.slice U un uc)).c0;have hne:w.heap.size∉G:=fun hin=>by have:=fr.2 _ hin; omega
    have RES:=Lib.hid (Ty.rep.setCell (T:=pPoints 85) rep (p:=⟨w.heap.size,0,none⟩) hne (.slice U un uc));have SRC:=Lib.hid ((src.only ((Only.refl [w.heap.size] wr).set (p:=⟨w.heap.size,0,none⟩) (by simp) (.slice U un uc)) (by simpa using hB)).more (show m+3+6 * j≤m+63 by omega));have ONL:=Lib.hid (only_setE onl (p:=⟨w.heap.size,0,none⟩) (Nat.le_refl _) (.slice U un uc));have FRR:=Lib.hid (fr.mono (show w.heap.size≤w.heap.size+2 by omega));have HD:=Lib.hid hD;have HLN:=Lib.hid (show 1≤s.length∧s.length≤10 by omega);clear hD rO rT rep fr src onl hne hlen
    go_wp2_with fail
    refine bodyPost_ret (v:=.agg #[.slice U un uc]) (by simp only [results,Tryz.results44]; go_simp) rfl ?_;exact ⟨s,_,G,tt,rfl,HD.out,HLN.out,RES.out,FRR.out,SRC.out,ONL.out⟩
  | succ k1 =>
    have gk2:(0:Int) < ((k1+1:Nat):Int):=by omega
    have km:IntKind.i64.wrap (((k1+1:Nat):Int) - 1)=(k1:Int):=(IntWalk.i64_in _ (by omega)).trans (by omega);generalize hkk:((k1+1:Nat):Int)=kk at gk2 km ⊢;have gk3:decide (0 < kk)=true:=decide_eq_true gk2;have HKK:=Lib.hid hkk;have HD:=Lib.hid hD;have HLN:=Lib.hid hlen;have HOP:=Lib.hid (drawn_i64 hx hy (show 0≤tt∧tt≤3600000 by omega));have HPB:=Lib.hid (drawn_ok hx hy (show 0≤tt∧tt≤3600000 by omega));have HRO:=Lib.hid rO;have HRT:=Lib.hid rT;have REP:=Lib.hid rep;have FR:=Lib.hid fr;have SRC:=Lib.hid src;have ONL:=Lib.hid onl;have y0:=rO.c0;have hz1:w.heap.size+1 < wr.heap.size:=rO.lt;clear hkk hD hlen rO rT rep fr src onl
    go_upto_region 8 with (at_builtin; refine wpList_append_repX (T:=pPoint) (e:=85) (ys:=[(⟨xx,yy,tt⟩:PPoint)]) (ec:=[.int .i64 xx,.int .i64 yy,.int .i64 tt]) rfl (.tmp 28) (.tmp 33) rfl Tryz.underlying42 Tryz.infoPointR rfl (by decide) rfl (REP.out.alloc _) rfl (repL_pPoint [(⟨xx,yy,tt⟩:PPoint)] HOP.out) (cellsAt_new _ _ _) trivial (by rw [List.append_nil]; exact FR.out.1) (by have:=HLN.out; simp only [List.length_singleton,maxLen]; omega) (by have:=HLN.out; simp only [List.length_singleton]; omega) ?_; intro v6 w6 F6 r6 o6 f6 x6; obtain ⟨V6,n6,c6,rfl⟩:=slice_form r6; clear y0; have RO6:=(HRO.out.alloc (.cells #[.int .i64 xx,.int .i64 yy,.int .i64 tt] 85)).onl o6 (fun hin=>by have:=FR.out.2 _ hin; omega); have v0:=RO6.c0; have vF:=RO6.frozen)
    have fr6:=f6 (w.heap.size+2) (by rw [List.append_nil]; exact FR.out) (by simp only [World.size_alloc]; omega);have bA:Below wr.heap.size wr (wr.alloc (.cells #[.int .i64 xx,.int .i64 yy,.int .i64 tt] 85)):=(Below.refl _ _).alloc (Nat.le_refl _) _;have hne:w.heap.size+1∉F6:=fun hin=>by have:=fr6.2 _ hin; omega
    have RO7:=Lib.hid (RO6.set 0 (.slice V6 n6 c6));have RT7:=Lib.hid (((HRT.out.later bA).onl o6 (fun hin=>by have:=FR.out.2 _ hin; omega)).far (p:=⟨w.heap.size+1,0,none⟩) (by show w.heap.size≠w.heap.size+1; omega) (.slice V6 n6 c6));have RP7:=Lib.hid (Ty.rep.setCell (T:=pPoints 85) r6 (p:=⟨w.heap.size+1,0,none⟩) hne (.slice V6 n6 c6));have SR7:=Lib.hid (((SRC.out.below bA).only o6 (fun z hz=>by have:=FR.out.2 z hz; omega)).only ((Only.refl [w.heap.size+1] w6).set (p:=⟨w.heap.size+1,0,none⟩) (by simp) (.slice V6 n6 c6)) (by intro b hb; simp only [List.mem_singleton] at hb; omega));have ON7:=Lib.hid (only_setE (only_ownE (ONL.out.trans (Only.of_below bA)) o6 (fun z hz=>by have:=FR.out.2 z hz; omega)) (p:=⟨w.heap.size+1,0,none⟩) (by show w.heap.size≤w.heap.size+1; omega) (.slice V6 n6 c6));have FR7:=Lib.hid fr6;clear r6 o6 f6 x6 fr6 bA hne RO6 v0 vF HRO HRT REP FR SRC ONL;generalize w6.setCell ⟨w.heap.size+1,0,none⟩ (.slice V6 n6 c6)=w7 at RO7 RT7 RP7 SR7 ON7 ⊢;have C3:=Lib.hid (src_pick_c w7 SR7.out (by omega) 20 (by omega));have hz7:w.heap.size+1 < w7.heap.size:=RO7.out.lt
    go_wp2_with fail
    refine C3.out.mono ?_;rintro e w8 ⟨⟨pt1,pt0,pt2,rfl⟩,S8,O8⟩;have C4:=Lib.hid (src_pick_c w8 S8 (by omega) 9 (by omega));have e1:=IntWalk.i64_in (1+pt1) (by omega);have e2:=IntWalk.i64_in (tt+(1+pt1)) (by omega);have e3:=IntWalk.i64_in (xx+ax) (by omega);clear C3 S8
    go_wp2_with fail
    refine C4.out.mono ?_;rintro e w9 ⟨⟨px,px0,px1,rfl⟩,S9,O9⟩;have e4:=IntWalk.i64_in (xx+ax+px) (by omega);have e5:=IntWalk.i64_in (xx+ax+px - 4) (by omega);have CM:=Lib.hid (minZ_c 4095 (xx+ax+px - 4) w9);clear C4 e1 e2
    go_wp2_with fail
    refine CM.out.mono ?_;rintro e w10 ⟨rfl,rfl⟩;have CX:=Lib.hid (maxZ_c 0 (min 4095 (xx+ax+px - 4)) w10);clear CM e3 e4 e5
    go_wp2_with fail
    refine CX.out.mono ?_;rintro e w11 ⟨rfl,rfl⟩;have hx2:0≤max 0 (min 4095 (xx+ax+px - 4))∧max 0 (min 4095 (xx+ax+px - 4))≤4095:=by omega
    generalize max 0 (min 4095 (xx+ax+px - 4))=x2 at hx2 ⊢;have C5:=Lib.hid (src_pick_c w11 S9 (by omega) 9 (by omega));have e3:=IntWalk.i64_in (yy+ay) (by omega);clear CX S9
    go_wp2_with fail
    refine C5.out.mono ?_;rintro e w12 ⟨⟨py,py0,py1,rfl⟩,S12,O12⟩;have e4:=IntWalk.i64_in (yy+ay+py) (by omega);have e5:=IntWalk.i64_in (yy+ay+py - 4) (by omega);have CM:=Lib.hid (minZ_c 4095 (yy+ay+py - 4) w12);clear C5
    go_wp2_with fail
    refine CM.out.mono ?_;rintro e w13 ⟨rfl,rfl⟩;have CX:=Lib.hid (maxZ_c 0 (min 4095 (yy+ay+py - 4)) w13);clear CM e3 e4 e5
    go_wp2_with fail
    refine CX.out.mono ?_;rintro e w14 ⟨rfl,rfl⟩;have hy2:0≤max 0 (min 4095 (yy+ay+py - 4))∧max 0 (min 4095 (yy+ay+py - 4))≤4095:=by omega
    generalize max 0 (min 4095 (yy+ay+py - 4))=y2 at hy2 ⊢;have C6:=Lib.hid (src_one_c w14 S12 (by omega) 3 (by omega));clear CX S12
    go_wp2_with fail
    refine C6.out.mono ?_;rintro e w15 ⟨⟨ob,rfl⟩,S15,O15⟩;have OA:=(O8.trans O9).trans (O12.trans O15);clear C6 O8 O9 O12 O15;cases ob
    case' false =>
     have ha2:=ha;have hb2:=hb;have S20:=S15.more (show m+3+6 * j+1+1+1+1≤m+3+6 * (j+1) by omega);have O20:=Only.refl [g] w15
    case' true =>
     have C7:=Lib.hid (src_pick_c w15 S15 (by omega) 80 (by omega));clear S15
     go_wp2_with fail
     refine C7.out.mono ?_;rintro e w16 ⟨⟨a2,a20,a21,rfl⟩,S16,O16⟩;have C8:=Lib.hid (src_pick_c w16 S16 (by omega) 80 (by omega));have e1:=IntWalk.i64_in (a2 - 40) (by omega);clear C7 S16
     go_wp2_with fail
     refine C8.out.mono ?_;rintro e w17 ⟨⟨b2,b20,b21,rfl⟩,S17,O17⟩;have e2:=IntWalk.i64_in (b2 - 40) (by omega);have ha2:-60≤a2 - 40∧a2 - 40≤60:=by omega
     have hb2:-60≤b2 - 40∧b2 - 40≤60:=by omega
     have S20:=S17;have O20:=O16.trans O17;clear C8 S17
    all_goals (
     replace OA:=OA.trans O20;have RO8:=Lib.hid (RO7.out.onl OA (by simp only [List.mem_singleton]; omega));have RT8:=Lib.hid (RT7.out.onl OA (by simp only [List.mem_singleton]; omega));have RP8:=Lib.hid (RP7.out.only OA (fun z hz hin=>by simp only [List.mem_singleton] at hin; have:=FR7.out.2 z hz; omega));have ON8:=Lib.hid (ON7.out.trans OA);have HS20:=Lib.hid S20;have HA2:=Lib.hid ha2;have HB2:=Lib.hid hb2;clear OA O20 S20 ha2 hb2
     go_wp2_with fail
     refine ⟨⟨k1,j+1,tt+(1+pt1),x2,y2,_,_,_,_,F6,by first | rfl | go_num,rfl,rfl,rfl,rfl,by first | rfl | go_num,by omega,Lib.hid ⟨by omega,hx2,hy2,HA2.out,HB2.out,HD.out.snoc HPB.out (by omega),by rw [List.length_append,HLN.out]; rfl,RO8.out,RT8.out,RP8.out,FR7.out,HS20.out.more (by omega),ON8.out⟩⟩,?_⟩;have:=HKK.out;simp [intOf]; omega
     )
theorem spec_l02Long_c (w:World):Calls Tryz.prog 33 #[.int .i64 60] w fun e w'=>∃ u F,e=.returned (.agg #[u])∧(pPoints 85).rep true w' (longK 60) [u] F∧Fresh w.heap.size F∧Below w.heap.size w w':=by
 have R0:=(Row.new w 89 #[.slice none 0 0]).alloc (.cells #[.slice none 0 0] 89);have R1:=Row.new (w.alloc (.cells #[.slice none 0 0] 89)) 89 #[.slice none 0 0];have b0:Below w.heap.size w ((w.alloc (.cells #[.slice none 0 0] 89)).alloc (.cells #[.slice none 0 0] 89)):=((Below.refl _ _).alloc (Nat.le_refl _) _).alloc (by simp) _;rw [World.size_alloc] at R1
 go_enter Tryz.func33,Tryz.ntmps33
 go_upto_region 2 with fail
 generalize (w.alloc (.cells #[.slice none 0 0] 89)).alloc (.cells #[.slice none 0 0] 89)=w0 at R0 R1 b0 ⊢;have hz0:w.heap.size+1 < w0.heap.size:=R1.lt;have HR0:=Lib.hid R0;have HR1:=Lib.hid R1;have HB:=Lib.hid b0;clear R0 R1 b0
 go_wp2_with fail
 go_loopw [4] (fun vk wr=>∃ (j:Nat) (u:Value) (G:List Nat),vk=.int .i64 (j:Int)∧j≤60∧Hid (Row wr (w.heap.size+1) 89 [u]∧Row wr w.heap.size 89 [.slice none 0 0]∧(pPoints 85).rep true wr (longK j) [u] G∧Fresh (w.heap.size+2) G∧Below w.heap.size w wr)) (fun i _=>60 - (intOf i).toNat)
 case atStart=>exact ⟨0,_,[],rfl,by omega,Lib.hid ⟨HR1.out,HR0.out,slice_nil _ _ _ _,⟨by simp,by simp⟩,HB.out⟩⟩
 case round =>
  obtain ⟨j,u,G,rfl,hj,all⟩:=hrel;obtain ⟨rO,rT,rep,fr,bb⟩:=all.out;clear all;obtain ⟨U,un,uc,rfl⟩:=slice_form rep
  by_cases hlt:j < 60
  · have gk:decide ((j:Int) < 60)=true:=decide_eq_true (by omega)
    have k1:=IntWalk.i64_in ((j:Int)+1) (by omega);have e1:=IntWalk.i64_in (10+(j:Int)) (by omega);have e2:((j:Int)).tdiv 2=(j:Int) / 2:=Int.tdiv_eq_ediv_of_nonneg (by omega);have e3:=IntWalk.i64_in ((j:Int) / 2) (by omega);have e4:=IntWalk.i64_in (50 - (j:Int) / 2) (by omega);have e5:=IntWalk.i64_in (3 * (j:Int)) (by omega);have HOP:=Lib.hid (drawn_i64 (x:=10+(j:Int)) (y:=50 - (j:Int) / 2) (t:=3 * (j:Int)) (by omega) (by omega) (by omega));have HLN:=Lib.hid (longK_len j);have HN:=Lib.hid (longK_succ j);have y0:=rO.c0;have HRO:=Lib.hid rO;have HRT:=Lib.hid rT;have REP:=Lib.hid rep;have FR:=Lib.hid fr;have BB:=Lib.hid bb;have hz1:w.heap.size+1 < wr.heap.size:=rO.lt;clear rO rT rep fr bb
    go_wp2_with (at_builtin; refine wpList_append_repX (T:=pPoint) (e:=85) (ys:=[(⟨10+(j:Int),50 - (j:Int) / 2,3 * (j:Int)⟩:PPoint)]) (ec:=[.int .i64 (10+(j:Int)),.int .i64 (50 - (j:Int) / 2),.int .i64 (3 * (j:Int))]) rfl (.tmp 12) (.tmp 21) rfl Tryz.underlying42 Tryz.infoPointR rfl (by decide) rfl (REP.out.alloc _) rfl (repL_pPoint [(⟨10+(j:Int),50 - (j:Int) / 2,3 * (j:Int)⟩:PPoint)] HOP.out) (cellsAt_new _ _ _) trivial (by rw [List.append_nil]; exact FR.out.1) (by have:=HLN.out; simp only [List.length_singleton,maxLen]; omega) (by have:=HLN.out; simp only [List.length_singleton]; omega) ?_; intro v6 w6 F6 r6 o6 f6 x6; obtain ⟨V6,n6,c6,rfl⟩:=slice_form r6; clear y0; have RO6:=(HRO.out.alloc (.cells #[.int .i64 (10+(j:Int)),.int .i64 (50 - (j:Int) / 2),.int .i64 (3 * (j:Int))] 85)).onl o6 (fun hin=>by have:=FR.out.2 _ hin; omega); have v0:=RO6.c0; have vF:=RO6.frozen)
    have fr6:=f6 (w.heap.size+2) (by rw [List.append_nil]; exact FR.out) (by simp only [World.size_alloc]; omega);have bA:Below wr.heap.size wr (wr.alloc (.cells #[.int .i64 (10+(j:Int)),.int .i64 (50 - (j:Int) / 2),.int .i64 (3 * (j:Int))] 85)):=(Below.refl _ _).alloc (Nat.le_refl _) _;have hne:w.heap.size+1∉F6:=fun hin=>by have:=fr6.2 _ hin; omega
    have RO7:=RO6.set 0 (.slice V6 n6 c6);have RT7:=((HRT.out.later bA).onl o6 (fun hin=>by have:=FR.out.2 _ hin; omega)).far (p:=⟨w.heap.size+1,0,none⟩) (by show w.heap.size≠w.heap.size+1; omega) (.slice V6 n6 c6);have RP7:=Ty.rep.setCell (T:=pPoints 85) r6 (p:=⟨w.heap.size+1,0,none⟩) hne (.slice V6 n6 c6);have B7:=((BB.out.trans (bA.mono BB.out.size)).trans (o6.below (B:=w.heap.size) (by simp only [World.size_alloc]; omega) (fun z hz=>by have:=FR.out.2 z hz; omega))).setCell (p:=⟨w.heap.size+1,0,none⟩) (by show w.heap.size≤w.heap.size+1; omega) (.slice V6 n6 c6);refine ⟨⟨j+1,_,F6,by first | rfl | go_num,by omega,Lib.hid ⟨RO7,RT7,by rw [HN.out]; exact RP7,fr6,B7⟩⟩,?_⟩;simp [intOf]; omega
  · obtain rfl:j=60:=by omega
    have gk:decide (((60:Nat):Int) < 60)=false:=rfl;have y0:=rO.c0;have v0:=rT.c0;have vF:=rT.frozen;have e0:=(rT.set 0 (.slice U un uc)).c0;have hne:w.heap.size∉G:=fun hin=>by have:=fr.2 _ hin; omega
    have RES:=Lib.hid (Ty.rep.setCell (T:=pPoints 85) rep (p:=⟨w.heap.size,0,none⟩) hne (.slice U un uc));have BX:=Lib.hid (bb.setCell (p:=⟨w.heap.size,0,none⟩) (by show w.heap.size≤w.heap.size; omega) (.slice U un uc));have FRR:=Lib.hid (fr.mono (show w.heap.size≤w.heap.size+2 by omega));clear rO rT rep fr bb hne
    go_wp2_with fail
    refine bodyPost_ret (v:=.agg #[.slice U un uc]) (by simp only [results,Tryz.results33]; go_simp) rfl ?_;exact ⟨_,G,rfl,RES.out,FRR.out,BX.out⟩
theorem nd_put {A B B' C:List Nat} {n:Nat} (h:(A++(B++C)).Nodup) (hb:B'.Nodup) (hs:∀ x∈B',x∈B∨n≤x) (hA:∀ x∈A,x < n) (hC:∀ x∈C,x < n):(A++(B'++C)).Nodup:=by
 simp only [List.nodup_append,List.mem_append] at h ⊢;obtain ⟨a,⟨b,c,bc⟩,abc⟩:=h;refine ⟨a,⟨hb,c,fun x hx y hy e=>?_⟩,fun x hx y hy e=>?_⟩
 · rcases hs x hx with h1 | h1
   · exact bc x h1 y hy e
   · have:=hC y hy; omega
 · rcases hy with hy | hy
   · rcases hs y hy with h1 | h1
     · exact abc x hx y (.inl h1) e
     · have:=hA x hx; omega
   · exact abc x hx y (.inr hy) e
structure OwnSs (w:World) (g:Nat) (q:PSess) (a0 a1 a2 a3 a4 a5:Value) (F0 F1 F2 F3 F4 F5:List Nat):Prop where
 row:Row w g 45 [.int .i64 q.setup.band,a0,.int .i64 q.setup.points,.int .i64 q.setup.most,.int .i64 q.setup.pen,a1,.int .i64 q.setup.dflt,a2,.int .i64 q.setup.pause,a3,a4,.int .i64 q.time,a5]
 r0:(pTemps 182 111).rep true w q.setup.temps [a0] F0
 r1:(pEntrys 138).rep true w q.setup.entries [a1] F1
 r2:(pBigrams 143).rep true w q.setup.bigrams [a2] F2
 r3:(pStrokes 85 89).rep true w q.strokes [a3] F3
 r4:(pPoints 85).rep true w q.opn [a4] F4
 r5:(strs 9).rep true w q.words [a5] F5
 nd:(F0++(F1++(F2++(F3++(F4++F5))))).Nodup
 off:g∉F0++(F1++(F2++(F3++(F4++F5))))
section
variable {w w':World} {g:Nat} {q:PSess} {a0 a1 a2 a3 a4 a5:Value} {F0 F1 F2 F3 F4 F5 F:List Nat}
theorem OwnSs.later (h:OwnSs w g q a0 a1 a2 a3 a4 a5 F0 F1 F2 F3 F4 F5) (hb:Below w.heap.size w w'):OwnSs w' g q a0 a1 a2 a3 a4 a5 F0 F1 F2 F3 F4 F5 :=
 ⟨h.row.later hb,h.r0.below hb,h.r1.below hb,h.r2.below hb,h.r3.below hb,h.r4.below hb,h.r5.below hb,h.nd,h.off⟩
theorem OwnSs.is (h:OwnSs w g q a0 a1 a2 a3 a4 a5 F0 F1 F2 F3 F4 F5):SessIs idsI true w q (.agg #[.int .i64 q.setup.band,a0,.int .i64 q.setup.points,.int .i64 q.setup.most,.int .i64 q.setup.pen,a1,.int .i64 q.setup.dflt,a2,.int .i64 q.setup.pause,a3,a4,.int .i64 q.time,a5]) (F0++(F1++(F2++(F3++(F4++F5))))) :=
 ⟨a0,a1,a2,a3,a4,a5,F0,F1,F2,F3,F4,F5,rfl,rfl,h.r0,h.r1,h.r2,h.r3,h.r4,h.r5⟩
theorem OwnSs.only (h:OwnSs w g q a0 a1 a2 a3 a4 a5 F0 F1 F2 F3 F4 F5) {G:List Nat} (hb:Only G w w') (hg:g∉G) (hd:∀ x∈F0++(F1++(F2++(F3++(F4++F5)))),x∉G):OwnSs w' g q a0 a1 a2 a3 a4 a5 F0 F1 F2 F3 F4 F5 :=
 ⟨h.row.onl hb hg,h.r0.only hb (fun x hx=>hd x (by simp [hx])),h.r1.only hb (fun x hx=>hd x (by simp [hx])),h.r2.only hb (fun x hx=>hd x (by simp [hx])),h.r3.only hb (fun x hx=>hd x (by simp [hx])),h.r4.only hb (fun x hx=>hd x (by simp [hx])),h.r5.only hb (fun x hx=>hd x (by simp [hx])),h.nd,h.off⟩
theorem OwnSs.step (h:OwnSs w g q a0 a1 a2 a3 a4 a5 F0 F1 F2 F3 F4 F5) {D:List Nat} (ho:Only D w w') {q':PSess} {b3 b4 b5:Value} {G3 G4 G5:List Nat} (hset:q'.setup=q.setup)
 (row:Row w' g 45 [.int .i64 q.setup.band,a0,.int .i64 q.setup.points,.int .i64 q.setup.most,.int .i64 q.setup.pen,a1,.int .i64 q.setup.dflt,a2,.int .i64 q.setup.pause,b3,b4,.int .i64 q'.time,b5])
 (s3:(pStrokes 85 89).rep true w' q'.strokes [b3] G3) (s4:(pPoints 85).rep true w' q'.opn [b4] G4) (s5:(strs 9).rep true w' q'.words [b5] G5)
 (hd:∀ x∈F0++(F1++F2),x∉D) (nd:(G3++(G4++G5)).Nodup) (hs:∀ x∈G3++(G4++G5),x∈F3++(F4++F5)∨w.heap.size≤x):OwnSs w' g q' a0 a1 a2 b3 b4 b5 F0 F1 F2 G3 G4 G5:=by
 have hF:∀ x∈F0++(F1++F2),x < w.heap.size:=fun x hx=>h.is.blocks x (by simp only [List.mem_append] at hx ⊢; rcases hx with h | h | h <;> simp [h])
 refine ⟨by rw [hset]; exact row,?_,?_,?_,s3,s4,s5,?_,?_⟩
 · rw [hset]; exact h.r0.only ho (fun x hx=>hd x (by simp [hx]))
 · rw [hset]; exact h.r1.only ho (fun x hx=>hd x (by simp [hx]))
 · rw [hset]; exact h.r2.only ho (fun x hx=>hd x (by simp [hx]))
 · have h1:((F0++(F1++F2))++((F3++(F4++F5))++[])).Nodup:=by have:=h.nd; simpa [List.append_assoc] using this
   have h2:=nd_put h1 nd hs hF (by simp)
   simpa [List.append_assoc] using h2
 · intro hin
   have hg:=h.row.lt;have hoff:=h.off;simp only [List.mem_append] at hin hoff
   have h3:g∈G3++(G4++G5)→False:=fun hx=>by
    rcases hs g hx with h1 | h1
    · simp only [List.mem_append] at h1; exact hoff (by rcases h1 with h | h | h <;> simp [h])
    · omega
   rcases hin with h1 | h1 | h1 | h1 | h1 | h1
   · exact hoff (by simp [h1])
   · exact hoff (by simp [h1])
   · exact hoff (by simp [h1])
   · exact h3 (by simp [h1])
   · exact h3 (by simp [h1])
   · exact h3 (by simp [h1])
theorem OwnSs.apart (h:OwnSs w g q a0 a1 a2 a3 a4 a5 F0 F1 F2 F3 F4 F5) {D:List Nat} (hD:∀ x∈D,x=g∨x∈F3++(F4++F5)∨w.heap.size≤x):∀ x∈F0++(F1++F2),x∉D:=by
 intro x hx hin;have hlt:=h.is.blocks x (by simp only [List.mem_append] at hx ⊢; rcases hx with h | h | h <;> simp [h]);rcases hD x hin with rfl | h1 | h1
 · exact h.off (by simp only [List.mem_append] at hx ⊢; rcases hx with h | h | h <;> simp [h])
 · have nd:=h.nd
   have h2:((F0++(F1++F2))++(F3++(F4++F5))).Nodup:=by simpa [List.append_assoc] using nd
   exact (List.nodup_append.1 h2).2.2 x hx x h1 rfl
 · omega
theorem OwnSs.tail_nd (h:OwnSs w g q a0 a1 a2 a3 a4 a5 F0 F1 F2 F3 F4 F5):(F3++(F4++F5)).Nodup:=by
 have nd:=h.nd;have h2:((F0++(F1++F2))++(F3++(F4++F5))).Nodup:=by simpa [List.append_assoc] using nd
 exact (List.nodup_append.1 h2).2.1
theorem OwnSs.lt (h:OwnSs w g q a0 a1 a2 a3 a4 a5 F0 F1 F2 F3 F4 F5):∀ x∈F3++(F4++F5),x < w.heap.size:=fun x hx=>h.is.blocks x (by simp only [List.mem_append] at hx ⊢; rcases hx with h | h | h <;> simp [h])
theorem OwnSs.far (h:OwnSs w g q a0 a1 a2 a3 a4 a5 F0 F1 F2 F3 F4 F5):g∉F3++(F4++F5):=fun hin=>h.off (by simp only [List.mem_append] at hin ⊢; rcases hin with h | h | h <;> simp [h])
theorem OwnSs.time (h:OwnSs w g q a0 a1 a2 a3 a4 a5 F0 F1 F2 F3 F4 F5) (t:Int):OwnSs (w.setCell ⟨g,11,none⟩ (.int .i64 t)) g { q with time:=t } a0 a1 a2 a3 a4 a5 F0 F1 F2 F3 F4 F5:=by
 have hf:=h.far;simp only [List.mem_append,not_or] at hf;exact h.step (D:=[g]) ((Only.refl [g] w).set (p:=⟨g,11,none⟩) (by simp) _) rfl (h.row.set 11 _) (Ty.rep.setCell (T:=pStrokes _ _) h.r3 (p:=⟨g,11,none⟩) hf.1 _) (Ty.rep.setCell (T:=pPoints _) h.r4 (p:=⟨g,11,none⟩) hf.2.1 _) (Ty.rep.setCell (T:=strs _) h.r5 (p:=⟨g,11,none⟩) hf.2.2 _) (h.apart (by simp)) h.tail_nd (fun x hx=>.inl hx)
theorem OwnSs.noInk (h:OwnSs w g q a0 a1 a2 a3 a4 a5 F0 F1 F2 F3 F4 F5):OwnSs (w.setCell ⟨g,9,none⟩ (.slice none 0 0)) g { q with strokes:=[] } a0 a1 a2 (.slice none 0 0) a4 a5 F0 F1 F2 [] F4 F5:=by
 have hf:=h.far;simp only [List.mem_append,not_or] at hf;exact h.step (D:=[g]) ((Only.refl [g] w).set (p:=⟨g,9,none⟩) (by simp) _) rfl (h.row.set 9 _) (slice_nil _ _ _ _) (Ty.rep.setCell (T:=pPoints _) h.r4 (p:=⟨g,9,none⟩) hf.2.1 _) (Ty.rep.setCell (T:=strs _) h.r5 (p:=⟨g,9,none⟩) hf.2.2 _) (h.apart (by simp)) (by have:=h.tail_nd; exact (List.nodup_append.1 this).2.1) (fun x hx=>.inl (by rw [List.nil_append] at hx; exact List.mem_append_right _ hx))
theorem OwnSs.putWords (h:OwnSs w g q a0 a1 a2 a3 a4 a5 F0 F1 F2 F3 F4 F5) {ys:List ByteArray} {v:Value} {G:List Nat} (ho:Only F5 w w') (r:(strs 9).rep true w' ys [v] G) (hs:∀ x∈G,x∈F5∨w.heap.size≤x) (hn:G.Nodup):OwnSs (w'.setCell ⟨g,12,none⟩ v) g { q with words:=ys } a0 a1 a2 a3 a4 v F0 F1 F2 F3 F4 G:=by
 have hf:=h.far;have hl:=h.lt;have hg:=h.row.lt;have nd:=h.tail_nd;simp only [List.mem_append,not_or] at hf;have nd2:((F3++F4)++(F5++[])).Nodup:=by simpa [List.append_assoc] using nd
 have hgG:g∉G:=fun hin=>by rcases hs g hin with h1 | h1; exact hf.2.2 h1; omega
 have d3:∀ x∈F3,x∉F5:=fun x hx hy=>(List.nodup_append.1 nd2).2.2 x (by simp [hx]) x (by simp [hy]) rfl
 have d4:∀ x∈F4,x∉F5:=fun x hx hy=>(List.nodup_append.1 nd2).2.2 x (by simp [hx]) x (by simp [hy]) rfl
 refine h.step (D:=g :: F5) ((ho.mono (fun x hx=>List.mem_cons_of_mem _ hx)).set (p:=⟨g,12,none⟩) (by simp) _) rfl ((h.row.onl ho hf.2.2).set 12 _) (Ty.rep.setCell (T:=pStrokes _ _) (h.r3.only ho d3) (p:=⟨g,12,none⟩) hf.1 _) (Ty.rep.setCell (T:=pPoints _) (h.r4.only ho d4) (p:=⟨g,12,none⟩) hf.2.1 _) (Ty.rep.setCell (T:=strs _) r (p:=⟨g,12,none⟩) hgG _) (h.apart (fun x hx=>by rcases List.mem_cons.1 hx with h1 | h1; exact .inl h1; exact .inr (.inl (by simp [h1])))) ?_ ?_
 · have:=nd_put (n:=w.heap.size) nd2 hn hs (fun x hx=>hl x (by simp only [List.mem_append] at hx ⊢; rcases hx with h | h <;> simp [h])) (by simp)
   simpa [List.append_assoc] using this
 · intro x hx
   simp only [List.mem_append] at hx ⊢;rcases hx with h1 | h1 | h1
   · exact .inl (.inl h1)
   · exact .inl (.inr (.inl h1))
   · exact (hs x h1).imp (fun h=>.inr (.inr h)) id
theorem OwnSs.putOpen (h:OwnSs w g q a0 a1 a2 a3 a4 a5 F0 F1 F2 F3 F4 F5) {ys:PStroke} {v:Value} {G:List Nat} (ho:Only F4 w w') (r:(pPoints 85).rep true w' ys [v] G) (hs:∀ x∈G,x∈F4∨w.heap.size≤x) (hn:G.Nodup):OwnSs (w'.setCell ⟨g,10,none⟩ v) g { q with opn:=ys } a0 a1 a2 a3 v a5 F0 F1 F2 F3 G F5:=by
 have hf:=h.far;have hl:=h.lt;have hg:=h.row.lt;have nd:=h.tail_nd;simp only [List.mem_append,not_or] at hf;have hgG:g∉G:=fun hin=>by rcases hs g hin with h1 | h1; exact hf.2.1 h1; omega
 have d3:∀ x∈F3,x∉F4:=fun x hx hy=>(List.nodup_append.1 nd).2.2 x hx x (by simp [hy]) rfl
 have d5:∀ x∈F5,x∉F4:=fun x hx hy=>(List.nodup_append.1 (List.nodup_append.1 nd).2.1).2.2 x hy x hx rfl
 refine h.step (D:=g :: F4) ((ho.mono (fun x hx=>List.mem_cons_of_mem _ hx)).set (p:=⟨g,10,none⟩) (by simp) _) rfl ((h.row.onl ho hf.2.1).set 10 _) (Ty.rep.setCell (T:=pStrokes _ _) (h.r3.only ho d3) (p:=⟨g,10,none⟩) hf.1 _) (Ty.rep.setCell (T:=pPoints _) r (p:=⟨g,10,none⟩) hgG _) (Ty.rep.setCell (T:=strs _) (h.r5.only ho d5) (p:=⟨g,10,none⟩) hf.2.2 _) (h.apart (fun x hx=>by rcases List.mem_cons.1 hx with h1 | h1; exact .inl h1; exact .inr (.inl (by simp [h1])))) ?_ ?_
 · exact nd_put (n:=w.heap.size) nd hn hs (fun x hx=>hl x (by simp [hx])) (fun x hx=>hl x (by simp [hx]))
 · intro x hx
   simp only [List.mem_append] at hx ⊢;rcases hx with h1 | h1 | h1
   · exact .inl (.inl h1)
   · exact (hs x h1).imp (fun h=>.inr (.inl h)) id
   · exact .inl (.inr (.inr h1))
theorem OwnSs.penUp (h:OwnSs w g q a0 a1 a2 a3 a4 a5 F0 F1 F2 F3 F4 F5) {ys:List PStroke} {v u:Value} {G G':List Nat} {w2:World} (ho:Only F3 w w') (r:(pStrokes 85 89).rep true w' ys [v] G) (hs:∀ x∈G,x∈F3++F4∨w.heap.size≤x) (hn:G.Nodup)
 (hb:Below (w'.setCell ⟨g,9,none⟩ v).heap.size (w'.setCell ⟨g,9,none⟩ v) w2) (r2:(pPoints 85).rep true w2 [] [u] G') (hs2:∀ x∈G',w'.heap.size≤x) (hn2:G'.Nodup) :
 OwnSs (w2.setCell ⟨g,10,none⟩ u) g { q with strokes:=ys,opn:=[] } a0 a1 a2 v u a5 F0 F1 F2 G G' F5:=by
 have hf:=h.far;have hl:=h.lt;have hg:=h.row.lt;have nd:=h.tail_nd;simp only [List.mem_append,not_or] at hf;have hsz:w.heap.size≤w'.heap.size:=ho.size
 have hgG:g∉G:=fun hin=>by
  rcases hs g hin with h1 | h1
  · simp only [List.mem_append] at h1; rcases h1 with h1 | h1; exact hf.1 h1; exact hf.2.1 h1
  · omega
 have hgG':g∉G':=fun hin=>by have:=hs2 g hin; omega
 have d5:∀ x∈F5,x∉F3:=fun x hx hy=>(List.nodup_append.1 nd).2.2 x hy x (by simp [hx]) rfl
 have o1:Only (g :: F3) w (w'.setCell ⟨g,9,none⟩ v):=(ho.mono (fun x hx=>List.mem_cons_of_mem _ hx)).set (p:=⟨g,9,none⟩) (by simp) _;have o2:Only (g :: F3) w w2:=o1.trans (Only.of_below hb);have hw':(w'.setCell ⟨g,9,none⟩ v).heap.size=w'.heap.size:=by simp
 refine h.step (D:=g :: F3) (o2.set (p:=⟨g,10,none⟩) (by simp) _) rfl ((((h.row.onl ho hf.1).set 9 _).later hb).set 10 _) (Ty.rep.setCell (T:=pStrokes _ _) ((Ty.rep.setCell (T:=pStrokes _ _) r (p:=⟨g,9,none⟩) hgG _).below hb) (p:=⟨g,10,none⟩) hgG _) (Ty.rep.setCell (T:=pPoints _) r2 (p:=⟨g,10,none⟩) hgG' _) (Ty.rep.setCell (T:=strs _) ((Ty.rep.setCell (T:=strs _) (h.r5.only ho d5) (p:=⟨g,9,none⟩) hf.2.2 _).below hb) (p:=⟨g,10,none⟩) hf.2.2 _) (h.apart (fun x hx=>by rcases List.mem_cons.1 hx with h1 | h1; exact .inl h1; exact .inr (.inl (by simp [h1])))) ?_ ?_
 · have hbG:=r.blocks
   have nd3:((F3++F4)++F5).Nodup:=by simpa [List.append_assoc] using nd
   refine List.nodup_append.2 ⟨hn,List.nodup_append.2 ⟨hn2,(List.nodup_append.1 nd3).2.1,fun x hx y hy e=>?_⟩,fun x hx y hy e=>?_⟩
   · have:=hs2 x hx; have:=hl y (by simp [hy]); omega
   · subst e
     rcases List.mem_append.1 hy with hy | hy
     · have:=hs2 x hy; have:=hbG x hx; omega
     · rcases hs x hx with h1 | h1
       · exact (List.nodup_append.1 nd3).2.2 x h1 x hy rfl
       · have:=hl x (by simp [hy]); omega
 · intro x hx
   simp only [List.mem_append] at hx ⊢;rcases hx with h1 | h1 | h1
   · rcases hs x h1 with h2 | h2
     · simp only [List.mem_append] at h2; exact .inl (by rcases h2 with h | h <;> simp [h])
     · exact .inr h2
   · exact .inr (by have:=hs2 x h1; omega)
   · exact .inl (.inr (.inr h1))
end
end Go.Proofs.YtafgknkcjohjeaaGreatDoor

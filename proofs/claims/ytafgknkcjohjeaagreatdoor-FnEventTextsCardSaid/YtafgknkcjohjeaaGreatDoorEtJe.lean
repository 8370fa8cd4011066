/- A setup is drawn, in the reference. Conditions: none. -/
import Derived.Test.YtafgknkcjohjeaaGreatDoorTke
import Derived.Test.YtafgknkcjohjeaaGreatDoorEtIe
import Derived.Test.YtafgknkcjohjeaaGreatDoorRyCe
import Derived.Test.YtafgknkcjohjeaaGreatDoorSlOpse
namespace Go.Proofs.YtafgknkcjohjeaaGreatDoor
open Go Go.RowKit
def DrawsSet (B g:Nat) (code:List UInt8) (m:Nat) (w:World) (e:Ending) (w':World):Prop:=∃ p v F,e=.returned v∧DrawnP p∧SetupIs idsI true w' p v F∧Fresh w.heap.size F∧SrcIs B g code m w'∧Only [g] w w'
def zeroSet:List Value:=[.int .i64 0,.slice none 0 0,.int .i64 0,.int .i64 0,.int .i64 0,.slice none 0 0,.int .i64 0,.slice none 0 0,.int .i64 0]
def DsIs (B g gO m j:Nat) (np mo pe pa:Int) (code:List UInt8) (w wr:World):Prop:=∃ (xs:List PTemp) (u:Value) (G:List Nat),(∀ t∈xs,tempB t=true)∧xs.length≤j∧Row wr gO 38 [.int .i64 8,u,.int .i64 np,.int .i64 mo,.int .i64 pe,.slice none 0 0,.int .i64 0,.slice none 0 0,.int .i64 pa]∧Row wr w.heap.size 38 zeroSet∧(pTemps 182 111).rep true wr xs [u] G∧Fresh (gO+1) G∧SrcIs B g code (m+5+64 * j) wr∧Only [g] w wr
def labelsT:List ByteArray:=[⟨#[97]⟩,⟨#[116]⟩,⟨#[101]⟩,⟨#[110]⟩,⟨#[105]⟩]
theorem labelsT_ok:∀ s∈labelsT,labelB s=true∧s.size≤1:=by decide +kernel
theorem labelsT_at (w:World):(strs 9).rep true (w.alloc (.cells #[.string ⟨#[97]⟩,.string ⟨#[116]⟩,.string ⟨#[101]⟩,.string ⟨#[110]⟩,.string ⟨#[105]⟩] 9)) labelsT [.slice (some ⟨w.heap.size,0,none⟩) 5 5] [w.heap.size] :=
 slice_of_row (xs:=labelsT) (Row.new w 9 #[.string ⟨#[97]⟩,.string ⟨#[116]⟩,.string ⟨#[101]⟩,.string ⟨#[110]⟩,.string ⟨#[105]⟩]) (repL_strs labelsT (by intro s hs; have:=(labelsT_ok s hs).2; unfold maxLen; omega)) (by simp [maxLen,labelsT])
theorem temp_ok {t:ByteArray} {s:PStroke} {n:Nat} (ht:labelB t=true) (hs:strokeB s=true) (hn:2≤n∧n≤24):tempB ⟨t,featsInk [s] n⟩=true:=by
 have h1:(featsInk [s] n).all featB=true:=List.all_eq_true.2 (featsInk_ok (xs:=[s]) (by simpa using hs) hn.1);have h2:=featsInk_len [s] n;rw [List.length_singleton,Nat.one_mul] at h2;rw [tempB,featsB,ht,h1,h2,decide_eq_true (show 1≤n by omega),decide_eq_true (show n≤72 by omega)]; rfl
set_option maxRecDepth 100000 in
set_option maxHeartbeats 16000000 in
theorem spec_l26DrawSetup_c {B g m:Nat} {code:List UInt8} (w:World) (h:SrcIs B g code m w) (hB:B≤w.heap.size) (hm:m≤800000) :
 Calls Tryz.prog 32 #[.pointer (some ⟨g,0,none⟩)] w (DrawsSet B g code (m+400) w):=by
 have lg:=h.low;have R0:=Row.new w 38 #[.int .i64 0,.slice none 0 0,.int .i64 0,.int .i64 0,.int .i64 0,.slice none 0 0,.int .i64 0,.slice none 0 0,.int .i64 0];have b0:Below w.heap.size w (w.alloc (.cells #[.int .i64 0,.slice none 0 0,.int .i64 0,.int .i64 0,.int .i64 0,.slice none 0 0,.int .i64 0,.slice none 0 0,.int .i64 0] 38)):=(Below.refl _ _).alloc (Nat.le_refl _) _;have S0:=h.below b0;clear h
 go_enter Tryz.func32,Tryz.ntmps32
 go_upto_region 1 with fail
 generalize w.alloc (.cells #[.int .i64 0,.slice none 0 0,.int .i64 0,.int .i64 0,.int .i64 0,.slice none 0 0,.int .i64 0,.slice none 0 0,.int .i64 0] 38)=w0 at R0 b0 S0 ⊢;have C:=Lib.hid (src_pick_c w0 S0 (by omega) 3 (by omega));have HO:=Lib.hid (show Only [g] w w0 from Only.of_below b0);have HR0:=Lib.hid R0;clear b0 S0 R0
 go_wp2_with fail
 refine C.out.mono ?_;rintro e w1 ⟨⟨r1,r10,r11,rfl⟩,S1,O1⟩;replace HR0:=Lib.hid (HR0.out.onl O1 (by simp only [List.mem_singleton]; have:=HR0.out.lt; omega));replace HO:=Lib.hid (HO.out.trans O1);obtain ⟨np,hnp⟩:=Int.eq_ofNat_of_zero_le (show 0≤3+r1 by omega);have e1:IntKind.i64.wrap (3+r1)=(np:Int):=(IntWalk.i64_in _ (by omega)).trans hnp;have hn:3≤np∧np≤5:=by omega
 replace C:=Lib.hid (src_pick_c w1 S1 (by omega) 3 (by omega));clear S1 O1 hnp r10 r11
 go_wp2_with fail
 refine C.out.mono ?_;rintro e w2 ⟨⟨r2,r20,r21,rfl⟩,S2,O2⟩;replace HR0:=Lib.hid (HR0.out.onl O2 (by simp only [List.mem_singleton]; have:=HR0.out.lt; omega));replace HO:=Lib.hid (HO.out.trans O2);have e2:=IntWalk.i64_in (1+r2) (by omega);replace C:=Lib.hid (src_pick_c w2 S2 (by omega) 40 (by omega));clear S2 O2 e1
 go_wp2_with fail
 refine C.out.mono ?_;rintro e w3 ⟨⟨pe,pe0,pe1,rfl⟩,S3,O3⟩;replace HR0:=Lib.hid (HR0.out.onl O3 (by simp only [List.mem_singleton]; have:=HR0.out.lt; omega));replace HO:=Lib.hid (HO.out.trans O3);have hmo:1≤1+r2∧1+r2≤3:=by omega
 generalize 1+r2=mo at hmo e2 ⊢;have bA:Below w3.heap.size w3 (w3.alloc (.cells #[.int .i64 50,.int .i64 100,.int .i64 400] 2)):=(Below.refl _ _).alloc (Nat.le_refl _) _;replace C:=Lib.hid (src_among_c _ (S3.below bA) (by omega) (three_numsE w3 2 50 100 400 ⟨by constructor <;> omega,by constructor <;> omega,by constructor <;> omega⟩) (by simp only [List.mem_singleton]; have:=HR0.out.lt; omega) (by decide) (by decide));replace HR0:=Lib.hid (HR0.out.later bA);replace HO:=Lib.hid (HO.out.trans (Only.of_below bA));clear S3 O3 e2 bA r20 r21
 go_wp2_with fail
 refine C.out.mono ?_;rintro e w4 ⟨⟨pa,hpa,rfl⟩,S4,O4⟩;have hpa2:1≤pa∧pa≤60000:=by simp at hpa; omega
 replace HR0:=Lib.hid (HR0.out.onl O4 (by simp only [List.mem_singleton]; have:=HR0.out.lt; omega));replace HO:=Lib.hid (HO.out.trans O4);clear C O4 hpa;have R1:=Row.new w4 38 #[.int .i64 0,.slice none 0 0,.int .i64 np,.int .i64 mo,.int .i64 pe,.slice none 0 0,.int .i64 0,.slice none 0 0,.int .i64 pa];have b1:Below w4.heap.size w4 (w4.alloc (.cells #[.int .i64 0,.slice none 0 0,.int .i64 np,.int .i64 mo,.int .i64 pe,.slice none 0 0,.int .i64 0,.slice none 0 0,.int .i64 pa] 38)):=(Below.refl _ _).alloc (Nat.le_refl _) _
 go_upto_region 2 with fail
 generalize w4.alloc (.cells #[.int .i64 0,.slice none 0 0,.int .i64 np,.int .i64 mo,.int .i64 pe,.slice none 0 0,.int .i64 0,.slice none 0 0,.int .i64 pa] 38)=w5 at R1 b1 ⊢;have hgO:w.heap.size < w4.heap.size:=HR0.out.lt;replace HR0:=Lib.hid (HR0.out.later b1);replace HO:=Lib.hid (HO.out.trans (Only.of_below b1));have S5:=S4.below b1;generalize w4.heap.size=gO at R1 hgO ⊢;clear S4 b1;have v0:=R1.c0;have vF:=R1.frozen;have R2:=R1.set 0 (.int .i64 8)
 go_upto_region 3 with fail
 clear v0 vF;have HR2:=Lib.hid R2;replace HR0:=Lib.hid (HR0.out.far (p:=⟨gO,0,none⟩) (by show w.heap.size≠gO; omega) (.int .i64 8));replace HO:=Lib.hid (only_setE HO.out (p:=⟨gO,0,none⟩) (by show w.heap.size≤gO; omega) (.int .i64 8));have S6:=S5.only ((Only.refl [gO] w5).set (p:=⟨gO,0,none⟩) (by simp) (.int .i64 8)) (by intro b hb; simp only [List.mem_singleton] at hb; omega);clear S5 R1 R2;generalize w5.setCell ⟨gO,0,none⟩ (.int .i64 8)=w6 at HR2 HR0 HO S6 ⊢;have C:=Lib.hid (src_pick_c w6 S6 (by omega) 4 (by omega));clear S6
 go_wp2_with fail
 refine C.out.mono ?_;rintro e w7 ⟨⟨r,r0,r1',rfl⟩,S7,O7⟩;obtain ⟨k0,hk0⟩:=Int.eq_ofNat_of_zero_le (show 0≤1+r by omega);have ek:IntKind.i64.wrap (1+r)=(k0:Int):=(IntWalk.i64_in _ (by omega)).trans hk0;have hkb:1≤k0∧k0≤4:=by omega
 have hst:DsIs B g gO m 0 np mo pe pa code w w7:=⟨[],_,[],by simp,by simp,HR2.out.onl O7 (by simp only [List.mem_singleton]; omega),HR0.out.onl O7 (by simp only [List.mem_singleton]; omega),slice_nil _ _ _ _,⟨by simp,by simp⟩,S7.more (by omega),HO.out.trans O7⟩
 have HST:=Lib.hid hst;clear C S7 O7 HR2 HR0 HO hst hk0 r0 r1'
 go_wp2_with fail
 go_loopw [4] (fun vk wr=>∃ (k j:Nat),vk=.int .i64 (k:Int)∧j+k=k0∧Hid (DsIs B g gO m j np mo pe pa code w wr)) (fun i _=>(intOf i).toNat)
 case atStart=>exact ⟨k0,0,rfl,by omega,HST⟩
 case round =>
  obtain ⟨k,j,rfl,hjk,all⟩:=hrel;cases k with
  | zero =>
    have z0:decide ((0:Int) < 0)=false:=rfl;obtain ⟨xs,u,G,hT,hlen,rO,rT,rep,fr,src,onl⟩:=all.out;obtain ⟨U,un,uc,rfl⟩:=slice_form rep;have C:=Lib.hid (spec_l16Draw_c (most:=16) wr src (by have:=rT.lt; omega) (by omega) (by omega));have HRO:=Lib.hid rO;have HRT:=Lib.hid rT;have HRP:=Lib.hid rep;have HFR:=Lib.hid fr;have HON:=Lib.hid onl;have HT:=Lib.hid hT;clear all rO rT rep fr src onl hT
    go_wp2_with fail
    refine C.out.mono ?_;rintro e w8 ⟨es,ue,Ge,rfl,hL,hLn,re,fe,S8,O8⟩;obtain ⟨E,en,ec,rfl⟩:=slice_form re;have lO:gO < wr.heap.size:=HRO.out.lt;have lB:∀ b∈G,b < wr.heap.size:=HRP.out.blocks;have z8:=O8.size;replace HRO:=Lib.hid (HRO.out.onl O8 (by simp only [List.mem_singleton]; omega));replace HRT:=Lib.hid (HRT.out.onl O8 (by simp only [List.mem_singleton]; omega));replace HRP:=Lib.hid (HRP.out.only O8 (fun z hz hin=>by simp only [List.mem_singleton] at hin; have:=HFR.out.2 z hz; omega));replace HON:=Lib.hid (HON.out.trans O8);have v5:=HRO.out.c5;have vF:=HRO.out.frozen;have hne:gO∉Ge:=fun hin=>by have:=fe.2 _ hin; omega
    have hnG:gO∉G:=fun hin=>by have:=HFR.out.2 _ hin; omega
    clear C O8
    go_upto_region 9 with fail
    clear v5 vF;have RE9:=Lib.hid (Ty.rep.setCell (T:=pEntrys 138) re (p:=⟨gO,5,none⟩) hne (.slice E en ec));replace HRO:=Lib.hid (HRO.out.set 5 (.slice E en ec));replace HRT:=Lib.hid (HRT.out.far (p:=⟨gO,5,none⟩) (by show w.heap.size≠gO; omega) (.slice E en ec));replace HRP:=Lib.hid (Ty.rep.setCell (T:=pTemps _ _) HRP.out (p:=⟨gO,5,none⟩) hnG (.slice E en ec));replace HON:=Lib.hid (only_setE HON.out (p:=⟨gO,5,none⟩) (by show w.heap.size≤gO; omega) (.slice E en ec));have S9:=S8.only ((Only.refl [gO] w8).set (p:=⟨gO,5,none⟩) (by simp) (.slice E en ec)) (by intro b hb; simp only [List.mem_singleton] at hb; omega);have z9:wr.heap.size≤(w8.setCell ⟨gO,5,none⟩ (.slice E en ec)).heap.size:=by rw [World.size_setCell]; exact z8
    have HFE:=Lib.hid fe;have HL:=Lib.hid hL;clear S8 re fe hL;generalize w8.setCell ⟨gO,5,none⟩ (.slice E en ec)=w9 at RE9 HRO HRT HRP HON S9 z9 ⊢;have C:=Lib.hid (spec_l18Draw_c (most:=6) w9 S9 (by omega) (by omega) (by omega));clear S9
    go_wp2_with fail
    refine C.out.mono ?_;rintro e w10 ⟨d,bs,ub,Gb,rfl,hd,hM,hMn,rb,fb,S10,O10⟩;obtain ⟨Bb,bn,bc,rfl⟩:=slice_form rb;have lE:∀ b∈Ge,b < w9.heap.size:=RE9.out.blocks;have lP:∀ b∈G,b < w9.heap.size:=HRP.out.blocks;replace HRO:=Lib.hid (HRO.out.onl O10 (by simp only [List.mem_singleton]; omega));replace HRT:=Lib.hid (HRT.out.onl O10 (by simp only [List.mem_singleton]; omega));replace HRP:=Lib.hid (HRP.out.only O10 (fun z hz hin=>by simp only [List.mem_singleton] at hin; have:=HFR.out.2 z hz; omega));replace RE9:=Lib.hid (RE9.out.only O10 (fun z hz hin=>by simp only [List.mem_singleton] at hin; have:=HFE.out.2 z hz; omega));replace HON:=Lib.hid (HON.out.trans O10);have v6:=HRO.out.cell' (i:=6) rfl;have v7:=HRO.out.cell' (i:=7) rfl;have vF:=HRO.out.frozen;have hnb:gO∉Gb:=fun hin=>by have:=fb.2 _ hin; omega
    have hne2:w.heap.size∉Ge:=fun hin=>by have:=HFE.out.2 _ hin; omega
    have hnG2:w.heap.size∉G:=fun hin=>by have:=HFR.out.2 _ hin; omega
    have hnb2:w.heap.size∉Gb:=fun hin=>by have:=fb.2 _ hin; omega
    clear C O10
    go_upto_region 10 with fail
    clear v6 v7 vF;have RB:=Lib.hid (Ty.rep.setCell (T:=pBigrams 143) (Ty.rep.setCell (T:=pBigrams 143) rb (p:=⟨gO,6,none⟩) hnb (.int .i64 d)) (p:=⟨gO,7,none⟩) hnb (.slice Bb bn bc));replace RE9:=Lib.hid (Ty.rep.setCell (T:=pEntrys 138) (Ty.rep.setCell (T:=pEntrys 138) RE9.out (p:=⟨gO,6,none⟩) hne (.int .i64 d)) (p:=⟨gO,7,none⟩) hne (.slice Bb bn bc));replace HRO:=Lib.hid ((HRO.out.set 6 (.int .i64 d)).set 7 (.slice Bb bn bc));replace HRT:=Lib.hid ((HRT.out.far (p:=⟨gO,6,none⟩) (by show w.heap.size≠gO; omega) (.int .i64 d)).far (p:=⟨gO,7,none⟩) (by show w.heap.size≠gO; omega) (.slice Bb bn bc));replace HRP:=Lib.hid (Ty.rep.setCell (T:=pTemps _ _) (Ty.rep.setCell (T:=pTemps _ _) HRP.out (p:=⟨gO,6,none⟩) hnG (.int .i64 d)) (p:=⟨gO,7,none⟩) hnG (.slice Bb bn bc));replace HON:=Lib.hid (only_setE (only_setE HON.out (p:=⟨gO,6,none⟩) (by show w.heap.size≤gO; omega) (.int .i64 d)) (p:=⟨gO,7,none⟩) (by show w.heap.size≤gO; omega) (.slice Bb bn bc));have S11:=Lib.hid (S10.only (((Only.refl [gO] w10).set (p:=⟨gO,6,none⟩) (by simp) (.int .i64 d)).set (p:=⟨gO,7,none⟩) (by simp) (.slice Bb bn bc)) (by intro b hb; simp only [List.mem_singleton] at hb; omega));have HFB:=Lib.hid fb;have HD:=Lib.hid hd;have HM:=Lib.hid hM;clear rb fb S10 hd hM;generalize (w10.setCell ⟨gO,6,none⟩ (.int .i64 d)).setCell ⟨gO,7,none⟩ (.slice Bb bn bc)=wz at RB RE9 HRO HRT HRP HON S11 ⊢;have LU:un=xs.length:=by obtain ⟨A',c',e'⟩:=slice_len HRP.out; injection e' with _ e2 _
    have LE:en=es.length:=by obtain ⟨A',c',e'⟩:=slice_len RE9.out; injection e' with _ e2 _
    have LB:bn=bs.length:=by obtain ⟨A',c',e'⟩:=slice_len RB.out; injection e' with _ e2 _
    have HLU:=Lib.hid (And.intro LU (And.intro LE LB));clear LU LE LB;have y0:=HRO.out.c0;have y1:=HRO.out.c1;have y2:=HRO.out.c2;have y3:=HRO.out.c3;have y4:=HRO.out.c4;have y5:=HRO.out.c5;have y6:=HRO.out.cell' (i:=6) rfl;have y7:=HRO.out.cell' (i:=7) rfl;have y8:=HRO.out.cell' (i:=8) rfl;have vF:=HRT.out.frozen;have u0:=HRT.out.c0;have u1:=HRT.out.c1;have u2:=HRT.out.c2;have u3:=HRT.out.c3;have u4:=HRT.out.c4;have u5:=HRT.out.c5;have u6:=HRT.out.cell' (i:=6) rfl;have u7:=HRT.out.cell' (i:=7) rfl;have u8:=HRT.out.cell' (i:=8) rfl;have RR:=((((((((HRT.out.set 0 (.int .i64 8)).set 1 (.slice U un uc)).set 2 (.int .i64 np)).set 3 (.int .i64 mo)).set 4 (.int .i64 pe)).set 5 (.slice E en ec)).set 6 (.int .i64 d)).set 7 (.slice Bb bn bc)).set 8 (.int .i64 pa);have q0:=RR.c0;have q1:=RR.c1;have q2:=RR.c2;have q3:=RR.c3;have q4:=RR.c4;have q5:=RR.c5;have q6:=RR.cell' (i:=6) rfl;have q7:=RR.cell' (i:=7) rfl;have q8:=RR.cell' (i:=8) rfl;have OR:=Lib.hid ((((((((((Only.refl [w.heap.size] wz).set (p:=⟨w.heap.size,0,none⟩) (by simp) (.int .i64 8)).set (p:=⟨w.heap.size,1,none⟩) (by simp) (.slice U un uc)).set (p:=⟨w.heap.size,2,none⟩) (by simp) (.int .i64 np)).set (p:=⟨w.heap.size,3,none⟩) (by simp) (.int .i64 mo)).set (p:=⟨w.heap.size,4,none⟩) (by simp) (.int .i64 pe)).set (p:=⟨w.heap.size,5,none⟩) (by simp) (.slice E en ec)).set (p:=⟨w.heap.size,6,none⟩) (by simp) (.int .i64 d)).set (p:=⟨w.heap.size,7,none⟩) (by simp) (.slice Bb bn bc)).set (p:=⟨w.heap.size,8,none⟩) (by simp) (.int .i64 pa));clear RR
    go_wp2_with fail
    refine bodyPost_ret (v:=.agg #[.int .i64 8,.slice U un uc,.int .i64 np,.int .i64 mo,.int .i64 pe,.slice E en ec,.int .i64 d,.slice Bb bn bc,.int .i64 pa]) (by simp only [results,Tryz.results32]; go_simp) rfl ?_;have nz:∀ F:List Nat,w.heap.size∉F→∀ z∈F,z∉[w.heap.size]:=fun F h z hz hin=>by simp only [List.mem_singleton] at hin; exact h (hin ▸ hz)
    refine ⟨⟨8,xs,np,mo,pe,es,d,bs,pa⟩,_,G++(Ge++Gb),rfl,⟨HT.out,by show xs.length≤40; omega,rfl,⟨by show 2≤(np:Int)∧(np:Int)≤24; omega,by show 1≤mo∧mo≤8; omega,by show 0≤pe∧pe≤1000; omega⟩,HL.out,by show es.length≤60; omega,HM.out,by show bs.length≤60; omega,HD.out,hpa2⟩,⟨_,_,_,G,Ge,Gb,rfl,rfl,HRP.out.only OR.out (nz _ hnG2),RE9.out.only OR.out (nz _ hne2),RB.out.only OR.out (nz _ hnb2)⟩,?_,(S11.out.only OR.out (by simpa using hB)).more (by omega),only_ownE HON.out OR.out (by simp)⟩;exact fresh_join (B:=w.heap.size) (N:=wr.heap.size) (HFR.out.mono (by omega)) lB (fresh_join (N:=w9.heap.size) HFE.out lE HFB.out z9) (by omega)
  | succ k1 =>
    have gk2:(0:Int) < ((k1+1:Nat):Int):=by omega
    have km:IntKind.i64.wrap (((k1+1:Nat):Int) - 1)=(k1:Int):=(IntWalk.i64_in _ (by omega)).trans (by omega);generalize hkk:((k1+1:Nat):Int)=kk at gk2 km ⊢;have gk3:decide (0 < kk)=true:=decide_eq_true gk2;have HKK:=Lib.hid hkk;obtain ⟨xs,u,G,hT,hlen,rO,rT,rep,fr,src,onl⟩:=all.out;obtain ⟨U,un,uc,rfl⟩:=slice_form rep;have C:=Lib.hid (spec_l02DrawStroke_c wr src (by have:=rT.lt; omega) (by omega));have HRO:=Lib.hid rO;have HRT:=Lib.hid rT;have HRP:=Lib.hid rep;have HFR:=Lib.hid fr;have HON:=Lib.hid onl;have HT:=Lib.hid hT;have hOr:gO < wr.heap.size:=rO.lt;clear hkk all rO rT rep fr src onl hT
    go_wp2_with fail
    refine C.out.mono ?_;rintro e w8 ⟨s,us,Fs,t,rfl,hD,hsl,rs,fs,S8,O8⟩;obtain ⟨Sb,sn,sc,rfl⟩:=slice_form rs;have z8:=O8.size;have bI:Below w8.heap.size w8 ((w8.alloc (.cells #[.slice Sb sn sc] 89)).alloc (.cells #[.slice (some ⟨w8.heap.size,0,none⟩) 1 1] 41)):=((Below.refl _ _).alloc (Nat.le_refl _) _).alloc (by simp) _;have RI:=Row.new (w8.alloc (.cells #[.slice Sb sn sc] 89)) 41 #[.slice (some ⟨w8.heap.size,0,none⟩) 1 1];rw [World.size_alloc] at RI;have INK:=Lib.hid (slice_of_row (T:=pStroke 85) (xs:=[s]) ((Row.new w8 89 #[.slice Sb sn sc]).alloc (.cells #[.slice (some ⟨w8.heap.size,0,none⟩) 1 1] 41)) (repL_single.2 (rs.below bI)) (by simp [maxLen]));replace HRO:=Lib.hid ((HRO.out.onl O8 (by simp only [List.mem_singleton]; omega)).later bI);replace HRT:=Lib.hid ((HRT.out.onl O8 (by simp only [List.mem_singleton]; omega)).later bI);replace HRP:=Lib.hid ((HRP.out.only O8 (fun z hz hin=>by simp only [List.mem_singleton] at hin; have:=HFR.out.2 z hz; omega)).below bI);replace HON:=Lib.hid ((HON.out.trans O8).trans (Only.of_below bI));have HSR:=Lib.hid (S8.below bI);have HSK:=Lib.hid (hD.stroke hsl.1 (by omega));have INKF:=Lib.hid (show ∀ z∈w8.heap.size :: Fs,wr.heap.size≤z from fun z hz=>by rcases List.mem_cons.1 hz with rfl | h; exact z8; exact fs.2 z h);have HRI:=Lib.hid RI;have hIi:w8.heap.size+1 < ((w8.alloc (.cells #[.slice Sb sn sc] 89)).alloc (.cells #[.slice (some ⟨w8.heap.size,0,none⟩) 1 1] 41)).heap.size:=RI.lt;have hO8:gO < w8.heap.size:=by omega
    clear C hD rs fs S8 O8 bI RI
    go_upto_region 7 with fail
    generalize (w8.alloc (.cells #[.slice Sb sn sc] 89)).alloc (.cells #[.slice (some ⟨w8.heap.size,0,none⟩) 1 1] 41)=w9 at HRO HRT HRP HON HSR HRI INK hIi ⊢;generalize w8.heap.size=gS at HRI INK INKF hIi hO8 ⊢;have BZ:=(Below.refl w9.heap.size w9).drew;replace HRO:=Lib.hid (HRO.out.later BZ);replace HRT:=Lib.hid (HRT.out.later BZ);replace HRP:=Lib.hid (HRP.out.below BZ);replace HON:=Lib.hid (HON.out.trans (Only.of_below BZ));replace HSR:=Lib.hid (HSR.out.below BZ);replace HRI:=Lib.hid (HRI.out.later BZ);replace INK:=Lib.hid (INK.out.below BZ);have hS:(fun w':World=>w'.cell? ⟨gO,2,none⟩=some (.int .i64 np)) w9.drew:=HRO.out.c2;refine wp_region_held_drew (S:=(fun w':World=>w'.cell? ⟨gO,2,none⟩=some (.int .i64 np))) (by kernel_rfl) hS (fun _=>?_);clear BZ;generalize w9.drew=we at HRO HRT HRP HON HSR HRI INK hS ⊢;refine tJ 0 hS ?_;refine tJ 1 hS ?_;refine tJ 3 hS ?_;refine tJ 6 hS ?_;refine tJ 7 hS ?_;refine tJ 8 hS ?_;have bA:Below we.heap.size we (we.alloc (.cells #[.string ⟨#[97]⟩,.string ⟨#[116]⟩,.string ⟨#[101]⟩,.string ⟨#[110]⟩,.string ⟨#[105]⟩] 9)):=(Below.refl _ _).alloc (Nat.le_refl _) _;have LW:=labelsT_at we;have HROa:=Lib.hid (HRO.out.later bA);have HRTa:=Lib.hid (HRT.out.later bA);have HRPa:=Lib.hid (HRP.out.below bA);have HONa:=Lib.hid (HON.out.trans (Only.of_below bA));have HRIa:=Lib.hid (HRI.out.later bA);have INKa:=Lib.hid (INK.out.below bA);have hSa:(fun w':World=>w'.cell? ⟨gO,2,none⟩=some (.int .i64 np)) (we.alloc (.cells #[.string ⟨#[97]⟩,.string ⟨#[116]⟩,.string ⟨#[101]⟩,.string ⟨#[110]⟩,.string ⟨#[105]⟩] 9)):=HROa.out.c2;have CT:=Lib.hid (src_text_c _ (HSR.out.below bA) (by omega) LW (by simp only [List.mem_singleton]; have:=HRO.out.lt; omega) (by decide) (by decide));clear bA LW HRT HRP HON HSR HRI INK;refine rJ2 2 4 (fun K hK=>?ga) (fun K hK=>?gb)
    case' ga =>
     have y1:=HRO.out.c1
     go_simp
     refine bJ hK hS ?_;clear hK K y1;refine rJ 4 fun K hK=>?_
    all_goals (
     go_simp
     refine bJ hK hSa ?_;clear hK K hS HRO;have hS:=hSa;clear hSa
     )
    case' ga =>
     refine rJ 5 fun K hK=>?_
    case' gb =>
     refine rJ2 2 5 (fun K hK=>?gc) (fun K hK=>?gd)
    case' gc =>
     have y1:=HROa.out.c1
     go_simp
     refine bJ hK hS ?_;clear hK K y1;refine rJ 5 fun K hK=>?_
    all_goals (
     refine step_call 45 #[.tmp 35,.tmp 36] _ rfl rfl #[.pointer (some ⟨g,0,none⟩),.slice (some ⟨we.heap.size,0,none⟩) 5 5] Tryz.call45 (by go_simp) CT.out ?_;rintro e wf ⟨⟨t',ht',rfl⟩,Sf,Of⟩;refine ⟨_,rfl,?_⟩;have HROb:=Lib.hid (HROa.out.onl Of (by simp only [List.mem_singleton]; omega));have HRTb:=Lib.hid (HRTa.out.onl Of (by simp only [List.mem_singleton]; omega));have HRPb:=Lib.hid (HRPa.out.only Of (fun z hz hin=>by simp only [List.mem_singleton] at hin; have:=HFR.out.2 z hz; omega));have HONb:=Lib.hid (HONa.out.trans Of);have HRIb:=Lib.hid (HRIa.out.onl Of (by simp only [List.mem_singleton]; omega));have INKb:=Lib.hid (INKa.out.only Of (fun z hz hin=>by simp only [List.mem_singleton] at hin; have:=INKF.out z hz; omega));have HSRb:=Lib.hid Sf;have HTb:=Lib.hid (labelsT_ok t' ht');replace hS:=(show (fun w':World=>w'.cell? ⟨gO,2,none⟩=some (.int .i64 np)) wf from HROb.out.c2)
     have hzf:gO < wf.heap.size:=HROb.out.lt;have CF:=Lib.hid (spec_l08Of_c (n:=np) wf HRIb.out.lt HRIb.out.c0 INKb.out (by simpa using HSK.out) (by simp) (by simp) (by omega));clear CT Sf Of ht' HROa HRTa HRPa HONa HRIa INKa;refine bJ hK hS ?_;clear hK K;simp only [Act.put,pA,pB,pC]
     )
    case' gd =>
     refine rJ2 2 9 (fun K hK=>?ge) (fun K hK=>?gf)
    case' ge =>
     have y1:=HROb.out.c1
     go_simp
     refine bJ hK hS ?_;clear hK K y1;refine rJ 9 fun K hK=>?_
    case' ga =>
     refine rJ 9 fun K hK=>?_
    case' gc =>
     refine rJ 9 fun K hK=>?_
    all_goals (
     refine step_call 46 #[.tmp 5,.tmp 40] _ rfl rfl #[.pointer (some ⟨gS+1,0,none⟩),.int .i64 (np:Int)] Tryz.call46 (by go_simp) CF.out ?_;rintro e wh ⟨uf,Ff,rfl,rf,ff,bf⟩;refine ⟨_,rfl,?_⟩;obtain ⟨Vf,nf,cf,rfl⟩:=slice_form rf;have HROc:=Lib.hid (HROb.out.later bf);replace hS:=(show (fun w':World=>w'.cell? ⟨gO,2,none⟩=some (.int .i64 np)) wh from HROc.out.c2)
     clear CF HRIb INKb;refine bJ hK hS ?_;clear hK K;simp only [Act.put,pA,pB,pC];refine tJ 10 hS ?_
     )
    case' gf =>
     refine rJ2 2 11 (fun K hK=>?gg) (fun K hK=>?gh)
    case' gg =>
     have y1:=HROc.out.c1
     go_simp
     refine bJ hK hS ?_;clear hK K y1;refine rJ 11 fun K hK=>?_
    case' ga =>
     refine rJ 11 fun K hK=>?_
    case' gc =>
     refine rJ 11 fun K hK=>?_
    case' ge =>
     refine rJ 11 fun K hK=>?_
    all_goals (
     have HROd:=Lib.hid (HROc.out.alloc (.cells #[.string t',.slice Vf nf cf] 111))
     go_simp
     replace hS:=(show (fun w':World=>w'.cell? ⟨gO,2,none⟩=some (.int .i64 np)) (wh.alloc (.cells #[.string t',.slice Vf nf cf] 111)) from HROd.out.c2)
     refine bJ hK hS ?_;clear hK K
     )
    case' gh =>
     refine rJ 2 fun K hK=>?_
     have y1:=HROd.out.c1
     go_simp
     refine bJ hK hS ?_;clear hK K y1
    all_goals (
     refine rJ 12 fun K hK=>?_
     have HG2:=Lib.hid (fresh_app (B:=gO+1) (w:=wf) HFR.out HRPb.out.blocks ff (by omega));have bff:=Lib.hid (show Below wf.heap.size wf (wh.alloc (.cells #[.string t',.slice Vf nf cf] 111)) from bf.alloc bf.size _);refine step_append_repX (T:=pTemp 182) (e:=111) (xs:=xs) (ys:=[⟨t',featsInk [s] np⟩]) (ec:=[.string t',.slice Vf nf cf]) rfl (.tmp 34) (.tmp 43) (by rfl) Tryz.underlying26 Tryz.infoTemp rfl (by decide) (by rfl) (HRPb.out.below bff.out) (by rfl) (repL_single.2 (pTemp_rep.2 ⟨_,rfl,by have:=HTb.out.2; show t'.size≤maxLen; unfold maxLen; omega,rf.alloc _⟩)) (cellsAt_new _ _ _) (by simpa using HG2.out.1) (by simp [maxLen]; omega) (by simp; omega) ?_;intro v12 w12 F12 r12 o12 q12 x12;obtain ⟨Av,nv,kv,rfl⟩:=slice_form r12;have szf:=bff.out.size;have ngO:gO∉G:=fun hx=>by have:=HFR.out.2 _ hx; omega
     have ngW:w.heap.size∉G:=fun hx=>by have:=HFR.out.2 _ hx; omega
     have RO:=HROd.out.onl o12 ngO;have RT:=(HRTb.out.later bff.out).onl o12 ngW;have FF:=q12 (gO+1) (by simpa using HG2.out) (by omega);have SR:=(HSRb.out.below bff.out).only o12 (fun z hz=>by have:=HFR.out.2 z hz; omega);have ON:=only_ownE (HONb.out.trans (Only.of_below bff.out)) o12 (fun z hz=>by have:=HFR.out.2 z hz; omega);replace hS:=(show (fun w':World=>w'.cell? ⟨gO,2,none⟩=some (.int .i64 np)) w12 from RO.c2)
     refine bJ hK hS ?_;clear hK K;simp only [Act.put,pA,pB,pC];refine tJ 13 hS ?_;refine tJ 14 hS ?_;refine rJ 15 fun K hK=>?_
     have v1:=RO.c1;have vF:=RO.frozen
     go_simp
     have hnF:gO∉F12:=fun hin=>by have:=FF.2 _ hin; omega
     have RO9:=RO.set 1 (.slice Av nv kv);have hS9:=(show (fun w':World=>w'.cell? ⟨gO,2,none⟩=some (.int .i64 np)) _ from RO9.c2)
     refine bJ hK hS9 ?_;clear hK K v1 vF hS hS9;refine wpAnyH_done (by kernel_rfl) ?_ _
     have HTT:∀ z∈xs++[(⟨t',featsInk [s] np⟩:PTemp)],tempB z=true:=by
      intro z hz;rcases List.mem_append.1 hz with h | h
      · exact HT.out z h
      · rw [List.mem_singleton] at h; subst h; exact temp_ok HTb.out.1 HSK.out (by omega)
     have NEW:=Lib.hid (show DsIs B g gO m (j+1) np mo pe pa code w (w12.setCell ⟨gO,1,none⟩ (.slice Av nv kv)) from ⟨_,_,F12,HTT,by rw [List.length_append,List.length_singleton]; omega,RO9,RT.far (p:=⟨gO,1,none⟩) (by show w.heap.size≠gO; omega) (.slice Av nv kv),Ty.rep.setCell (T:=pTemps _ _) r12 (p:=⟨gO,1,none⟩) hnF (.slice Av nv kv),FF,(SR.only ((Only.refl [gO] w12).set (p:=⟨gO,1,none⟩) (by simp) (.slice Av nv kv)) (by intro b hb; simp only [List.mem_singleton] at hb; omega)).more (by omega),only_setE ON (p:=⟨gO,1,none⟩) (by show w.heap.size≤gO; omega) (.slice Av nv kv)⟩);clear HTT;clear RO RT FF SR ON r12 o12 q12 x12 rf ff bf bff HG2 RO9 HROd HROc
     go_wp2_with fail
     exact ⟨⟨k1,j+1,by first | rfl | go_num,by omega,NEW⟩,by simp [intOf]; have:=HKK.out; omega⟩
     )
end Go.Proofs.YtafgknkcjohjeaaGreatDoor

/- An event is drawn, in the reference: its numbers are numbers. Conditions: none. -/
import Derived.Test.YtafgknkcjohjeaaGreatDoorTke
import Derived.Test.YtafgknkcjohjeaaGreatDoorEtGe
import Derived.Test.YtafgknkcjohjeaaGreatDoorEtEe
namespace Go.Proofs.YtafgknkcjohjeaaGreatDoor
open Go Go.RowKit
set_option maxHeartbeats 8000000
set_option maxRecDepth 100000
theorem beqE_false (x y:Int) (h:x≠y):(x == y)=false:=by simp [h]
def DrawsEv (B g:Nat) (code:List UInt8) (m:Nat) (w:World) (e:Ending) (w':World):Prop:=∃ k x y t:Int,e=.returned (.agg #[.int .i64 k,.int .i64 x,.int .i64 y,.int .i64 t])∧(I64 k∧I64 x∧I64 y∧I64 t)∧SrcIs B g code m w'∧Only [g] w w'
def EvAt (B g gE m:Nat) (code:List UInt8) (ev:TypeId) (w wx:World):Prop:=∃ k x y t:Int,(I64 k∧I64 x∧I64 y∧I64 t)∧Row wx gE ev [.int .i64 k,.int .i64 x,.int .i64 y,.int .i64 t]∧SrcIs B g code m wx∧Only [g] w wx
structure EvSt (B g gE gx m:Nat) (code:List UInt8) (ev te:TypeId) (cs:List Value) (w wx:World):Prop where
 at_:EvAt B g gE m code ev w wx
 res:Row wx w.heap.size ev [.int .i64 0,.int .i64 0,.int .i64 0,.int .i64 0]
 x:Row wx gx te cs
theorem EvSt.set {B g gE gx m:Nat} {code:List UInt8} {ev te:TypeId} {cs:List Value} {w wx:World} (h:EvSt B g gE gx m code ev te cs w wx) (h1:w.heap.size < gE) (h2:gx≠gE) (hB:B≤w.heap.size) (i:Nat) (v:Int) (hi:i < 4) (hv:I64 v):EvSt B g gE gx m code ev te cs w (wx.setCell ⟨gE,i,none⟩ (.int .i64 v)):=by
 obtain ⟨⟨k,x,y,t,⟨hk,hx,hy,ht⟩,R,S,O⟩,r,rx⟩:=h;have R':=R.set i (.int .i64 v);have S':=S.only ((Only.refl [gE] wx).set (p:=⟨gE,i,none⟩) (by simp) (.int .i64 v)) (by intro b hb; simp only [List.mem_singleton] at hb; omega);have O':=only_setE O (p:=⟨gE,i,none⟩) (by show w.heap.size≤gE; omega) (.int .i64 v);refine ⟨?_,r.far (p:=⟨gE,i,none⟩) (by show w.heap.size≠gE; omega) _,rx.far (p:=⟨gE,i,none⟩) h2 _⟩;rcases (show i=0∨i=1∨i=2∨i=3 by omega) with rfl | rfl | rfl | rfl
 · exact ⟨v,x,y,t,⟨hv,hx,hy,ht⟩,R',S',O'⟩
 · exact ⟨k,v,y,t,⟨hk,hv,hy,ht⟩,R',S',O'⟩
 · exact ⟨k,x,v,t,⟨hk,hx,hv,ht⟩,R',S',O'⟩
 · exact ⟨k,x,y,v,⟨hk,hx,hy,hv⟩,R',S',O'⟩
theorem EvSt.mono {B g gE gx m m':Nat} {code:List UInt8} {ev te:TypeId} {cs:List Value} {w wx:World} (h:EvSt B g gE gx m code ev te cs w wx) (hm:m≤m'):EvSt B g gE gx m' code ev te cs w wx:=by
 obtain ⟨⟨k,x,y,t,hk,R,S,O⟩,r,rx⟩:=h;exact ⟨⟨k,x,y,t,hk,R,S.more hm,O⟩,r,rx⟩
theorem EvSt.onl {B g gE gx m m':Nat} {code:List UInt8} {ev te:TypeId} {cs:List Value} {w wx wy:World} (h:EvSt B g gE gx m code ev te cs w wx) (h1:w.heap.size < gE) (hg:g < w.heap.size) (hx:gx∉[g]) (O:Only [g] wx wy) (S:SrcIs B g code m' wy):EvSt B g gE gx m' code ev te cs w wy:=by
 obtain ⟨⟨k,x,y,t,hk,R,-,O'⟩,r,rx⟩:=h;exact ⟨⟨k,x,y,t,hk,R.onl O (by simp only [List.mem_singleton]; omega),S,O'.trans O⟩,r.onl O (by simp only [List.mem_singleton]; omega),rx.onl O hx⟩
theorem EvSt.src {B g gE gx m:Nat} {code:List UInt8} {ev te:TypeId} {cs:List Value} {w wx:World} (h:EvSt B g gE gx m code ev te cs w wx):SrcIs B g code m wx:=by
 obtain ⟨⟨k,x,y,t,hk,R,S,O⟩,r,rx⟩:=h;exact S
theorem EvSt.later {B g gE gx m:Nat} {code:List UInt8} {ev te:TypeId} {cs:List Value} {w wx wy:World} (h:EvSt B g gE gx m code ev te cs w wx) (b:Below wx.heap.size wx wy):EvSt B g gE gx m code ev te cs w wy:=by
 obtain ⟨⟨k,x,y,t,hk,R,S,O⟩,r,rx⟩:=h;exact ⟨⟨k,x,y,t,hk,R.later b,S.below b,O.trans (Only.of_below b)⟩,r.later b,rx.later b⟩
theorem three_numsE (w:World) (e:TypeId) (a b c:Int) (h:I64 a∧I64 b∧I64 c):(nums e).rep true (w.alloc (.cells #[.int .i64 a,.int .i64 b,.int .i64 c] e)) [a,b,c] [.slice (some ⟨w.heap.size,0,none⟩) 3 3] [w.heap.size] :=
 slice_of_row (xs:=[a,b,c]) (Row.new w e #[.int .i64 a,.int .i64 b,.int .i64 c]) (repL_nums [a,b,c] (by intro s hs; simp at hs; rcases hs with rfl | rfl | rfl; exact h.1; exact h.2.1; exact h.2.2)) (by simp [maxLen])
theorem spec_l26Event_c {B g m gx n c:Nat} {A:Option Addr} {tt:Int} {te:TypeId} {cs:List Value} {code:List UInt8} (w:World) (h:SrcIs B g code m w) (hB:B≤w.heap.size) (hm:m≤900000) (R:Row w gx te cs) (hg:gx≠g) (h10:cs[10]?=some (.slice A n c)) (h11:cs[11]?=some (.int .i64 tt)) (ht:0≤tt∧tt≤3600000) :
 Calls Tryz.prog 12 #[.pointer (some ⟨g,0,none⟩),.pointer (some ⟨gx,0,none⟩)] w (DrawsEv B g code (m+11) w):=by
 have lg:=h.low;have lx:=R.lt;have R0:=Row.new w 48 #[.int .i64 0,.int .i64 0,.int .i64 0,.int .i64 0];have b0:Below w.heap.size w (w.alloc (.cells #[.int .i64 0,.int .i64 0,.int .i64 0,.int .i64 0] 48)):=(Below.refl _ _).alloc (Nat.le_refl _) _;have S0:=h.below b0;replace R:=R.later b0;have e1:=IntWalk.i64_in (tt+1) (by omega);have HSX:=Lib.hid (fun (wy w':World) (R':Row wy gx te cs) (b:Only [g] wy w')=>show (fun w':World=>w'.cell? ⟨gx,11,none⟩=some (.int .i64 tt)) w' from (R'.onl b (by simpa using hg)).cell' h11);have HGX:=Lib.hid (show gx∉[g] by simpa using hg);have H10:=Lib.hid h10;have H11:=Lib.hid h11;clear h h10 h11 hg
 go_enter Tryz.func12,Tryz.ntmps12
 go_upto_region 1 with fail
 generalize w.alloc (.cells #[.int .i64 0,.int .i64 0,.int .i64 0,.int .i64 0] 48)=w0 at R0 b0 S0 R ⊢;have O0:Only [g] w w0:=Only.of_below b0;have hz0:w.heap.size < w0.heap.size:=R0.lt;clear b0;have hS:=HSX.out _ _ R (Only.of_below (Below.refl w0.heap.size w0).drew);refine wp_region_held_drew (S:=(fun w':World=>w'.cell? ⟨gx,11,none⟩=some (.int .i64 tt))) (by kernel_rfl) hS (fun _=>?_);have BZ:=(Below.refl w0.heap.size w0).drew;replace R0:=R0.later BZ;replace S0:=S0.below BZ;replace R:=R.later BZ;replace O0:=O0.trans (Only.of_below BZ);clear BZ;generalize w0.drew=w1 at R0 S0 R O0 hS ⊢;have C:=Lib.hid (src_pick_c w1 S0 (by omega) 60 (by omega));have HR0:=Lib.hid R0;have HR:=Lib.hid R;have HO:=Lib.hid O0;have hz1:w.heap.size < w1.heap.size:=R0.lt;clear S0 R0 R O0;refine tJ 0 hS ?_;refine tJ 1 hS ?_;refine tJ 2 hS ?_;refine tJ 3 hS ?_;refine tJ 4 hS ?_;refine tJ 5 hS ?_;refine rJ 6 fun K hK=>?_
 refine step_call 11 #[.tmp 12,.const (.int .i64 60)] _ rfl rfl #[.pointer (some ⟨g,0,none⟩),.int .i64 60] Tryz.call11 (by go_simp) C.out ?_;rintro e w2 ⟨⟨p1,p10,p11,rfl⟩,S2,O2⟩;refine ⟨_,rfl,?_⟩;replace hS:=HSX.out _ _ HR.out O2;replace HR0:=Lib.hid (HR0.out.onl O2 (by simp only [List.mem_singleton]; omega));replace HR:=Lib.hid (HR.out.onl O2 HGX.out);replace HO:=Lib.hid (HO.out.trans O2);have HS2:=Lib.hid S2;have e2:=IntWalk.i64_in (tt+1+p1) (by omega);have CM:=Lib.hid (minZ_c 3600000 (tt+1+p1) w2);clear S2 O2 C;refine bJ hK hS ?_;clear hK K;simp only [Act.put,pA,pB,pC];refine tJ 7 hS ?_;refine rJ 8 fun K hK=>?_
 refine step_call 25 #[.const (.int .i64 3600000),.tmp 14] _ rfl rfl #[.int .i64 3600000,.int .i64 (tt+1+p1)] Tryz.call25 (by go_simp) CM.out ?_;rintro e w3 ⟨rfl,rfl⟩;refine ⟨_,rfl,?_⟩;clear CM;refine bJ hK hS ?_;clear hK K;simp only [Act.put,pA,pB,pC];refine tJ 9 hS ?_;refine wpAnyH_done (by kernel_rfl) ?_ _;have ht1:0≤min 3600000 (tt+1+p1)∧min 3600000 (tt+1+p1)≤3600000:=by omega
 generalize min 3600000 (tt+1+p1)=t1 at ht1 ⊢;clear e2 hS p10 p11;have C:=Lib.hid (src_one_c w3 HS2.out (by omega) 5 (by omega));have hz3:w.heap.size < w3.heap.size:=HR0.out.lt
 go_wp2_with fail
 refine C.out.mono ?_;rintro e w4 ⟨⟨ob,rfl⟩,S4,O4⟩;replace HR0:=Lib.hid (HR0.out.onl O4 (by simp only [List.mem_singleton]; omega));replace HR:=Lib.hid (HR.out.onl O4 HGX.out);replace HO:=Lib.hid (HO.out.trans O4);clear C O4 HS2
 go_upto_if 17 with fail
 go_cut [5] from 17 to 25 (fun s wx=>∃ t2:Int,s=.int .i64 t2∧(0≤t2∧t2≤3600000)∧SrcIs B g code (m+4) wx∧Only [g] w4 wx)
 case first =>
  cases ob with
  | false =>
    go_wp2_with fail
    go_meet
    case rel=>exact ⟨t1,rfl,ht1,S4.more (by omega),Only.refl _ _⟩
  | true =>
    go_upto_region 3 with fail
    have hS:=HSX.out _ _ HR.out (Only.of_below (Below.refl w4.heap.size w4).drew);refine wp_region_held_drew (S:=(fun w':World=>w'.cell? ⟨gx,11,none⟩=some (.int .i64 tt))) (by kernel_rfl) hS (fun _=>?_);have BZ:=(Below.refl w4.heap.size w4).drew;have RX:=Lib.hid (HR.out.later BZ);have S5:=S4.below BZ;have O5:=Lib.hid (show Only [g] w4 w4.drew from Only.of_below BZ);clear BZ;generalize w4.drew=w5 at RX S5 O5 hS ⊢;have C:=Lib.hid (src_pickB_c w5 S5 (by omega) 600 (by omega) (by omega));refine tJ 0 hS ?_;refine tJ 1 hS ?_;refine tJ 2 hS ?_;refine tJ 3 hS ?_;refine tJ 4 hS ?_;refine rJ 5 fun K hK=>?_
    refine step_call 11 #[.tmp 22,.const (.int .i64 600)] _ rfl rfl #[.pointer (some ⟨g,0,none⟩),.int .i64 600] Tryz.call11 (by go_simp) C.out ?_;rintro e w6 ⟨⟨p2,p20,p21,rfl⟩,S6,O6⟩;refine ⟨_,rfl,?_⟩;replace hS:=HSX.out _ _ RX.out O6;have e2:=IntWalk.i64_in (tt+p2) (by omega);have CM:=Lib.hid (minZ_c 3600000 (tt+p2) w6);have OO:=Lib.hid (O5.out.trans O6);have HS6:=Lib.hid (S6.more (show m+1+1+2≤m+4 by omega));clear S5 S6 O6 C;refine bJ hK hS ?_;clear hK K;simp only [Act.put,pA,pB,pC];refine tJ 6 hS ?_;refine rJ 7 fun K hK=>?_
    refine step_call 25 #[.const (.int .i64 3600000),.tmp 24] _ rfl rfl #[.int .i64 3600000,.int .i64 (tt+p2)] Tryz.call25 (by go_simp) CM.out ?_;rintro e w7 ⟨rfl,rfl⟩;refine ⟨_,rfl,?_⟩;clear CM;refine bJ hK hS ?_;clear hK K;simp only [Act.put,pA,pB,pC];refine tJ 8 hS ?_;refine wpAnyH_done (by kernel_rfl) ?_ _
    go_wp2_with fail
    go_meet
    case rel=>exact ⟨_,rfl,by omega,HS6.out,OO.out⟩
 case rest =>
  obtain ⟨t2,rfl,ht2,S8,O8⟩:=hcut;clear ht1 S4;have C:=Lib.hid (src_pickB_c wc S8 (by omega) 500 (by omega) (by omega));replace HR0:=Lib.hid (HR0.out.onl O8 (by simp only [List.mem_singleton]; have:=HR0.out.lt; omega));replace HR:=Lib.hid (HR.out.onl O8 HGX.out);replace HO:=Lib.hid (HO.out.trans O8);clear S8 O8
  go_wp2_with fail
  refine C.out.mono ?_;rintro e w9 ⟨⟨px,px0,px1,rfl⟩,S9,O9⟩;replace HR0:=Lib.hid (HR0.out.onl O9 (by simp only [List.mem_singleton]; have:=HR0.out.lt; omega));replace HR:=Lib.hid (HR.out.onl O9 HGX.out);replace HO:=Lib.hid (HO.out.trans O9);have C2:=Lib.hid (src_pickB_c w9 S9 (by omega) 500 (by omega) (by omega));clear C S9 O9
  go_wp2_with fail
  refine C2.out.mono ?_;rintro e w10 ⟨⟨py,py0,py1,rfl⟩,S10,O10⟩;have RE:=Row.new w10 48 #[.int .i64 1,.int .i64 px,.int .i64 py,.int .i64 t2];have bE:Below w10.heap.size w10 (w10.alloc (.cells #[.int .i64 1,.int .i64 px,.int .i64 py,.int .i64 t2] 48)):=(Below.refl _ _).alloc (Nat.le_refl _) _
  go_upto_region 5 with fail
  generalize w10.alloc (.cells #[.int .i64 1,.int .i64 px,.int .i64 py,.int .i64 t2] 48)=w11 at RE bE ⊢;have R10:=HR0.out.onl O10 (by simp only [List.mem_singleton]; have:=HR0.out.lt; omega);have hgE:w.heap.size < w10.heap.size:=R10.lt;replace HR0:=Lib.hid (R10.later bE);replace HR:=Lib.hid ((HR.out.onl O10 HGX.out).later bE);replace HO:=Lib.hid ((HO.out.trans O10).trans (Only.of_below bE));have hgx:gx≠w10.heap.size:=by omega
  have S11:=S10.below bE;have HE:=Lib.hid RE;clear C2 S10 O10 bE RE R10;generalize w10.heap.size=gE at HE hgE hgx ⊢;have y10:=HR.out.cell' H10.out;obtain ⟨ob2,hob2⟩:∃ b,decide (0 < n)=b:=⟨_,rfl⟩
  have hob:decide ((0:Int) < (n:Int))=ob2:=by rw [← hob2]; exact decide_eq_decide.2 (by omega)
  go_upto_if 37 with fail
  clear y10
  go_cut [37] from 37 to 46 (fun _ wx=>Hid (EvSt B g gE gx (m+9) code 48 te cs w wx))
  case first =>
   clear hob hob2;cases ob2
   case' false =>
    have C:=Lib.hid (src_one_c w11 S11 (by omega) 6 (by omega));have HK:=Lib.hid HE.out;have HK0:=Lib.hid HR0.out;have HKX:=Lib.hid HR.out;have HKO:=Lib.hid HO.out;clear S11
    go_wp2_with fail
   case' true =>
    have v0:=HE.out.c0;have vF:=HE.out.frozen
    go_upto_region 7 with fail
    clear v0 vF;have HK:=Lib.hid (HE.out.set 0 (.int .i64 2));have HK0:=Lib.hid (HR0.out.far (p:=⟨gE,0,none⟩) (by show w.heap.size≠gE; omega) (.int .i64 2));have HKX:=Lib.hid (HR.out.far (p:=⟨gE,0,none⟩) hgx (.int .i64 2));have HKO:=Lib.hid (only_setE HO.out (p:=⟨gE,0,none⟩) (by show w.heap.size≤gE; omega) (.int .i64 2));have S12:=S11.only ((Only.refl [gE] w11).set (p:=⟨gE,0,none⟩) (by simp) (.int .i64 2)) (by intro b hb; simp only [List.mem_singleton] at hb; omega);generalize w11.setCell ⟨gE,0,none⟩ (.int .i64 2)=w12 at HK HK0 HKX HKO S12 ⊢;have C:=Lib.hid (src_one_c w12 S12 (by omega) 3 (by omega));clear S12 S11
    go_wp2_with fail
   all_goals (
    refine C.out.mono ?_;rintro e w13 ⟨⟨oc,rfl⟩,S13,O13⟩;replace HK:=Lib.hid (HK.out.onl O13 (by simp only [List.mem_singleton]; omega));have ST:=Lib.hid (show EvSt B g gE gx (m+9) code 48 te cs w w13 from ⟨⟨_,_,_,_,⟨by constructor <;> omega,by constructor <;> omega,by constructor <;> omega,by constructor <;> omega⟩,HK.out,S13.more (by omega),HKO.out.trans O13⟩,HK0.out.onl O13 (by simp only [List.mem_singleton]; omega),HKX.out.onl O13 HGX.out⟩);clear C O13 HK0 HKX HKO S13;cases oc
    case' false =>
     go_wp2_with fail
     go_meet
     case rel=>exact ST
    case' true =>
     have v0:=HK.out.c0;have v1:=HK.out.c1;have v2:=HK.out.c2;have v3:=HK.out.c3;have vF:=HK.out.frozen
     go_wp2_with fail
     go_meet
     case rel=>exact Lib.hid ((((ST.out.set hgE hgx hB 0 _ (by decide) (by constructor <;> omega)).set hgE hgx hB 1 0 (by decide) (by constructor <;> omega)).set hgE hgx hB 2 0 (by decide) (by constructor <;> omega)).set hgE hgx hB 3 t2 (by decide) (by constructor <;> omega))
    )
  case rest =>
   have ST:=Lib.hid hcut.out;clear hcut HE HR0 HR HO S11 hob hob2;have C:=Lib.hid (src_pick_c wc ST.out.src (by omega) 24 (by omega))
   go_wp2_with fail
   refine C.out.mono ?_;rintro e w20 ⟨⟨p,p0,p1',rfl⟩,S20,O20⟩;replace ST:=Lib.hid (ST.out.onl hgE (by omega) HGX.out O20 S20);clear C S20 O20
   go_upto_block 0 with fail
   go_cut [49] from 49 to 74 (fun _ wx=>Hid (EvSt B g gE gx (m+11) code 48 te cs w wx))
   case first =>
    by_cases hc0:p=0
    · obtain rfl:=hc0
      have k0:((0:Int) == 0)=true:=rfl;have e3:=IntWalk.i64_in (tt - 1) (by omega)
      go_upto_region 13 with fail
      have hS:=HSX.out _ _ ST.out.x (Only.of_below (Below.refl w20.heap.size w20).drew);refine wp_region_held_drew (S:=(fun w':World=>w'.cell? ⟨gx,11,none⟩=some (.int .i64 tt))) (by kernel_rfl) hS (fun _=>?_);replace ST:=Lib.hid (ST.out.later (Below.refl w20.heap.size w20).drew);generalize w20.drew=w21 at ST hS ⊢;refine tJ 0 hS ?_;refine tJ 1 hS ?_;refine tJ 2 hS ?_;refine tJ 3 hS ?_;refine tJ 4 hS ?_;refine tJ 5 hS ?_;refine tJ 6 hS ?_;refine tJ 7 hS ?_;refine tJ 8 hS ?_;refine tJ 9 hS ?_;have bA:Below w21.heap.size w21 (w21.alloc (.cells #[.int .i64 tt,.int .i64 (tt - 1),.int .i64 3600001] 2)):=(Below.refl _ _).alloc (Nat.le_refl _) _;have STA:=Lib.hid (ST.out.later bA);have hlt:g < w21.heap.size:=by have:=ST.out.res.lt; omega
      have C:=Lib.hid (src_among_c _ STA.out.src (by omega) (three_numsE w21 2 tt (tt - 1) 3600001 ⟨by constructor <;> omega,by constructor <;> omega,by constructor <;> omega⟩) (by simp only [List.mem_singleton]; omega) (by simp) (by simp));clear bA;refine rJ 10 fun K hK=>?_
      go_simp
      refine bJ hK (HSX.out _ _ STA.out.x (Only.refl _ _)) ?_;clear hK K hS;have hS:=HSX.out _ _ STA.out.x (Only.refl _ _);refine rJ 11 fun K hK=>?_
      refine step_call 27 #[.tmp 51,.tmp 61] _ rfl rfl #[.pointer (some ⟨g,0,none⟩),.slice (some ⟨w21.heap.size,0,none⟩) 3 3] Tryz.call27 (by go_simp) C.out ?_;rintro e w22 ⟨⟨z,hz,rfl⟩,S22,O22⟩;refine ⟨_,rfl,?_⟩;replace ST:=Lib.hid (STA.out.onl hgE (by omega) HGX.out O22 S22);have hzI:I64 z:=by simp at hz; rcases hz with rfl | rfl | rfl <;> constructor <;> omega
      clear C STA S22 O22 hz;replace hS:=HSX.out _ _ ST.out.x (Only.refl _ _);refine bJ hK hS ?_;clear hK K;simp only [Act.put,pA,pB,pC];obtain ⟨⟨k,x,y,t,hk,R,S,O⟩,r,rx⟩:=ST.out;have v3:=R.c3;have vF:=R.frozen;clear R S O r rx;refine tJ 12 hS ?_;refine rJ 13 fun K hK=>?_
      go_simp
      refine bJ hK (HSX.out _ _ (ST.out.set hgE hgx hB 3 z (by decide) hzI).x (Only.refl _ _)) ?_;clear hK K v3 vF hS;refine wpAnyH_done (by kernel_rfl) ?_ _
      go_wp2_with fail
      go_meet
      case rel=>exact Lib.hid ((ST.out.set hgE hgx hB 3 z (by decide) hzI).mono (by omega))
    · have k0:(p == 0)=false:=beqE_false _ _ hc0
      by_cases hc1:p=1
      · obtain rfl:=hc1
        have k1:((1:Int) == 1)=true:=rfl;have C:=Lib.hid (src_pick_c w20 ST.out.src (by omega) 6 (by omega))
        go_wp2_with fail
        refine C.out.mono ?_;rintro e w21 ⟨⟨z,z0,z1,rfl⟩,S21,O21⟩;replace ST:=Lib.hid (ST.out.onl hgE (by omega) HGX.out O21 S21);obtain ⟨⟨k,x,y,t,hk,R,S,O⟩,r,rx⟩:=ST.out;have v0:=R.c0;have vF:=R.frozen;clear C S21 O21 R S O r rx
        go_wp2_with fail
        go_meet
        case rel=>exact Lib.hid ((ST.out.set hgE hgx hB 0 z (by decide) (by constructor <;> omega)).mono (by omega))
      · have k1:(p == 1)=false:=beqE_false _ _ hc1
        by_cases hc2:p=2
        · obtain rfl:=hc2
          have k2:((2:Int) == 2)=true:=rfl;have bA:Below w20.heap.size w20 (w20.alloc (.cells #[.int .i64 (-1),.int .i64 4095,.int .i64 4096] 2)):=(Below.refl _ _).alloc (Nat.le_refl _) _;have STA:=Lib.hid (ST.out.later bA);have hlt:g < w20.heap.size:=by have:=ST.out.res.lt; omega
          have C:=Lib.hid (src_among_c _ STA.out.src (by omega) (three_numsE w20 2 (-1) 4095 4096 ⟨by constructor <;> omega,by constructor <;> omega,by constructor <;> omega⟩) (by simp only [List.mem_singleton]; omega) (by decide) (by decide));clear bA
          go_wp2_with fail
          refine C.out.mono ?_;rintro e w21 ⟨⟨z,hz,rfl⟩,S21,O21⟩;replace ST:=Lib.hid (STA.out.onl hgE (by omega) HGX.out O21 S21);obtain ⟨⟨k,x,y,t,hk,R,S,O⟩,r,rx⟩:=ST.out;have v1:=R.c1;have vF:=R.frozen;have hzI:I64 z:=by simp at hz; rcases hz with rfl | rfl | rfl <;> constructor <;> omega
          clear C S21 O21 R S O r rx hz
          go_wp2_with fail
          go_meet
          case rel=>exact Lib.hid ((ST.out.set hgE hgx hB 1 z (by decide) hzI).mono (by omega))
        · have k2:(p == 2)=false:=beqE_false _ _ hc2
          go_wp2_with fail
          go_meet
          case rel=>exact Lib.hid (ST.out.mono (by omega))
   case rest =>
    obtain ⟨⟨k,x,y,t,hk,R,S,O⟩,r,rx⟩:=hcut.out;have y0:=R.c0;have y1:=R.c1;have y2:=R.c2;have y3:=R.c3;have v0:=r.c0;have v1:=r.c1;have v2:=r.c2;have v3:=r.c3;have vF:=r.frozen;have RR:=(((r.set 0 (.int .i64 k)).set 1 (.int .i64 x)).set 2 (.int .i64 y)).set 3 (.int .i64 t);have z0:=RR.c0;have z1:=RR.c1;have z2:=RR.c2;have z3:=RR.c3;have OR:=((((Only.refl [w.heap.size] wc).set (p:=⟨w.heap.size,0,none⟩) (by simp) (.int .i64 k)).set (p:=⟨w.heap.size,1,none⟩) (by simp) (.int .i64 x)).set (p:=⟨w.heap.size,2,none⟩) (by simp) (.int .i64 y)).set (p:=⟨w.heap.size,3,none⟩) (by simp) (.int .i64 t);have SS:=Lib.hid (S.only OR (by simpa using hB));have OO:=Lib.hid (only_setE (only_setE (only_setE (only_setE O (p:=⟨w.heap.size,0,none⟩) (Nat.le_refl _) (.int .i64 k)) (p:=⟨w.heap.size,1,none⟩) (Nat.le_refl _) (.int .i64 x)) (p:=⟨w.heap.size,2,none⟩) (Nat.le_refl _) (.int .i64 y)) (p:=⟨w.heap.size,3,none⟩) (Nat.le_refl _) (.int .i64 t));have HK:=Lib.hid hk;clear RR R S O r rx OR hk hcut
    go_wp2_with fail
    refine bodyPost_ret (v:=.agg #[.int .i64 k,.int .i64 x,.int .i64 y,.int .i64 t]) (by simp only [results,Tryz.results12]; go_simp) rfl ?_;exact ⟨k,x,y,t,rfl,HK.out,SS.out,OO.out⟩
def DrawsMod (B g:Nat) (code:List UInt8) (m most:Nat) (w:World) (e:Ending) (w':World):Prop:=∃ (d:Int) (xs:List PBigram) (u:Value) (F:List Nat),e=.returned (.agg #[.int .i64 d,u])∧(0≤d∧d≤1000000)∧ModP xs∧xs.length≤most∧(pBigrams 143).rep true w' xs [u] F∧Fresh w.heap.size F∧SrcIs B g code m w'∧Only [g] w w'
theorem spec_l18Draw_c {B g m most:Nat} {code:List UInt8} (w:World) (h:SrcIs B g code m w) (hB:B≤w.heap.size) (hm:m≤900000) (hM:most≤60) :
 Calls Tryz.prog 48 #[.pointer (some ⟨g,0,none⟩),.int .i64 (most:Int)] w (DrawsMod B g code (m+2+4 * most) most w):=by
 have lg:=h.low;have R0:=Row.new w 36 #[.int .i64 0,.slice none 0 0];have b0:Below w.heap.size w (w.alloc (.cells #[.int .i64 0,.slice none 0 0] 36)):=(Below.refl _ _).alloc (Nat.le_refl _) _;have S0:=h.below b0;have zm:=IntWalk.i64_in ((most:Int)+1) (by omega);clear h
 go_enter Tryz.func48,Tryz.ntmps48
 go_upto_region 1 with fail
 generalize w.alloc (.cells #[.int .i64 0,.slice none 0 0] 36)=w0 at R0 b0 S0 ⊢;have C0:=Lib.hid (src_pick_c w0 S0 (by omega) 30 (by omega));have HR0:=Lib.hid R0;have B0:=Lib.hid b0;have l0:w.heap.size < w0.heap.size:=R0.lt;clear R0 b0 S0
 go_wp2_with fail
 refine C0.out.mono ?_;rintro e w1 ⟨⟨d,d0,d1,rfl⟩,S1,O1⟩;have HD:=Lib.hid (show 0≤d∧d≤1000000 by omega);replace HR0:=Lib.hid (HR0.out.onl O1 (by simp only [List.mem_singleton]; omega));have HO1:=(show Only [g] w w1 from (Only.of_below B0.out).trans O1)
 have hz1:w0.heap.size≤w1.heap.size:=O1.size;clear d0 d1 O1 C0;have R1:=Row.new w1 36 #[.int .i64 d,.slice none 0 0];have b1:Below w1.heap.size w1 (w1.alloc (.cells #[.int .i64 d,.slice none 0 0] 36)):=(Below.refl _ _).alloc (Nat.le_refl _) _
 go_upto_region 2 with fail
 generalize w1.alloc (.cells #[.int .i64 d,.slice none 0 0] 36)=w2 at R1 b1 ⊢;replace HR0:=Lib.hid (HR0.out.later b1);have HR1:=Lib.hid R1;have C1:=Lib.hid (src_pick_c w2 (S1.below b1) (by omega) ((most:Int)+1) (by omega));have HO2:=HO1.trans (Only.of_below b1);have hz2:w1.heap.size < w2.heap.size:=R1.lt;clear R1 b1 S1 HO1;generalize w1.heap.size=gO at HR1 hz1 hz2 ⊢
 go_wp2_with fail
 refine C1.out.mono ?_;rintro e w3 ⟨⟨r,r0,r1,rfl⟩,S3,O3⟩;obtain ⟨k0,rfl⟩:=Int.eq_ofNat_of_zero_le r0;have hk0:k0≤most:=by omega
 replace HR0:=Lib.hid (HR0.out.onl O3 (by simp only [List.mem_singleton]; omega));replace HR1:=Lib.hid (HR1.out.onl O3 (by simp only [List.mem_singleton]; omega));have HS3:=Lib.hid S3;have HO3:=Lib.hid (HO2.trans O3);clear r0 r1 S3 O3 C1 HO2
 go_wp2_with fail
 go_loopw [6] (fun i wr=>∃ (k j:Nat) (xs:List PBigram) (u:Value) (G:List Nat),i=.int .i64 (k:Int)∧j+k=k0∧Hid (ModP xs∧xs.length≤j∧Row wr gO 36 [.int .i64 d,u]∧Row wr w.heap.size 36 [.int .i64 0,.slice none 0 0]∧(pBigrams 143).rep true wr xs [u] G∧Fresh (gO+1) G∧SrcIs B g code (m+2+4 * j) wr∧Only [g] w wr)) (fun i _=>(intOf i).toNat)
 case atStart=>exact ⟨k0,0,[],_,[],rfl,by omega,Lib.hid ⟨ModP.nil,by simp,HR1.out,HR0.out,slice_nil _ _ _ _,⟨by simp,by simp⟩,HS3.out,HO3.out⟩⟩
 case round =>
  obtain ⟨k,j,xs,u,G,rfl,hjk,all⟩:=hrel;have ALL:=Lib.hid all.out;clear all;cases k with
  | zero =>
    have z0:decide ((0:Int) < 0)=false:=rfl;obtain ⟨hL,hlen,rO,rT,rep,fr,src,onl⟩:=ALL.out;obtain ⟨U,un,uc,rfl⟩:=slice_form rep;have y0:=rO.c0;have y1:=rO.c1;have v0:=rT.c0;have v1:=rT.c1;have vF:=rT.frozen;have E:=(rT.set 0 (.int .i64 d)).set 1 (.slice U un uc);have vF1:=(rT.set 0 (.int .i64 d)).frozen;have e0:=E.c0;have e1:=E.c1;have hne:w.heap.size∉G:=fun hin=>by have:=fr.2 _ hin; omega
    have RES:=Lib.hid (Ty.rep.setCell (T:=pBigrams 143) (Ty.rep.setCell (T:=pBigrams 143) rep (p:=⟨w.heap.size,0,none⟩) hne (.int .i64 d)) (p:=⟨w.heap.size,1,none⟩) hne (.slice U un uc));have SRC:=Lib.hid ((src.only (((Only.refl [w.heap.size] wr).set (p:=⟨w.heap.size,0,none⟩) (by simp) (.int .i64 d)).set (p:=⟨w.heap.size,1,none⟩) (by simp) (.slice U un uc)) (by simpa using hB)).more (show m+2+4 * j≤m+2+4 * most by omega));have ONL:=Lib.hid (only_setE (only_setE onl (p:=⟨w.heap.size,0,none⟩) (Nat.le_refl _) (.int .i64 d)) (p:=⟨w.heap.size,1,none⟩) (Nat.le_refl _) (.slice U un uc));have FRR:=Lib.hid (fr.mono (show w.heap.size≤gO+1 by omega));have HL:=Lib.hid hL;clear hL rO rT rep fr src onl hne ALL E
    go_wp2_with fail
    refine bodyPost_ret (v:=.agg #[.int .i64 d,.slice U un uc]) (by simp only [results,Tryz.results48]; go_simp) rfl ?_;exact ⟨d,xs,_,G,rfl,HD.out,HL.out,by omega,RES.out,FRR.out,SRC.out,ONL.out⟩
  | succ k1 =>
    have gk2:(0:Int) < ((k1+1:Nat):Int):=by omega
    have km:IntKind.i64.wrap (((k1+1:Nat):Int) - 1)=(k1:Int):=(IntWalk.i64_in _ (by omega)).trans (by omega);generalize hkk:((k1+1:Nat):Int)=kk at gk2 km ⊢;have gk3:decide (0 < kk)=true:=decide_eq_true gk2;have CW:=Lib.hid (spec_l16Words_c wr);have HKK:=Lib.hid hkk;clear hkk
    go_wp2_with fail
    refine CW.out.mono ?_;rintro e w2 ⟨rfl,rfl⟩;obtain ⟨hL,hlen,rO,rT,rep,fr,src,onl⟩:=ALL.out;have bW:Below wr.heap.size wr (wr.alloc (.cells (lexWords.map Value.string).toArray 9)):=(Below.refl _ _).alloc (Nat.le_refl _) _;have LW:=lexWords_at wr;have hgw:g∉[wr.heap.size]:=by have:=onl.size; simp only [List.mem_singleton]; omega
    have CT:=Lib.hid (src_text_c _ (src.below bW) (by omega) LW hgw (by decide) (by decide));have hGO:gO < wr.heap.size:=rO.lt;clear LW CW ALL;replace rO:=rO.later bW;replace rT:=rT.later bW;replace rep:=rep.below bW;replace onl:=onl.trans (Only.of_below bW)
    go_wp2_with fail
    refine CT.out.mono ?_;rintro e w3 ⟨⟨t,ht,rfl⟩,S3,O3⟩;clear CT hgw src;replace rO:=rO.onl O3 (by simp only [List.mem_singleton]; omega);replace rT:=rT.onl O3 (by simp only [List.mem_singleton]; omega);replace rep:=rep.only O3 (fun z hz hin=>by simp only [List.mem_singleton] at hin; have:=fr.2 z hz; omega);replace onl:=onl.trans O3;have CP:=Lib.hid (src_one_c w3 S3 (by omega) 4 (by omega));clear S3 O3 bW
    go_wp2_with fail
    refine CP.out.mono ?_;rintro e w4 ⟨⟨ob,rfl⟩,S4,O4⟩;clear CP;replace rO:=rO.onl O4 (by simp only [List.mem_singleton]; omega);replace rT:=rT.onl O4 (by simp only [List.mem_singleton]; omega);replace rep:=rep.only O4 (fun z hz hin=>by simp only [List.mem_singleton] at hin; have:=fr.2 z hz; omega);replace onl:=onl.trans O4;have HT:=Lib.hid (show t=ByteArray.empty∨isWordB t=true from .inr (lexWords_word t ht));have HTS:=Lib.hid (lexWords_small t ht)
    go_upto_if 24 with fail
    go_cut [7,24] from 24 to 24 (fun s _ wx=>∃ t':ByteArray,s=.string t'∧(t'=ByteArray.empty∨isWordB t'=true)∧t'.size≤4∧w4=wx)
    case first =>
     cases ob with
     | false =>
       go_wp2_with fail
       go_meet
       case rel=>exact ⟨t,rfl,HT.out,HTS.out,rfl⟩
     | true =>
       go_wp2_with fail
       go_meet
       case rel=>exact ⟨⟨#[]⟩,rfl,.inl rfl,by decide,rfl⟩
    case rest =>
     obtain ⟨t1,rfl,ht1,hs1,rfl⟩:=hcut;have HT1:=Lib.hid ht1;have CW:=Lib.hid (spec_l16Words_c w4);clear HT HTS ht1
     go_wp2_with fail
     refine CW.out.mono ?_;rintro e w5 ⟨rfl,rfl⟩;have bW:Below w4.heap.size w4 (w4.alloc (.cells (lexWords.map Value.string).toArray 9)):=(Below.refl _ _).alloc (Nat.le_refl _) _;have LW:=lexWords_at w4;have hG4:gO < w4.heap.size:=rO.lt;have hgw:g∉[w4.heap.size]:=by have:=onl.size; simp only [List.mem_singleton]; omega
     have CT:=Lib.hid (src_text_c _ (S4.below bW) (by omega) LW hgw (by decide) (by decide));clear LW CW;replace rO:=rO.later bW;replace rT:=rT.later bW;replace rep:=rep.below bW;replace onl:=onl.trans (Only.of_below bW)
     go_wp2_with fail
     refine CT.out.mono ?_;rintro e w6 ⟨⟨t2,ht2,rfl⟩,S6,O6⟩;clear CT hgw S4 O4 bW;have HRO:=Lib.hid (rO.onl O6 (by simp only [List.mem_singleton]; omega));have HRT:=Lib.hid (rT.onl O6 (by simp only [List.mem_singleton]; omega));have HRP:=Lib.hid (rep.only O6 (fun z hz hin=>by simp only [List.mem_singleton] at hin; have:=fr.2 z hz; omega));have HON:=Lib.hid (onl.trans O6);have HT2:=Lib.hid (lexWords_word t2 ht2);have HS2:=Lib.hid (lexWords_small t2 ht2);have HL:=Lib.hid hL;have HFR:=Lib.hid fr;have HSR:=Lib.hid S6;clear rO rT rep onl hL fr S6 O6 ht ht2;obtain ⟨U,un,uc,rfl⟩:=slice_form HRP.out;have hG6:gO < w6.heap.size:=HRO.out.lt
     go_upto_region 9 with fail
     have hS:(fun w':World=>w'.cell? ⟨gO,0,none⟩=some (.int .i64 d)) w6.drew:=(HRO.out.later ((Below.refl w6.heap.size w6).drew)).c0;refine wp_region_held_drew (S:=(fun w':World=>w'.cell? ⟨gO,0,none⟩=some (.int .i64 d))) (by kernel_rfl) hS (fun _=>?_);have BZ:=Lib.hid ((Below.refl w6.heap.size w6).drew);generalize w6.drew=we at BZ hS ⊢;replace HRO:=Lib.hid (HRO.out.later BZ.out);replace HRT:=Lib.hid (HRT.out.later BZ.out);replace HRP:=Lib.hid (HRP.out.below BZ.out);replace HON:=Lib.hid (HON.out.trans (Only.of_below BZ.out));replace HSR:=Lib.hid (HSR.out.below BZ.out);have hGe:gO < we.heap.size:=HRO.out.lt;have CP:=Lib.hid (src_pick_c we HSR.out (by omega) 30 (by omega));clear BZ;refine tJ 0 hS ?_;refine tJ 2 hS ?_;refine tJ 3 hS ?_;refine tJ 4 hS ?_;refine rJ2 1 5 (fun K hK=>?ga) (fun K hK=>?gb)
     case' ga =>
      have y1:=HRO.out.c1
      go_simp
      refine bJ hK hS ?_;clear hK K y1;refine rJ 5 fun K hK=>?_
     all_goals (
      refine step_call 11 #[.tmp 32,.const (.int .i64 30)] _ rfl rfl #[.pointer (some ⟨g,0,none⟩),.int .i64 30] Tryz.call11 (by go_simp) CP.out ?_;rintro e w7 ⟨⟨cv,cv0,cv1,rfl⟩,S7,O7⟩;refine ⟨_,rfl,?_⟩;have RO7:=Lib.hid (HRO.out.onl O7 (by simp only [List.mem_singleton]; omega));have RT7:=Lib.hid (HRT.out.onl O7 (by simp only [List.mem_singleton]; omega));have RP7:=Lib.hid (HRP.out.only O7 (fun z hz hin=>by simp only [List.mem_singleton] at hin; have:=HFR.out.2 z hz; omega));have ON7:=Lib.hid (HON.out.trans O7);have SR7:=Lib.hid S7;have hG7:gO < w7.heap.size:=RO7.out.lt;replace hS:=(show (fun w':World=>w'.cell? ⟨gO,0,none⟩=some (.int .i64 d)) w7 from RO7.out.c0)
      have CPU:=Lib.hid (spec_l18Put_c (b:=⟨t1,t2,cv⟩) w7 RP7.out (by omega) ⟨by show t1.size≤maxLen; unfold maxLen; omega,by show t2.size≤maxLen; unfold maxLen; have:=HS2.out; omega,by show I64 cv; exact ⟨by omega,by omega⟩⟩);clear S7 O7 CP;refine bJ hK hS ?_;clear hK K;simp only [Act.put,pA,pB,pC];refine tJ 6 hS ?_
      )
     case' gb =>
      have y1:=RO7.out.c1;refine rJ 1 fun K hK=>?_
      go_simp
      refine bJ hK hS ?_;clear hK K y1
     all_goals (
      refine rJ 7 fun K hK=>?_
      refine step_call 65 #[.tmp 29,.tmp 34] _ rfl rfl #[.slice U un uc,.agg #[.string t1,.string t2,.int .i64 cv]] Tryz.call65 (by go_simp) CPU.out ?_;rintro e w8 ⟨u8,G8,rfl,r8,f8,b8⟩;refine ⟨_,rfl,?_⟩;obtain ⟨U8,n8,c8,rfl⟩:=slice_form r8;have RO8:=Lib.hid (RO7.out.later b8);have RT8:=Lib.hid (RT7.out.later b8);have ON8:=Lib.hid (ON7.out.trans (Only.of_below b8));have SR8:=Lib.hid (SR7.out.below b8);replace hS:=(show (fun w':World=>w'.cell? ⟨gO,0,none⟩=some (.int .i64 d)) w8 from RO8.out.c0)
      clear b8 CPU;refine bJ hK hS ?_;clear hK K;simp only [Act.put,pA,pB,pC];refine tJ 8 hS ?_;have v1:=RO8.out.c1;have vF:=RO8.out.frozen;refine rJ 9 fun K hK=>?_
      go_simp
      have hS9:=(show (fun w':World=>w'.cell? ⟨gO,0,none⟩=some (.int .i64 d)) _ from (RO8.out.set 1 (.slice U8 n8 c8)).c0)
      refine bJ hK hS9 ?_;clear hK K v1 vF hS hS9;refine wpAnyH_done (by kernel_rfl) ?_ _;have hne:gO∉G8:=fun hin=>by have:=f8.2 _ hin; omega
      have RO9:=Lib.hid (RO8.out.set 1 (.slice U8 n8 c8));have RT9:=Lib.hid (RT8.out.far (p:=⟨gO,1,none⟩) (by show w.heap.size≠gO; omega) (.slice U8 n8 c8));have RP9:=Lib.hid (Ty.rep.setCell (T:=pBigrams 143) r8 (p:=⟨gO,1,none⟩) hne (.slice U8 n8 c8));have SR9:=Lib.hid ((SR8.out.only ((Only.refl [gO] w8).set (p:=⟨gO,1,none⟩) (by simp) (.slice U8 n8 c8)) (by intro b hb; simp only [List.mem_singleton] at hb; omega)).more (show m+2+4 * j+1+1+1+1≤m+2+4 * (j+1) by omega));have ON9:=Lib.hid (only_setE ON8.out (p:=⟨gO,1,none⟩) (by show w.heap.size≤gO; omega) (.slice U8 n8 c8))
      have LX:=Lib.hid (show ModP (putB xs ⟨t1,t2,cv⟩) from HL.out.put (by
       have h1:(decide (t1=ByteArray.empty) || isWordB t1)=true:=by rcases HT1.out with h | h <;> simp [h]
       have h2:inR cv 0 1000000=true:=by simp [inR]; omega
       show (isWordB t2 && ((decide (t1=ByteArray.empty) || isWordB t1) && inR cv 0 1000000))=true
       rw [HT2.out,h1,h2]; rfl))
      have LN:=Lib.hid (Nat.le_trans (putB_len xs ⟨t1,t2,cv⟩) (Nat.succ_le_succ hlen));have F9:=Lib.hid (f8.mono (show gO+1≤w7.heap.size by omega));clear r8 f8 hne
      go_wp2_with fail
      exact ⟨⟨k1,j+1,_,_,G8,by first | rfl | go_num,by omega,Lib.hid ⟨LX.out,LN.out,RO9.out,RT9.out,RP9.out,F9.out,SR9.out,ON9.out⟩⟩,by simp [intOf]; have:=HKK.out; omega⟩
      )
end Go.Proofs.YtafgknkcjohjeaaGreatDoor

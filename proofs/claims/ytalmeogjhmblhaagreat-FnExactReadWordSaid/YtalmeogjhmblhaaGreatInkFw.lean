/- Ink: the reference's test of ink. Conditions: none. -/
import Derived.Test.YtalmeogjhmblhaaGreatTkw
import Derived.Test.YtalmeogjhmblhaaGreatAppendw
import Derived.Shelf.Strings.Search1
import Derived.Shelf.Strings.Search2
import Derived.Shelf.Strings.Search3
import Derived.Test.YtalmeogjhmblhaaGreatLibw
import Derived.Test.YtalmeogjhmblhaaGreatProg
import Derived.Test.YtalmeogjhmblhaaGreatRows
import Derived.Test.YtalmeogjhmblhaaGreatTyEntryw
import Derived.Test.YtalmeogjhmblhaaGreatConfw
import Derived.Test.YtalmeogjhmblhaaGreatTyStepw
import Derived.Test.YtalmeogjhmblhaaGreatInkBw
namespace Go.Proofs.YtalmeogjhmblhaaGreat
open Go Go.RowKit
set_option maxHeartbeats 8000000
set_option maxRecDepth 100000 in
theorem spec_l02Ok_c {o:Bool} {pe e:TypeId} {xs:List PStroke} {v:Value} {F:List Nat} {g f:Nat} (w:World) (hg:w.cell? ⟨g,f,none⟩=some v) (hgl:g < w.heap.size) (h:(pStrokes pe e).rep o w xs [v] F) (hx:xs.length≤1048576) (hxe:∀ l∈xs,l.length≤1048576) :
 Calls Tryz.prog 60 #[.pointer (some ⟨g,f,none⟩)] w fun e w'=>e=.returned (.bool (inkB xs))∧Below w.heap.size w w':=by
 obtain ⟨A,c,rfl,hc1,hc2,hr⟩:=pStrokes_open h;clear h
 go_enter Tryz.func60,Tryz.ntmps60
 go_wp2_with fail
 go_loopw [3] (fun i wr=>∃ k:Nat,k≤xs.length∧i=.int .i64 k∧Hid (stsOk xs k=true)∧Below w.heap.size w wr) (fun i _=>xs.length - (intOf i).toNat)
 case atStart=>exact ⟨0,Nat.zero_le _,rfl,rfl,Below.refl _ _⟩
 case round =>
  obtain ⟨k,hk,rfl,hok,hb⟩:=hrel;have hbs:=hb.size;rw [← hb.cell (p:=⟨g,_,none⟩) hgl] at hg;replace hgl:g < wr.heap.size:=by omega
  by_cases hlt:k < xs.length
  · obtain ⟨b,off,u,Fk,rfl,hbb,_,hrk,_,h0⟩:=hr k hlt
    rw [← hb.cell (p:=⟨b,_,none⟩) hbb] at h0;have hbb':b < wr.heap.size:=by omega
    have hle:=hxe _ (List.getElem_mem hlt);have QK:=(hrk.below hb).drew;have HC:=Lib.hid (spec_l02Stroke_c wr.drew h0 hbb' QK hle);have k0:(0:Int)≤(k:Int):=by omega
    have kl':(k:Int) < (xs.length:Int):=by omega
    cases hp:strokeB xs[k]
    · have HF:=Lib.hid (inkB_false hlt (stOk_bad hlt hp))
      simp only [hp] at HC;obtain ⟨AK,ck,rfl⟩:=slice_len hrk;clear hr hp hrk QK
      go_wp2_with fail
      have hS:(fun w'=>w'.cell? ⟨g,f,none⟩=some (.slice (some ⟨b,off,none⟩) xs.length c)∧w'.cell? ⟨b,off+k,none⟩=some (.slice AK xs[k].length ck)) wr.drew:=⟨hg,h0⟩
      dsimp only at hS;refine wp_region_held_drew (S:=(fun w'=>w'.cell? ⟨g,f,none⟩=some (.slice (some ⟨b,off,none⟩) xs.length c)∧w'.cell? ⟨b,off+k,none⟩=some (.slice AK xs[k].length ck))) (by kernel_rfl) hS (fun _=>?_);refine tJ 0 hS ?_;refine tJ 1 hS ?_;refine tJ 2 hS ?_;refine tJ 3 hS ?_;refine tJ 4 hS ?_;refine tJ 5 hS ?_;refine rJ 6 fun K hK=>?_
      refine step_call 63 #[.tmp 18] _ rfl rfl #[.pointer (some ⟨b,off+k,none⟩)] Tryz.call63 (by go_simp) HC.out ?_;rintro e w1 ⟨rfl,bb1⟩;refine ⟨_,rfl,?_⟩;replace hS:(fun w'=>w'.cell? ⟨g,f,none⟩=some (.slice (some ⟨b,off,none⟩) xs.length c)∧w'.cell? ⟨b,off+k,none⟩=some (.slice AK xs[k].length ck)) w1:=⟨keep_b (w2:=wr.drew) bb1 hgl hg,keep_b (w2:=wr.drew) bb1 hbb' h0⟩
      dsimp only at hS;refine bJ hK hS ?_;clear hK K;simp only [Act.put,pA,pB,pC];refine tJ 7 hS ?_;refine tJ 8 hS ?_;refine tJ0 9 hS ?_;refine tJ0 10 hS ?_;refine tJ0 11 hS ?_;refine tJ0 12 hS ?_;refine tJ0 13 hS ?_;refine tJ0 14 hS ?_;refine tJ0 15 hS ?_;refine tJ0 16 hS ?_;refine tJ0 17 hS ?_;refine tJ0 18 hS ?_;refine tJ0 19 hS ?_;refine tJ0 20 hS ?_;refine tJ0 21 hS ?_;refine tJ0 22 hS ?_;refine tJ0 23 hS ?_;refine tJ0 24 hS ?_;refine tJ0 25 hS ?_;refine tJ0 26 hS ?_;refine tJ0 27 hS ?_;refine tJ0 28 hS ?_;refine tJ0 29 hS ?_;refine tJ0 30 hS ?_;refine tJ0 31 hS ?_;refine tJ0 32 hS ?_;refine tJ 33 hS ?_;refine wpAnyH_done (by kernel_rfl) ?_ _
      go_wp2_with fail
      go_ret;exact ⟨ret_boolI HF.out.symm,hb.drew.trans (bb1.mono hbs)⟩
    · have HP:=Lib.hid hp
      simp only [hp] at HC
      by_cases hz:k=0
      · have HK:Hid (stsOk xs (k+1)=true):=by show _=_; rw [stsOk,hok.out,stOk_step hlt HP.out (.inl hz)]; rfl
        have g0:(0 < k)=False:=eq_false (by omega);obtain ⟨AK,ck,rfl⟩:=slice_len hrk;clear hr hz hp hrk QK
        go_wp2_with fail
        have hS:(fun w'=>w'.cell? ⟨g,f,none⟩=some (.slice (some ⟨b,off,none⟩) xs.length c)∧w'.cell? ⟨b,off+k,none⟩=some (.slice AK xs[k].length ck)) wr.drew:=⟨hg,h0⟩
        dsimp only at hS;refine wp_region_held_drew (S:=(fun w'=>w'.cell? ⟨g,f,none⟩=some (.slice (some ⟨b,off,none⟩) xs.length c)∧w'.cell? ⟨b,off+k,none⟩=some (.slice AK xs[k].length ck))) (by kernel_rfl) hS (fun _=>?_);refine tJ 0 hS ?_;refine tJ 1 hS ?_;refine tJ 2 hS ?_;refine tJ 3 hS ?_;refine tJ 4 hS ?_;refine tJ 5 hS ?_;refine rJ 6 fun K hK=>?_
        refine step_call 63 #[.tmp 18] _ rfl rfl #[.pointer (some ⟨b,off+k,none⟩)] Tryz.call63 (by go_simp) HC.out ?_;rintro e w1 ⟨rfl,bb1⟩;refine ⟨_,rfl,?_⟩;replace hS:(fun w'=>w'.cell? ⟨g,f,none⟩=some (.slice (some ⟨b,off,none⟩) xs.length c)∧w'.cell? ⟨b,off+k,none⟩=some (.slice AK xs[k].length ck)) w1:=⟨keep_b (w2:=wr.drew) bb1 hgl hg,keep_b (w2:=wr.drew) bb1 hbb' h0⟩
        dsimp only at hS;refine bJ hK hS ?_;clear hK K;simp only [Act.put,pA,pB,pC];refine tJ 7 hS ?_;refine tJ 8 hS ?_;refine tJ 9 hS ?_;refine tJ 10 hS ?_;refine tJ 11 hS ?_;refine tJ0 12 hS ?_;refine tJ0 13 hS ?_;refine tJ0 14 hS ?_;refine tJ0 15 hS ?_;refine tJ0 16 hS ?_;refine tJ0 17 hS ?_;refine tJ0 18 hS ?_;refine tJ0 19 hS ?_;refine tJ0 20 hS ?_;refine tJ0 21 hS ?_;refine tJ0 22 hS ?_;refine tJ0 23 hS ?_;refine tJ0 24 hS ?_;refine tJ0 25 hS ?_;refine tJ0 26 hS ?_;refine tJ0 27 hS ?_;refine tJ0 28 hS ?_;refine tJ0 29 hS ?_;refine tJ0 30 hS ?_;refine tJ0 31 hS ?_;refine tJ 32 hS ?_;refine tJ 33 hS ?_;refine wpAnyH_done (by kernel_rfl) ?_ _
        go_wp2_with fail
        go_roundw
        case rel=>exact ⟨k+1,by omega,by go_num,HK,hb.drew.trans (bb1.mono hbs)⟩
        case measure=>simp [intOf]; omega
      · obtain ⟨j,hj⟩:∃ j,k=j+1:=⟨k - 1,by omega⟩
        have jl:j < xs.length:=by omega
        obtain ⟨b',off',u',Fj,e',hb3,_,hrj,_,h3⟩:=hr j jl;injection e' with e'
        injection e' with e1 e2 _
        subst e1; subst e2
        rw [← hb.cell (p:=⟨b,_,none⟩) hb3] at h3;obtain ⟨Aj,cj,rfl⟩:=slice_len hrj;have p1:=strokeB_pos hp;have p2:=Lib.hid (strokeB_pos (stOk_stroke jl (stsOk_get hok.out (show j < k by omega))));have hlej:=hxe _ (List.getElem_mem jl);have QJ:=Lib.hid (hrj.below hb).drew;have CL:=Lib.hid (fun w2 (bb:Below wr.drew.heap.size wr.drew w2) (hc:w2.cell? ⟨b,off+j,none⟩=some (.slice Aj xs[j].length cj))=>spec_l02Last_c w2 hc (QJ.out.below bb) p2.out hlej);obtain ⟨AK,ck,rfl,_,_,hr1⟩:=pPoints_open hrk;obtain ⟨b1,o1,rfl,hb1,_,_,_,h4,_⟩:=hr1 0 p1;rw [← hb.cell (p:=⟨b1,_,none⟩) hb1] at h4;simp only [Nat.zero_mul,Nat.add_zero] at h4;replace hb1:b1 < wr.heap.size:=by omega
        have eft:xs[k][0].t=firstT xs[k]:=by unfold firstT; rw [pt_get p1]
        rw [eft] at h4;have p1':(0:Int) < (xs[k].length:Int):=by omega
        have g0:(0 < k)=True:=eq_true (by omega);have gj:IntKind.i64.wrap ((k:Int) - 1)=(j:Int):=(IntWalk.i64_in _ (by omega)).trans (by omega);have jl':(j:Int) < (xs.length:Int):=by omega
        have j0:(0:Int)≤(j:Int):=by omega
        have HT:firstT xs[k]≤lastT xs[j]→Hid (inkB xs=false):=fun ht=>inkB_false hlt (by subst hj; exact stOk_late hlt ht)
        have HN:¬ firstT xs[k]≤lastT xs[j]→Hid (stsOk xs (k+1)=true):=fun ht=>by
         show _=_
         rw [stsOk,hok.out,stOk_step hlt HP.out (.inr ⟨j,hj,fun _=>by omega⟩)]; rfl
        clear eft;generalize hft:firstT xs[k]=ft at h4 HT HN;generalize hlt':lastT xs[j]=ltt at CL HT HN;have HT':=Lib.hid HT;have HN':=Lib.hid HN;have HJ:=Lib.hid hj;clear hr hj hz hp hrj hrk HT HN hft hlt' hr1 QK
        by_cases ht:ft≤ltt
        · have HF:=HT'.out ht
          have gt:(ft≤ltt)=True:=eq_true ht;clear ht
          go_wp2_with fail
          have hS:(fun w'=>w'.cell? ⟨g,f,none⟩=some (.slice (some ⟨b,off,none⟩) xs.length c)∧w'.cell? ⟨b,off+k,none⟩=some (.slice (some ⟨b1,o1,none⟩) xs[k].length ck)∧w'.cell? ⟨b,off+j,none⟩=some (.slice Aj xs[j].length cj)∧w'.cell? ⟨b1,o1+2,none⟩=some (.int .i64 ft)) wr.drew:=⟨hg,h0,h3,h4⟩
          dsimp only at hS;refine wp_region_held_drew (S:=(fun w'=>w'.cell? ⟨g,f,none⟩=some (.slice (some ⟨b,off,none⟩) xs.length c)∧w'.cell? ⟨b,off+k,none⟩=some (.slice (some ⟨b1,o1,none⟩) xs[k].length ck)∧w'.cell? ⟨b,off+j,none⟩=some (.slice Aj xs[j].length cj)∧w'.cell? ⟨b1,o1+2,none⟩=some (.int .i64 ft))) (by kernel_rfl) hS (fun _=>?_);refine tJ 0 hS ?_;refine tJ 1 hS ?_;refine tJ 2 hS ?_;refine tJ 3 hS ?_;refine tJ 4 hS ?_;refine tJ 5 hS ?_;refine rJ 6 fun K hK=>?_
          refine step_call 63 #[.tmp 18] _ rfl rfl #[.pointer (some ⟨b,off+k,none⟩)] Tryz.call63 (by go_simp) HC.out ?_;rintro e w1 ⟨rfl,bb1⟩;refine ⟨_,rfl,?_⟩;replace hS:(fun w'=>w'.cell? ⟨g,f,none⟩=some (.slice (some ⟨b,off,none⟩) xs.length c)∧w'.cell? ⟨b,off+k,none⟩=some (.slice (some ⟨b1,o1,none⟩) xs[k].length ck)∧w'.cell? ⟨b,off+j,none⟩=some (.slice Aj xs[j].length cj)∧w'.cell? ⟨b1,o1+2,none⟩=some (.int .i64 ft)) w1:=⟨keep_b (w2:=wr.drew) bb1 hgl hg,keep_b (w2:=wr.drew) bb1 hbb' h0,keep_b (w2:=wr.drew) bb1 hbb' h3,keep_b (w2:=wr.drew) bb1 hb1 h4⟩
          dsimp only at hS;refine bJ hK hS ?_;clear hK K;simp only [Act.put,pA,pB,pC];refine tJ 7 hS ?_;refine tJ 8 hS ?_;refine tJ 9 hS ?_;refine tJ 10 hS ?_;refine tJ 11 hS ?_;refine tJ 12 hS ?_;refine tJ 13 hS ?_;refine tJ 14 hS ?_;refine tJ 15 hS ?_;refine tJ 16 hS ?_;refine tJ 17 hS ?_;refine tJ 18 hS ?_;refine tJ 19 hS ?_;refine tJ 20 hS ?_;refine tJ 21 hS ?_;refine tJ 22 hS ?_;refine tJ 23 hS ?_;refine tJ 24 hS ?_;refine tJ 25 hS ?_;refine tJ 26 hS ?_;refine tJ 27 hS ?_;refine tJ 28 hS ?_;refine tJ 29 hS ?_;refine rJ 30 fun K hK=>?_
          refine step_call 64 #[.tmp 42] _ rfl rfl #[.pointer (some ⟨b,off+j,none⟩)] Tryz.call64 (by go_simp) (CL.out _ bb1 hS.2.2.1) ?_;rintro e w2 ⟨rfl,n2,rfl⟩;refine ⟨_,rfl,?_⟩;refine bJ hK hS ?_;clear hK K;simp only [Act.put,pA,pB,pC];refine tJ 31 hS ?_;refine tJ 32 hS ?_;refine tJ 33 hS ?_;refine wpAnyH_done (by kernel_rfl) ?_ _
          go_wp2_with fail
          go_ret;exact ⟨ret_boolI HF.out.symm,below_drewN (hb.drew.trans (bb1.mono hbs)) _⟩
        · have HK:=HN'.out ht
          have gt:(ft≤ltt)=False:=eq_false ht;clear ht
          go_wp2_with fail
          have hS:(fun w'=>w'.cell? ⟨g,f,none⟩=some (.slice (some ⟨b,off,none⟩) xs.length c)∧w'.cell? ⟨b,off+k,none⟩=some (.slice (some ⟨b1,o1,none⟩) xs[k].length ck)∧w'.cell? ⟨b,off+j,none⟩=some (.slice Aj xs[j].length cj)∧w'.cell? ⟨b1,o1+2,none⟩=some (.int .i64 ft)) wr.drew:=⟨hg,h0,h3,h4⟩
          dsimp only at hS;refine wp_region_held_drew (S:=(fun w'=>w'.cell? ⟨g,f,none⟩=some (.slice (some ⟨b,off,none⟩) xs.length c)∧w'.cell? ⟨b,off+k,none⟩=some (.slice (some ⟨b1,o1,none⟩) xs[k].length ck)∧w'.cell? ⟨b,off+j,none⟩=some (.slice Aj xs[j].length cj)∧w'.cell? ⟨b1,o1+2,none⟩=some (.int .i64 ft))) (by kernel_rfl) hS (fun _=>?_);refine tJ 0 hS ?_;refine tJ 1 hS ?_;refine tJ 2 hS ?_;refine tJ 3 hS ?_;refine tJ 4 hS ?_;refine tJ 5 hS ?_;refine rJ 6 fun K hK=>?_
          refine step_call 63 #[.tmp 18] _ rfl rfl #[.pointer (some ⟨b,off+k,none⟩)] Tryz.call63 (by go_simp) HC.out ?_;rintro e w1 ⟨rfl,bb1⟩;refine ⟨_,rfl,?_⟩;replace hS:(fun w'=>w'.cell? ⟨g,f,none⟩=some (.slice (some ⟨b,off,none⟩) xs.length c)∧w'.cell? ⟨b,off+k,none⟩=some (.slice (some ⟨b1,o1,none⟩) xs[k].length ck)∧w'.cell? ⟨b,off+j,none⟩=some (.slice Aj xs[j].length cj)∧w'.cell? ⟨b1,o1+2,none⟩=some (.int .i64 ft)) w1:=⟨keep_b (w2:=wr.drew) bb1 hgl hg,keep_b (w2:=wr.drew) bb1 hbb' h0,keep_b (w2:=wr.drew) bb1 hbb' h3,keep_b (w2:=wr.drew) bb1 hb1 h4⟩
          dsimp only at hS;refine bJ hK hS ?_;clear hK K;simp only [Act.put,pA,pB,pC];refine tJ 7 hS ?_;refine tJ 8 hS ?_;refine tJ 9 hS ?_;refine tJ 10 hS ?_;refine tJ 11 hS ?_;refine tJ 12 hS ?_;refine tJ 13 hS ?_;refine tJ 14 hS ?_;refine tJ 15 hS ?_;refine tJ 16 hS ?_;refine tJ 17 hS ?_;refine tJ 18 hS ?_;refine tJ 19 hS ?_;refine tJ 20 hS ?_;refine tJ 21 hS ?_;refine tJ 22 hS ?_;refine tJ 23 hS ?_;refine tJ 24 hS ?_;refine tJ 25 hS ?_;refine tJ 26 hS ?_;refine tJ 27 hS ?_;refine tJ 28 hS ?_;refine tJ 29 hS ?_;refine rJ 30 fun K hK=>?_
          refine step_call 64 #[.tmp 42] _ rfl rfl #[.pointer (some ⟨b,off+j,none⟩)] Tryz.call64 (by go_simp) (CL.out _ bb1 hS.2.2.1) ?_;rintro e w2 ⟨rfl,n2,rfl⟩;refine ⟨_,rfl,?_⟩;refine bJ hK hS ?_;clear hK K;simp only [Act.put,pA,pB,pC];refine tJ 31 hS ?_;refine tJ 32 hS ?_;refine tJ 33 hS ?_;refine wpAnyH_done (by kernel_rfl) ?_ _
          go_wp2_with fail
          go_roundw
          case rel=>exact ⟨k+1,by omega,by go_num,HK,below_drewN (hb.drew.trans (bb1.mono hbs)) _⟩
          case measure=>simp [intOf]; omega
  · obtain rfl:k=xs.length:=by omega
    clear hr;have HV:Hid (inkB xs=decide (xs.length≤16)):=by show _=_; rw [inkB,hok.out]; rfl
    go_wp2_with fail
    go_ret;exact ⟨ret_boolI (by rw [HV.out,decide_eq_decide]; omega),hb⟩
end Go.Proofs.YtalmeogjhmblhaaGreat
namespace Go.Proofs.YtalmeogjhmblhaaGreat
open Go Go.Shelf Go.RowKit
set_option maxHeartbeats 8000000
def lays144_ren:Go.Shelf.Ren:=⟨fun | 144=>271 | 143=>308 | 219=>334 | 217=>346 | 225=>347 | 224=>348 | 267=>349 | 266=>353 | 314=>354 | n=>n,fun | 9=>9 | 4=>4 | 3=>3 | 5=>5 | 46=>293 | 146=>414 | 51=>335 | n=>n,fun | 1=>0 | n=>n⟩
theorem lays144:Go.Proofs.Lays.n144 Tryz.prog lays144_ren:={
 mixed:=by kernel_rfl
 f143:=Tryz.func308.trans (congrArg some (by kernel_rfl))
 f144:=Tryz.func271.trans (congrArg some (by kernel_rfl))
 f217:=Tryz.func346.trans (congrArg some (by kernel_rfl))
 f219:=Tryz.func334.trans (congrArg some (by kernel_rfl))
 f224:=Tryz.func348.trans (congrArg some (by kernel_rfl))
 f225:=Tryz.func347.trans (congrArg some (by kernel_rfl))
 f266:=Tryz.func353.trans (congrArg some (by kernel_rfl))
 f267:=Tryz.func349.trans (congrArg some (by kernel_rfl))
 f314:=Tryz.func354.trans (congrArg some (by kernel_rfl))
 t3:=Tryz.underlying3
 a3:=Tryz.isAgg3
 z3:=Tryz.sizeOf3
 v3:=Tryz.zeroValue3
 t4:=Tryz.underlying4
 a4:=Tryz.isAgg4
 z4:=Tryz.sizeOf4
 v4:=Tryz.zeroValue4
 t5:=Tryz.underlying5
 a5:=Tryz.isAgg5
 z5:=Tryz.sizeOf5
 v5:=Tryz.zeroValue5
 t9:=Tryz.underlying9
 a9:=Tryz.isAgg9
 z9:=Tryz.sizeOf9
 v9:=Tryz.zeroValue9
 t46:=Tryz.underlying293
 a46:=Tryz.isAgg293
 z46:=Tryz.sizeOf293
 v46:=Tryz.zeroValue293
 t51:=Tryz.underlying335
 a51:=Tryz.isAgg335
 z51:=Tryz.sizeOf335
 v51:=Tryz.zeroValue335
 t146:=Tryz.underlying414
 a146:=Tryz.isAgg414
 z146:=Tryz.sizeOf414
 v146:=Tryz.zeroValue414
 g1:=by kernel_rfl }
open Go.RowKit Go.Lib in
theorem strings_Contains_one (s:ByteArray) (c:UInt8) (w:World) :
 Calls Tryz.prog 271 #[.string s,.string ⟨#[c]⟩] w fun e w'=>e=.returned (.bool (decide (0≤Lib.indexByte s.data.toList c)))∧w'=w:=Any.strings_Contains_one lays144 s c w
theorem ret_boolL {a b:Bool} (h:a=b):Ending.returned (.bool a)=.returned (.bool b):=by rw [h]
def labelC (n:Int):Bool:=(decide (97≤n) && decide (n≤122)) || ((decide (48≤n) && decide (n≤57)) || decide (n=43∨n=45∨n=42∨n=47∨n=61∨n=40∨n=41∨n=46∨n=44))
theorem impl_isLetter_i (n:Int) (w:World) :
 Calls Tryz.prog 140 #[.int .u8 n] w fun e w'=>e=.returned (.bool (decide (97≤n) && decide (n≤122)))∧w'=w:=by
 by_cases h:97≤n
 · have g:decide (97≤n)=true:=by simpa using h
   go_enter Tryz.func140,Tryz.ntmps140
   go_wp2_with fail
   all_goals go_ret
   all_goals exact ⟨ret_boolL (by simp [*]),rfl⟩
 · have g:decide (97≤n)=false:=by simpa using h
   go_enter Tryz.func140,Tryz.ntmps140
   go_wp2_with fail
   all_goals go_ret
   all_goals exact ⟨ret_boolL (by simp [*]),rfl⟩
theorem spec_l01Small_i (n:Int) (w:World) :
 Calls Tryz.prog 174 #[.int .u8 n] w fun e w'=>e=.returned (.bool (decide (97≤n) && decide (n≤122)))∧w'=w:=by
 by_cases h:97≤n
 · have g:decide (97≤n)=true:=by simpa using h
   go_enter Tryz.func174,Tryz.ntmps174
   go_wp2_with fail
   all_goals go_ret
   all_goals exact ⟨ret_boolL (by simp [*]),rfl⟩
 · have g:decide (97≤n)=false:=by simpa using h
   go_enter Tryz.func174,Tryz.ntmps174
   go_wp2_with fail
   all_goals go_ret
   all_goals exact ⟨ret_boolL (by simp [*]),rfl⟩
theorem spec_l11Label_c (n:Int) (w:World) :
 Calls Tryz.prog 259 #[.int .u8 n] w fun e w'=>e=.returned (.bool (labelC n))∧w'=w:=by
 by_cases hs:n=43∨n=45∨n=42∨n=47∨n=61∨n=40∨n=41∨n=46∨n=44
 · have hl:labelC n=true:=by simp [labelC,hs]
   rw [hl];clear hl;rcases hs with rfl | rfl | rfl | rfl | rfl | rfl | rfl | rfl | rfl
   all_goals
    go_enter Tryz.func259,Tryz.ntmps259
    go_wp2_with fail
    go_ret;exact ⟨rfl,rfl⟩
 · have hl:labelC n=((decide (97≤n) && decide (n≤122)) || (decide (48≤n) && decide (n≤57))):=by simp [labelC,hs]
   rw [hl];clear hl;have C:=spec_l01Small_i n;generalize (decide (97≤n) && decide (n≤122))=d at C ⊢;have HC:=Lib.hid C;clear C;have g1:(n == 43)=false:=by simp; omega
   have g2:(n == 45)=false:=by simp; omega
   have g3:(n == 42)=false:=by simp; omega
   have g4:(n == 47)=false:=by simp; omega
   have g5:(n == 61)=false:=by simp; omega
   have g6:(n == 40)=false:=by simp; omega
   have g7:(n == 41)=false:=by simp; omega
   have g8:(n == 46)=false:=by simp; omega
   have g9:(n == 44)=false:=by simp; omega
   clear hs;cases d
   · by_cases h:48≤n
     · have g:decide (48≤n)=true:=by simpa using h
       go_enter Tryz.func259,Tryz.ntmps259
       go_wp2_with (go_at_call 174; refine (HC.out _).mono ?_; rintro e w1 ⟨rfl,rfl⟩)
       all_goals go_ret
       all_goals exact ⟨ret_boolL (by simp [*]),rfl⟩
     · have g:decide (48≤n)=false:=by simpa using h
       go_enter Tryz.func259,Tryz.ntmps259
       go_wp2_with (go_at_call 174; refine (HC.out _).mono ?_; rintro e w1 ⟨rfl,rfl⟩)
       all_goals go_ret
       all_goals exact ⟨ret_boolL (by simp [*]),rfl⟩
   · go_enter Tryz.func259,Tryz.ntmps259
     go_wp2_with (go_at_call 174; refine (HC.out _).mono ?_; rintro e w1 ⟨rfl,rfl⟩)
     all_goals go_ret
     all_goals exact ⟨rfl,rfl⟩
def labelB (s:ByteArray):Bool:=decide (s.size=1) && labelC ((s.data[0]?.getD 0).toNat:Int)
theorem one_byte {s:ByteArray} (h:s.size=1):∃ c,s=⟨#[c]⟩:=by
 obtain ⟨⟨l⟩⟩:=s;simp only [ByteArray.size] at h
 match l,h with
 | [c],_=>exact ⟨c,rfl⟩
theorem has_label:∀ c:UInt8,((decide (97≤(c.toNat:Int)) && decide ((c.toNat:Int)≤122)) || decide (0≤Lib.indexByte [48,49,50,51,52,53,54,55,56,57,43,45,42,47,61,40,41,46,44] c))=labelC (c.toNat:Int):=by
 have h:∀ n:Fin 256,((decide (97≤((UInt8.ofNat n.val).toNat:Int)) && decide (((UInt8.ofNat n.val).toNat:Int)≤122)) || decide (0≤Lib.indexByte [48,49,50,51,52,53,54,55,56,57,43,45,42,47,61,40,41,46,44] (UInt8.ofNat n.val)))=labelC ((UInt8.ofNat n.val).toNat:Int):=by decide +kernel
 intro c;have:=h ⟨c.toNat,UInt8.toNat_lt c⟩
 simpa using this
theorem spec_IsLabel_c (s:ByteArray) (w:World) (hs:s.size≤1048576) :
 Calls Tryz.prog 210 #[.string s] w fun e w'=>e=.returned (.bool (labelB s))∧w'=w:=by
 by_cases h:s.size=1
 · obtain ⟨c,rfl⟩:=one_byte h
   have hl:labelB ⟨#[c]⟩=labelC (c.toNat:Int):=by simp [labelB,ByteArray.size]
   rw [hl];have HC:=Lib.hid (spec_l11Label_c (c.toNat:Int));clear hl
   go_enter Tryz.func210,Tryz.ntmps210
   go_wp2_with fail
   refine (HC.out _).mono ?_;rintro e w1 ⟨rfl,rfl⟩
   go_wp2_with fail
   go_ret;exact ⟨rfl,rfl⟩
 · have hl:labelB s=false:=by simp [labelB,h]
   rw [hl];have g:((s.size:Int) == 1)=false:=by rw [beq_eq_false_iff_ne]; omega
   clear hl h
   go_enter Tryz.func210,Tryz.ntmps210
   go_wp2_with fail
   go_ret;exact ⟨rfl,rfl⟩
theorem impl_IsLabel_c (s:ByteArray) (w:World) (hs:s.size≤1048576) :
 Calls Tryz.prog 223 #[.string s] w fun e w'=>e=.returned (.bool (labelB s))∧w'=w:=by
 by_cases h:s.size=1
 · obtain ⟨c,rfl⟩:=one_byte h
   have hl:labelB ⟨#[c]⟩=labelC (c.toNat:Int):=by simp [labelB,ByteArray.size]
   have hh:=has_label c;rw [hl,← hh];have C1:=impl_isLetter_i (c.toNat:Int);have C2:=strings_Contains_one ⟨#[48,49,50,51,52,53,54,55,56,57,43,45,42,47,61,40,41,46,44]⟩ c;generalize (decide (97≤(c.toNat:Int)) && decide ((c.toNat:Int)≤122))=d at C1 ⊢;generalize decide (0≤Lib.indexByte [48,49,50,51,52,53,54,55,56,57,43,45,42,47,61,40,41,46,44] c)=b at C2 ⊢;have H1:=Lib.hid C1;have H2:=Lib.hid C2;clear hl hh C1 C2;cases d
   all_goals
    go_enter Tryz.func223,Tryz.ntmps223
    go_wp2_with (first | (go_at_call 140; refine (H1.out _).mono ?_; rintro e w1 ⟨rfl,rfl⟩) | (go_at_call 271; refine (H2.out _).mono ?_; rintro e w1 ⟨rfl,rfl⟩))
    go_ret;exact ⟨rfl,rfl⟩
 · have hl:labelB s=false:=by simp [labelB,h]
   rw [hl];have g:((s.size:Int) == 1)=false:=by rw [beq_eq_false_iff_ne]; omega
   clear hl h
   go_enter Tryz.func223,Tryz.ntmps223
   go_wp2_with fail
   go_ret;exact ⟨rfl,rfl⟩
def featB (f:PFeat):Bool:=inR f.x 0 255 && (inR f.y 0 255 && inR f.d 0 7)
def featsB (fs:List PFeat):Bool:=fs.all featB && (decide (1≤fs.length) && decide (fs.length≤72))
def tempB (t:PTemp):Bool:=labelB t.label && featsB t.feats
def storeB (p:PSetup):Bool:=p.temps.all tempB && (inR p.band 0 72 && decide (p.temps.length≤40))
def settingB (p:PSetting):Bool:=inR p.points 2 24 && (inR p.most 1 8 && inR p.pen 0 1000)
def costB (n:Int):Bool:=inR n 0 1000000
def entAt (xs:List PEntry) (k:Nat):PEntry:=xs.getD k ⟨.empty,0⟩
def entOk (xs:List PEntry) (k:Nat):Bool:=isWordB (entAt xs k).word && (costB (entAt xs k).cost && (decide (k=0) || bLess (entAt xs (k - 1)).word (entAt xs k).word))
def entsOk (xs:List PEntry):Nat→Bool
 | 0=>true
 | k+1=>entsOk xs k && entOk xs k
def lexB (xs:List PEntry):Bool:=entsOk xs xs.length && decide (xs.length≤60)
def bigKey (b:PBigram):CKey:=(b.first,b.second)
def bigB (b:PBigram):Bool:=isWordB b.second && ((decide (b.first=.empty) || isWordB b.first) && costB b.cost)
def bigAt (xs:List PBigram) (k:Nat):PBigram:=xs.getD k ⟨.empty,.empty,0⟩
def bigOk (xs:List PBigram) (k:Nat):Bool:=bigB (bigAt xs k) && (decide (k=0) || cLess (bigKey (bigAt xs (k - 1))) (bigKey (bigAt xs k)))
def bigsOk (xs:List PBigram):Nat→Bool
 | 0=>true
 | k+1=>bigsOk xs k && bigOk xs k
def modelB (n:Int) (xs:List PBigram):Bool:=bigsOk xs xs.length && (costB n && decide (xs.length≤60))
def setupB (p:PSetup):Bool:=storeB p && (settingB ⟨p.points,p.most,p.pen⟩ && (lexB p.entries && (modelB p.dflt p.bigrams && inR p.pause 1 60000)))
theorem entAt_get {xs:List PEntry} {k:Nat} (h:k < xs.length):entAt xs k=xs[k]:=by simp [entAt,List.getD_eq_getElem?_getD,List.getElem?_eq_getElem h]
theorem bigAt_get {xs:List PBigram} {k:Nat} (h:k < xs.length):bigAt xs k=xs[k]:=by simp [bigAt,List.getD_eq_getElem?_getD,List.getElem?_eq_getElem h]
theorem upto_false {f:Nat→Bool} {g:Nat→Bool} (hg:∀ k,g (k+1)=(g k && f k)) {k:Nat} (h:f k=false):∀ n,k < n→g n=false
 | 0,hk=>by omega
 | n+1,hk=>by
   by_cases e:k=n
   · subst e; simp [hg,h]
   · rw [hg,upto_false hg h n (by omega)]; rfl
theorem entsOk_false {xs:List PEntry} {k n:Nat} (h:entOk xs k=false) (hk:k < n):entsOk xs n=false:=upto_false (f:=entOk xs) (g:=entsOk xs) (fun _=>rfl) h n hk
theorem bigsOk_false {xs:List PBigram} {k n:Nat} (h:bigOk xs k=false) (hk:k < n):bigsOk xs n=false:=upto_false (f:=bigOk xs) (g:=bigsOk xs) (fun _=>rfl) h n hk
def inkEndI (xs:List PStroke):Int:=if xs.length=0 then -1 else (pt (xs.getD (xs.length - 1) []) ((xs.getD (xs.length - 1) []).length - 1)).t
def openB (q:PSess):Bool:=decide (q.opn.length=0) || (strokeB q.opn && (decide (inkEndI q.strokes < (pt q.opn 0).t) && decide ((pt q.opn (q.opn.length - 1)).t≤q.time)))
def sessB (q:PSess):Bool:=setupB q.setup && (inkB q.strokes && (inR q.time 0 3600000 && (decide (inkEndI q.strokes≤q.time) && (openB q && (q.words.all isWordB && decide (q.words.length≤60))))))
def spotN (s:PStroke) (n k:Nat):Int × Int:=spotZ s (k:Int) ((n:Int) - 1)
def featD (s:PStroke) (n:Nat):Nat→Int
 | 0=>if 1 < n∧spotN s n 1≠spotN s n 0 then dirZ ((spotN s n 1).1 - (spotN s n 0).1) ((spotN s n 1).2 - (spotN s n 0).2) else 0
 | k+1=>if k+2 < n∧spotN s n (k+2)≠spotN s n (k+1) then dirZ ((spotN s n (k+2)).1 - (spotN s n (k+1)).1) ((spotN s n (k+2)).2 - (spotN s n (k+1)).2) else featD s n k
theorem featD_small (s:PStroke) (n:Nat):∀ k,0≤featD s n k∧featD s n k≤7
 | 0=>by
   rw [featD]; split
   · exact dirZ_small _ _
   · exact ⟨Int.le_refl _,by decide⟩
 | k+1=>by
   rw [featD]; split
   · exact dirZ_small _ _
   · exact featD_small s n k
def featZ (s:PStroke) (b:BoxZ) (n k:Nat):PFeat:=⟨(normZ (spotN s n k) b).1,(normZ (spotN s n k) b).2,featD s n k⟩
def featsZ (s:PStroke) (b:BoxZ) (n:Nat):List PFeat:=(List.range n).map (featZ s b n)
def featsInk (xs:List PStroke) (n:Nat):List PFeat:=xs.flatMap fun s=>featsZ s (boxAllZ xs) n
theorem featsInk_len (xs:List PStroke) (n:Nat):(featsInk xs n).length=xs.length * n:=by
 have key:∀ (b:BoxZ) (l:List PStroke),(l.flatMap fun s=>featsZ s b n).length=l.length * n:=by
  intro b l
  induction l with
  | nil=>simp
  | cons s l ih=>rw [List.flatMap_cons,List.length_append,ih,featsZ,List.length_map,List.length_range,List.length_cons,Nat.add_mul]; omega
 exact key _ _
theorem featsInk_ok {xs:List PStroke} (hx:∀ s∈xs,strokeB s=true) {n:Nat} (hn:2≤n):∀ f∈featsInk xs n,featB f=true:=by
 intro f hf;obtain ⟨s,hs,hf⟩:=List.mem_flatMap.1 hf;obtain ⟨k,hk,rfl⟩:=List.mem_map.1 hf;have hb:=boxAllZ_in hs;have hpt:∀ j,j < s.length→InZ (ptBox (pt s j)) (boxAllZ xs):=fun j hj=>(boxOfZ_pt hj).trans hb
 have hsp:=spotZ_in (part:=(k:Int)) (parts:=(n:Int) - 1) (hx s hs) (by omega) (by omega) (fun j hj=>⟨(hpt j hj).1,(hpt j hj).2.2.1⟩) (fun j hj=>⟨(hpt j hj).2.1,(hpt j hj).2.2.2⟩);have hn:=normZ_small (p:=spotN s n k) (b:=boxAllZ xs) hsp.1 hsp.2;have hd:=featD_small s n k;simp only [featB,featZ,inR,Bool.and_eq_true];exact ⟨⟨decide_eq_true hn.1.1,decide_eq_true hn.1.2⟩,⟨decide_eq_true hn.2.1,decide_eq_true hn.2.2⟩,decide_eq_true hd.1,decide_eq_true hd.2⟩
def costZ (a b:PFeat):Int:=absZ (a.x - b.x)+absZ (a.y - b.y)+16 * min (absZ (a.d - b.d)) (8 - absZ (a.d - b.d))
theorem costZ_small {a b:PFeat} (ha:featB a=true) (hb:featB b=true):0≤costZ a b∧costZ a b≤574:=by
 simp only [featB,inR,Bool.and_eq_true,decide_eq_true_eq] at ha hb;unfold costZ absZ
 repeat' split
 all_goals omega
def ftAt (l:List PFeat) (k:Nat):PFeat:=l.getD k ⟨0,0,0⟩
theorem ftAt_ok {l:List PFeat} (h:∀ f∈l,featB f=true) (k:Nat):featB (ftAt l k)=true:=by
 rw [ftAt,List.getD_eq_getElem?_getD];rcases Nat.lt_or_ge k l.length with hk | hk
 · rw [List.getElem?_eq_getElem hk]; exact h _ (List.getElem_mem hk)
 · rw [List.getElem?_eq_none hk]; rfl
def elZ (a b:List PFeat) (band:Int):Option Int:=elE (fun i j=>costZ (ftAt a i) (ftAt b j)) band (a.length - 1) (b.length - 1)
theorem minO_some {x y:Option Int} {v:Int} (h:x=some v):∃ u,minO x y=some u:=by
 subst h; cases y with
 | none=>exact ⟨v,rfl⟩
 | some y=>exact ⟨_,rfl⟩
theorem elE_some (cost:Nat→Nat→Int) {band:Int}:∀ i j:Nat,elE.absE ((i:Int) - j)≤band→∃ v,elE cost band i j=some v
 | 0,0,h=>by
   have:elE.absE (((0:Nat):Int) - (0:Nat))=0:=rfl;rw [elE,if_neg (by omega)]; exact ⟨_,rfl⟩
 | 0,j+1,h=>by
   have e:elE.absE (((0:Nat):Int) - ((j+1:Nat):Int))=((j+1:Nat):Int):=by unfold elE.absE; split <;> omega
   have e2:elE.absE (((0:Nat):Int) - (j:Int))=(j:Int):=by unfold elE.absE; split <;> omega
   obtain ⟨v,hv⟩:=elE_some cost (band:=band) 0 j (by omega);rw [elE,if_neg (by omega),hv]; exact ⟨_,rfl⟩
 | i+1,0,h=>by
   have e:elE.absE (((i+1:Nat):Int) - ((0:Nat):Int))=((i+1:Nat):Int):=by unfold elE.absE; split <;> omega
   have e2:elE.absE ((i:Int) - ((0:Nat):Int))=(i:Int):=by unfold elE.absE; split <;> omega
   obtain ⟨v,hv⟩:=elE_some cost (band:=band) i 0 (by omega);rw [elE,if_neg (by omega),hv]; exact ⟨_,rfl⟩
 | i+1,j+1,h=>by
   have e:(((i+1:Nat):Int) - ((j+1:Nat):Int))=(i:Int) - j:=by push_cast; omega
   rw [e] at h;obtain ⟨v,hv⟩:=elE_some cost (band:=band) i j h;obtain ⟨u,hu⟩:=minO_some (y:=elE cost band i (j+1)) hv;obtain ⟨t,ht⟩:=minO_some (y:=elE cost band (i+1) j) hu;rw [elE,if_neg (by omega),ht]; exact ⟨_,rfl⟩
def bandB (band:Int) (n m:Nat):Bool:=decide (absZ ((n:Int) - m)≤band)
theorem elZ_some {a b:List PFeat} {band:Int} (ha:∀ f∈a,featB f=true) (hb:∀ f∈b,featB f=true) (h1:1≤a.length) (h2:1≤b.length) (h3:a.length≤72) (h4:b.length≤72) (h:bandB band a.length b.length=true):∃ v,elZ a b band=some v∧0≤v∧v≤82082:=by
 rw [bandB,decide_eq_true_iff] at h
 obtain ⟨v,hv⟩:=elE_some (fun i j=>costZ (ftAt a i) (ftAt b j)) (band:=band) (a.length - 1) (b.length - 1) (by
  have e:((a.length - 1:Nat):Int) - ((b.length - 1:Nat):Int)=(a.length:Int) - b.length:=by omega
  rw [e]; exact h)
 have hs:=elE_small (K:=574) (fun i j=>costZ_small (ftAt_ok ha i) (ftAt_ok hb j)) _ _ v hv;exact ⟨v,hv,hs.1,by omega⟩
structure HypZ where
 label:ByteArray
 cost:Int
 deriving DecidableEq
def rawHyps (p:PSetup) (fs:List PFeat) (pen:Int):List HypZ:=(p.temps.filter fun t=>bandB p.band fs.length t.feats.length).map fun t=>⟨t.label,(elZ fs t.feats p.band).getD 0+pen⟩
def hypLt (x y:HypZ):Bool:=decide (x.cost < y.cost) || (decide (x.cost=y.cost) && bLess x.label y.label)
def hypsZ (p:PSetup) (xs:List PStroke):List HypZ:=((rawHyps p (featsInk xs p.points.toNat) (p.pen * ((xs.length:Int) - 1))).foldl (insK hypLt HypZ.label) []).take p.most.toNat
def isDotZ (s:PStroke):Bool:=decide ((boxOfZ s).x2 - (boxOfZ s).x1≤160) && decide ((boxOfZ s).y2 - (boxOfZ s).y1≤160)
def commonZ (d b:BoxZ):Int:=min b.x2 (d.x2+40) - max b.x1 (d.x1 - 40)+1
def homeZ (xs:List PStroke) (k:Nat):Option Nat:=if isDotZ (strk xs k)=true then (homeN (fun j=>isDotZ (strk xs j)) (fun j=>commonZ (boxOfZ (strk xs k)) (boxOfZ (strk xs j))) k).1 else none
theorem homeZ_ok (xs:List PStroke) (d h:Nat) (hh:homeZ xs d=some h):h < d∧homeZ xs h=none:=by
 rw [homeZ] at hh
 split at hh
 · obtain ⟨-,h2,-⟩:=homeN_is (fun j=>isDotZ (strk xs j)) (fun j=>commonZ (boxOfZ (strk xs d)) (boxOfZ (strk xs j))) d
   have:=h2 h hh;refine ⟨this.1,?_⟩;rw [homeZ,if_neg (by rw [this.2]; decide)]
 · cases hh
def orderZ (xs:List PStroke):List Nat:=orderN xs.length fun d=>if d < xs.length then homeZ xs d else none
def groupInk (xs:List PStroke) (a b:Nat):List PStroke:=((List.range xs.length).filter fun k=>decide (k∈((orderZ xs).take b).drop a)).map (strk xs)
def groupsZ (n:Nat):List (Nat × Nat):=(List.range n).flatMap fun a=>((List.range (n+1)).filter fun b=>decide (a < b) && decide (b≤a+3)).map fun b=>(a,b)
def groupE (p:PSetup) (xs:List PStroke) (g:Nat × Nat):List LEdge:=if ((g.2 - g.1:Nat):Int) * p.points≤72 then (hypsZ p (groupInk xs g.1 g.2)).map fun h=>⟨g.1,g.2,h.label,h.cost⟩ else []
def edgesZ (p:PSetup) (xs:List PStroke):List LEdge:=(groupsZ xs.length).flatMap (groupE p xs)
structure FoundZ where
 word:ByteArray
 path:Int
 own:Int
 deriving DecidableEq
def letterAt (w:ByteArray) (k:Nat):ByteArray:=w.extract k (k+1)
def foundZ (p:PSetup) (es:List LEdge) (n:Nat):List FoundZ:=p.entries.filterMap fun e=>(lcE es (letterAt e.word) e.word.size n).map fun c=>⟨e.word,c,e.cost⟩
def foundLt (x y:FoundZ):Bool:=decide (x.path+x.own < y.path+y.own) || (decide (x.path+x.own=y.path+y.own) && (decide (x.word.size < y.word.size) || (decide (x.word.size=y.word.size) && (bLess x.word y.word || (decide (x.word=y.word) && decide (x.path < y.path))))))
def sortedF (l:List FoundZ):List FoundZ:=l.foldl (fun l h=>insS foundLt h l) []
def pairZ (p:PSetup) (a b:ByteArray):Int:=((p.bigrams.find? fun g=>decide (g.first=a) && decide (g.second=b)).map (·.cost)).getD p.dflt
def bestF (p:PSetup) (last:ByteArray) (l:List FoundZ):Option (ByteArray × Int) :=
 l.foldl (fun m f=>match m with
  | none=>some (f.word,f.path+f.own+pairZ p last f.word)
  | some (w,c)=>if f.path+f.own+pairZ p last f.word < c then some (f.word,f.path+f.own+pairZ p last f.word) else some (w,c)) none
def readZ (q:PSess):ByteArray × Int × Int :=
 if q.strokes.length=0 then (.empty,0,6)
 else if 200 < (edgesZ q.setup q.strokes).length then (.empty,0,5)
 else match bestF q.setup (q.words.getLast?.getD .empty) (sortedF (foundZ q.setup (edgesZ q.setup q.strokes) q.strokes.length)) with
  | some (w,c)=>(w,c,0)
  | none=>(.empty,0,3)
end Go.Proofs.YtalmeogjhmblhaaGreat

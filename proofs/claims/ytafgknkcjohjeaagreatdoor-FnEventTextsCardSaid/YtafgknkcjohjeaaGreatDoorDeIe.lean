/- The word is finished, in the reference. Conditions: none. -/
import Derived.Test.YtafgknkcjohjeaaGreatDoorEtKe
import Derived.Test.YtafgknkcjohjeaaGreatDoorRzTe
import Derived.Test.YtafgknkcjohjeaaGreatDoorEtGe
import Derived.Test.YtafgknkcjohjeaaGreatDoorRcRead2e
import Derived.Deep.Cut
import Derived.Deep.CutRange
import Derived.Test.YtafgknkcjohjeaaGreatDoorStrSe
import Derived.BigQuiet
import Derived.Test.YtafgknkcjohjeaaGreatDoorTke
import Derived.Test.YtafgknkcjohjeaaGreatDoorRzJe
import Derived.Test.YtafgknkcjohjeaaGreatDoorRzDe
namespace Go.Proofs.YtafgknkcjohjeaaGreatDoor
open Go Go.RowKit
set_option maxHeartbeats 8000000
set_option maxRecDepth 100000
theorem spec_l26Finish_c {q:PSess} {g:Nat} {a0 a1 a2 a3 a4 a5:Value} {F0 F1 F2 F3 F4 F5:List Nat} (w:World) (h:OwnSs w g q a0 a1 a2 a3 a4 a5 F0 F1 F2 F3 F4 F5) (hb:sessB q=true) :
 Calls Tryz.prog 31 #[.pointer (some ⟨g,0,none⟩)] w fun en w'=>en=.returned (.string (finS rdZ q).2)∧∃ b3 b5 G3 G5,OwnSs w' g (finS rdZ q).1 a0 a1 a2 b3 a4 b5 F0 F1 F2 G3 F4 G5∧Only (g :: F5) w w'∧(∀ x∈G3,x∈F3)∧(∀ x∈G5,x∈F5∨w.heap.size≤x):=by
 have H:=Lib.hid h;obtain ⟨A0,k0,rfl⟩:=slice_len h.r0;obtain ⟨A1,k1,rfl⟩:=slice_len h.r1;obtain ⟨A2,k2,rfl⟩:=slice_len h.r2;obtain ⟨A3,k3,rfl⟩:=slice_len h.r3;obtain ⟨A4,k4,rfl⟩:=slice_len h.r4;obtain ⟨A5,k5,rfl⟩:=slice_len h.r5;have x9:=h.row.cell' (i:=9) rfl;have lg:=h.row.lt;rcases Nat.eq_zero_or_pos q.strokes.length with hn | hn
 · have g0:((q.strokes.length:Int) == 0)=true:=by simp [hn]
   have g1:(q.strokes.length == 0)=true:=by simp [hn]
   have HF:=Lib.hid (finS_zero hn);clear h hn
   go_enter Tryz.func31,Tryz.ntmps31
   go_wp2_with fail
   go_ret;rw [HF.out];exact ⟨rfl,_,_,F3,F5,H.out,Only.refl _ _,fun x hx=>hx,fun x hx=>.inl hx⟩
 · have g0:((q.strokes.length:Int) == 0)=false:=by rw [beq_eq_false_iff_ne]; omega
   have g1:(q.strokes.length == 0)=false:=by rw [beq_eq_false_iff_ne]; omega
   have HN:=Lib.hid (show ¬ q.strokes.length=0 by omega);have C1:=Lib.hid (spec_l26Word_c (more:=[]) w (by rw [List.append_nil]; exact h.row) h.r0 h.r1 h.r2 h.r3 h.r5 hb);have HFN:=Lib.hid (finS_none HN.out);have HFS:=Lib.hid (finS_some HN.out);have HSZ:=Lib.hid (readZ_size hb);clear h hn hb;obtain ⟨z,hz⟩:∃ z,readZ q=z:=⟨_,rfl⟩
   rw [hz] at C1 HFN HFS HSZ;clear hz;obtain ⟨zw,zc,zk⟩:=z;dsimp only at C1 HFN HFS HSZ
   go_enter Tryz.func31,Tryz.ntmps31
   go_upto_region 3 with fail
   go_wp2_with fail
   refine C1.out.mono ?_;rintro e w1 ⟨rfl,b1⟩;have H1:=Lib.hid (H.out.later b1);have B1:=Lib.hid b1;clear x9 C1 b1;have y9:=H1.out.row.cell' (i:=9) rfl;have yF:=H1.out.row.frozen;have HN1:=Lib.hid H1.out.noInk;have HON:=Lib.hid ((Only.refl [g] w1).set (p:=⟨g,9,none⟩) (by simp) (.slice none 0 0))
   go_upto_region 5 with fail
   clear y9 yF;generalize w1.setCell ⟨g,9,none⟩ (.slice none 0 0)=ws at HN1 HON ⊢;have y12:=HN1.out.row.cell' (i:=12) rfl;have HSZ1:=HON.out.size
   by_cases h0:zk=0
   · subst h0
     have e1:((0:Int) != 0)=false:=rfl
     by_cases hl:q.words.length < 60
     · have g4:decide (60≤q.words.length)=false:=decide_eq_false (by omega)
       have g5:decide ((60:Int)≤(q.words.length:Int))=false:=decide_eq_false (by omega);have HV:=Lib.hid (HFS.out rfl hl);have hws:=HSZ.out rfl;have HWS:=Lib.hid (show zw.size≤maxLen by unfold maxLen; omega);have zs:(9223372036854775807 < 5+zw.size)=False:=eq_false (by omega);have HL:=Lib.hid hl;clear hl hws;have yF1:=HN1.out.row.frozen;have HR5:=Lib.hid (show (str.slice 9).rep true ws q.words [.slice A5 q.words.length k5] F5 from HN1.out.r5)
       go_wp2_with (at_builtin; refine wpList_append_repX (T:=str) (e:=9) (ys:=[zw]) (ec:=[.string zw]) rfl (.tmp 37) (.tmp 39) rfl Tryz.underlying43 Tryz.infoStr rfl (by decide) rfl (HR5.out.alloc _) rfl (repL_single.2 ⟨rfl,rfl,HWS.out⟩) (cellsAt_new _ _ _) trivial (by rw [List.append_nil]; exact (List.nodup_append.1 (List.nodup_append.1 H1.out.tail_nd).2.1).2.1) (by have:=HL.out; simp only [List.length_singleton,maxLen]; omega) (by have:=HL.out; simp only [List.length_singleton]; omega) ?_; intro v6 w8 F6 r6 o6 f6 x6; obtain ⟨V6,n6,c6,rfl⟩:=slice_form r6; have R6:=Lib.hid (show (strs 9).rep true w8 (q.words++[zw]) [.slice V6 n6 c6] F6 from r6); have HX6:=Lib.hid x6.1; have O6:=Lib.hid (show Only F5 ws w8 from (Only.of_below ((Below.refl _ _).alloc (Nat.le_refl _) _)).trans o6); have HND:=Lib.hid (show F6.Nodup from (f6 0 ⟨by rw [List.append_nil]; exact (List.nodup_append.1 (List.nodup_append.1 H1.out.tail_nd).2.1).2.1,fun x hx=>Nat.zero_le x⟩ (Nat.zero_le _)).1); have HP:=Lib.hid (HN1.out.putWords O6.out R6.out (fun x hx=>by rcases HX6.out x hx with h | h; (exact .inl (by simpa using h)); (exact .inr (by simp only [World.size_alloc] at h; omega))) HND.out); clear y12 yF1 r6 o6 f6 x6; have y12:=(HN1.out.row.onl O6.out (fun hin=>H1.out.far (by simp [hin]))).cell' (i:=12) rfl; have yF:=(HN1.out.row.onl O6.out (fun hin=>H1.out.far (by simp [hin]))).frozen)
       go_ret;rw [HV.out];refine ⟨rfl,_,_,[],F6,HP.out,?_,by simp,?_⟩
       · exact (((Only.of_below B1.out).trans (HON.out.mono (by intro z hz; simp only [List.mem_singleton] at hz; simp [hz]))).trans (O6.out.mono (fun x hx=>List.mem_cons_of_mem _ hx))).set (p:=⟨g,12,none⟩) (by simp) _
       · intro x hx
         rcases HX6.out x hx with h | h
         · exact .inl (by simpa using h)
         · have:=B1.out.size
           exact .inr (by simp only [World.size_alloc] at h; omega)
     · have g4:decide (60≤q.words.length)=true:=decide_eq_true (by omega)
       have g5:decide ((60:Int)≤(q.words.length:Int))=true:=decide_eq_true (by omega);have HV:=Lib.hid (HFN.out (fun hh=>hl hh.2));clear hl
       go_wp2_with fail
       go_ret;rw [HV.out];exact ⟨rfl,_,_,[],F5,HN1.out,(Only.of_below B1.out).trans (HON.out.mono (by intro z hz; simp only [List.mem_singleton] at hz; simp [hz])),by simp,fun x hx=>.inl hx⟩
   · have e1:(zk != 0)=true:=by rw [bne_iff_ne]; exact h0
     have HV:=Lib.hid (HFN.out (fun hh=>h0 hh.1));clear h0
     go_wp2_with fail
     go_ret;rw [HV.out];exact ⟨rfl,_,_,[],F5,HN1.out,(Only.of_below B1.out).trans (HON.out.mono (by intro z hz; simp only [List.mem_singleton] at hz; simp [hz])),by simp,fun x hx=>.inl hx⟩
theorem take1a {q:PSess} {x y t:Int} (h:q.time+q.setup.pause≤t):takeS rdZ q ⟨1,x,y,t⟩=({ (finS rdZ q).1 with opn:=[⟨x,y,t⟩],time:=t },(finS rdZ q).2):=by
 rw [takeS,if_pos rfl]; simp only [if_pos h]
theorem take1b {q:PSess} {x y t:Int} (h:¬ q.time+q.setup.pause≤t):takeS rdZ q ⟨1,x,y,t⟩=({ q with opn:=[⟨x,y,t⟩],time:=t },⟨#[]⟩):=by
 rw [takeS,if_pos rfl]; simp only [if_neg h]; rfl
theorem take4 (q:PSess) (x y t:Int):takeS rdZ q ⟨4,x,y,t⟩=({ (finS rdZ q).1 with time:=t },(finS rdZ q).2):=rfl
theorem beqB_true (x y:Int) (h:x=y):(x == y)=true:=by simp [h]
theorem beqB_false (x y:Int) (h:x≠y):(x == y)=false:=by simp [h]
theorem spec_l26Code_c {q:PSess} {e:PEvent} {A3 A4:Option Addr} {k3 k4 g gE oE:Nat} (w:World) (hp:possB e=true) (lg:g < w.heap.size) (lE:gE < w.heap.size) (x9:w.cell? ⟨g,9,none⟩=some (.slice A3 q.strokes.length k3)) (x10:w.cell? ⟨g,10,none⟩=some (.slice A4 q.opn.length k4)) (x11:w.cell? ⟨g,11,none⟩=some (.int .i64 q.time))
 (y0:w.cell? ⟨gE,oE,none⟩=some (.int .i64 e.kind)) (y3:w.cell? ⟨gE,oE+3,none⟩=some (.int .i64 e.t)) :
 Calls Tryz.prog 30 #[.pointer (some ⟨g,0,none⟩),.pointer (some ⟨gE,oE,none⟩)] w fun en w'=>en=.returned (.int .i64 (codeS q e))∧Below w.heap.size w w':=by
 have hk:=possB_kind hp;obtain ⟨kind,x,y,t⟩:=e;dsimp only at hk y0 y3 ⊢;obtain ⟨ob,hob⟩:∃ b,decide (0 < q.opn.length)=b:=⟨_,rfl⟩
 obtain ⟨sb,hsb⟩:∃ b,decide (0 < q.strokes.length)=b:=⟨_,rfl⟩
 have HV:=Lib.hid (show codeS q ⟨kind,x,y,t⟩=if ob≠decide (kind=2∨kind=3) then 6 else if laterB q ⟨kind,x,y,t⟩=false then 2 else if (kind=2∧60≤q.opn.length)∨(kind=3∧16≤q.strokes.length) then 5 else 0 by rw [codeS,hob])
 have HL:=Lib.hid (show laterB q ⟨kind,x,y,t⟩=(decide (q.time < t) || (decide (t=q.time) && (decide (kind≠2) && (decide (kind≠1) || !sb)))) by
  rw [laterB,← hsb];cases hz:decide (0 < q.strokes.length) with
  | true=>rw [decide_eq_false (show ¬ q.strokes.length=0 by have:=of_decide_eq_true hz; omega)]; rfl
  | false=>rw [decide_eq_true (show q.strokes.length=0 by have:=of_decide_eq_false hz; omega)]; rfl)
 have g1:decide ((0:Int) < (q.opn.length:Int))=ob:=by rw [← hob]; exact decide_eq_decide.2 (by omega)
 have g2:decide ((0:Int) < (q.strokes.length:Int))=sb:=by rw [← hsb]; exact decide_eq_decide.2 (by omega)
 have HX:=Lib.hid (fun (w':World) (b:Below w.heap.size w w')=>show w'.cell? ⟨g,9,none⟩=some (.slice A3 q.strokes.length k3)∧w'.cell? ⟨g,10,none⟩=some (.slice A4 q.opn.length k4)∧w'.cell? ⟨gE,oE,none⟩=some (.int .i64 kind) from ⟨(b.cell (p:=⟨g,_,none⟩) lg).trans x9,(b.cell (p:=⟨g,_,none⟩) lg).trans x10,(b.cell (p:=⟨gE,_,none⟩) lE).trans y0⟩);have BR:=Lib.hid (Below.refl w.heap.size w);rcases hk with (rfl | rfl) | (rfl | rfl)
 · -- the kind is 1
   cases ob
   · rcases Int.lt_trichotomy t q.time with h | h | h
     · have e1:decide (t < q.time)=true:=decide_eq_true h
       have HLV:=Lib.hid (show laterB q ⟨1,x,y,t⟩=false by rw [HL.out,decide_eq_false (show ¬ q.time < t by omega),decide_eq_false (show ¬ t=q.time by omega)]; rfl);clear h
       go_enter Tryz.func30,Tryz.ntmps30
       go_upto_region 5 with fail
       go_quiet (fail)
       obtain ⟨m9,rfl⟩:∃ n:Nat,n=nq:=⟨_,rfl⟩
       have BQ:=Lib.hid (below_drewN BR.out m9);clear x9 x10 x11 y0 y3;obtain ⟨x9,x10,y0⟩:=HX.out _ BQ.out;generalize World.drewN w m9=wq at x9 x10 y0 BQ ⊢
       (go_wp2_with fail; go_ret; exact ⟨by rw [HV.out,HLV.out]; simp,BQ.out⟩)
     · have e1:decide (t < q.time)=false:=decide_eq_false (by omega)
       have e2:(t == q.time)=true:=beqB_true _ _ h;have HLE:=Lib.hid (show laterB q ⟨1,x,y,t⟩=(decide ((1:Int)≠2) && (decide ((1:Int)≠1) || !sb)) by rw [HL.out,decide_eq_false (show ¬ q.time < t by omega),decide_eq_true h]; rfl);clear h;cases sb
       · have HLV:=Lib.hid (show laterB q ⟨1,x,y,t⟩=true by rw [HLE.out]; rfl)
         go_enter Tryz.func30,Tryz.ntmps30
         go_upto_region 5 with fail
         go_quiet (fail)
         obtain ⟨m9,rfl⟩:∃ n:Nat,n=nq:=⟨_,rfl⟩
         have BQ:=Lib.hid (below_drewN BR.out m9);clear x9 x10 x11 y0 y3;obtain ⟨x9,x10,y0⟩:=HX.out _ BQ.out;generalize World.drewN w m9=wq at x9 x10 y0 BQ ⊢
         (go_wp2_with fail; go_ret; exact ⟨by rw [HV.out,HLV.out]; simp,BQ.out⟩)
       · have HLV:=Lib.hid (show laterB q ⟨1,x,y,t⟩=false by rw [HLE.out]; rfl)
         go_enter Tryz.func30,Tryz.ntmps30
         go_upto_region 5 with fail
         go_quiet (fail)
         obtain ⟨m9,rfl⟩:∃ n:Nat,n=nq:=⟨_,rfl⟩
         have BQ:=Lib.hid (below_drewN BR.out m9);clear x9 x10 x11 y0 y3;obtain ⟨x9,x10,y0⟩:=HX.out _ BQ.out;generalize World.drewN w m9=wq at x9 x10 y0 BQ ⊢
         (go_wp2_with fail; go_ret; exact ⟨by rw [HV.out,HLV.out]; simp,BQ.out⟩)
     · have e1:decide (t < q.time)=false:=decide_eq_false (by omega)
       have e2:(t == q.time)=false:=beqB_false _ _ (by omega);have HLV:=Lib.hid (show laterB q ⟨1,x,y,t⟩=true by rw [HL.out,decide_eq_true (show q.time < t by omega)]; rfl);clear h;cases sb
       · skip
         go_enter Tryz.func30,Tryz.ntmps30
         go_upto_region 5 with fail
         go_quiet (fail)
         obtain ⟨m9,rfl⟩:∃ n:Nat,n=nq:=⟨_,rfl⟩
         have BQ:=Lib.hid (below_drewN BR.out m9);clear x9 x10 x11 y0 y3;obtain ⟨x9,x10,y0⟩:=HX.out _ BQ.out;generalize World.drewN w m9=wq at x9 x10 y0 BQ ⊢
         (go_wp2_with fail; go_ret; exact ⟨by rw [HV.out,HLV.out]; simp,BQ.out⟩)
       · skip
         go_enter Tryz.func30,Tryz.ntmps30
         go_upto_region 5 with fail
         go_quiet (fail)
         obtain ⟨m9,rfl⟩:∃ n:Nat,n=nq:=⟨_,rfl⟩
         have BQ:=Lib.hid (below_drewN BR.out m9);clear x9 x10 x11 y0 y3;obtain ⟨x9,x10,y0⟩:=HX.out _ BQ.out;generalize World.drewN w m9=wq at x9 x10 y0 BQ ⊢
         (go_wp2_with fail; go_ret; exact ⟨by rw [HV.out,HLV.out]; simp,BQ.out⟩)
   · go_enter Tryz.func30,Tryz.ntmps30
     (go_wp2_with fail; go_ret; exact ⟨by rw [HV.out]; simp,BR.out⟩)
 · -- the kind is 2
   cases ob
   · go_enter Tryz.func30,Tryz.ntmps30
     (go_wp2_with fail; go_ret; exact ⟨by rw [HV.out]; simp,BR.out⟩)
   · rcases Int.lt_trichotomy t q.time with h | h | h
     · have e1:decide (t < q.time)=true:=decide_eq_true h
       have HLV:=Lib.hid (show laterB q ⟨2,x,y,t⟩=false by rw [HL.out,decide_eq_false (show ¬ q.time < t by omega),decide_eq_false (show ¬ t=q.time by omega)]; rfl);clear h
       go_enter Tryz.func30,Tryz.ntmps30
       go_upto_region 5 with fail
       go_quiet (fail)
       obtain ⟨m9,rfl⟩:∃ n:Nat,n=nq:=⟨_,rfl⟩
       have BQ:=Lib.hid (below_drewN BR.out m9);clear x9 x10 x11 y0 y3;obtain ⟨x9,x10,y0⟩:=HX.out _ BQ.out;generalize World.drewN w m9=wq at x9 x10 y0 BQ ⊢
       (go_wp2_with fail; go_ret; exact ⟨by rw [HV.out,HLV.out]; simp,BQ.out⟩)
     · have e1:decide (t < q.time)=false:=decide_eq_false (by omega)
       have e2:(t == q.time)=true:=beqB_true _ _ h;have HLE:=Lib.hid (show laterB q ⟨2,x,y,t⟩=(decide ((2:Int)≠2) && (decide ((2:Int)≠1) || !sb)) by rw [HL.out,decide_eq_false (show ¬ q.time < t by omega),decide_eq_true h]; rfl);clear h;have HLV:=Lib.hid (show laterB q ⟨2,x,y,t⟩=false by rw [HLE.out]; cases sb <;> rfl)
       go_enter Tryz.func30,Tryz.ntmps30
       go_upto_region 5 with fail
       go_quiet (fail)
       obtain ⟨m9,rfl⟩:∃ n:Nat,n=nq:=⟨_,rfl⟩
       have BQ:=Lib.hid (below_drewN BR.out m9);clear x9 x10 x11 y0 y3;obtain ⟨x9,x10,y0⟩:=HX.out _ BQ.out;generalize World.drewN w m9=wq at x9 x10 y0 BQ ⊢
       (go_wp2_with fail; go_ret; exact ⟨by rw [HV.out,HLV.out]; simp,BQ.out⟩)
     · have e1:decide (t < q.time)=false:=decide_eq_false (by omega)
       have e2:(t == q.time)=false:=beqB_false _ _ (by omega);have HLV:=Lib.hid (show laterB q ⟨2,x,y,t⟩=true by rw [HL.out,decide_eq_true (show q.time < t by omega)]; rfl);clear h
       go_enter Tryz.func30,Tryz.ntmps30
       go_upto_region 5 with fail
       go_quiet (fail)
       obtain ⟨m9,rfl⟩:∃ n:Nat,n=nq:=⟨_,rfl⟩
       have BQ:=Lib.hid (below_drewN BR.out m9);clear x9 x10 x11 y0 y3;obtain ⟨x9,x10,y0⟩:=HX.out _ BQ.out;generalize World.drewN w m9=wq at x9 x10 y0 BQ ⊢
       by_cases hc:60≤q.opn.length
       · have c1:decide (60≤q.opn.length)=true:=decide_eq_true hc
         have c2:decide ((60:Int)≤(q.opn.length:Int))=true:=decide_eq_true (by omega);have HC:=Lib.hid hc;clear hc
         (go_wp2_with fail; go_ret; exact ⟨by rw [HV.out,HLV.out]; simp [HC.out],BQ.out⟩)
       · have c1:decide (60≤q.opn.length)=false:=decide_eq_false hc
         have c2:decide ((60:Int)≤(q.opn.length:Int))=false:=decide_eq_false (by omega);have HC:=Lib.hid hc;clear hc
         (go_wp2_with fail; go_ret; exact ⟨by rw [HV.out,HLV.out]; simp [HC.out],BQ.out⟩)
 · -- the kind is 3
   cases ob
   · go_enter Tryz.func30,Tryz.ntmps30
     (go_wp2_with fail; go_ret; exact ⟨by rw [HV.out]; simp,BR.out⟩)
   · rcases Int.lt_trichotomy t q.time with h | h | h
     · have e1:decide (t < q.time)=true:=decide_eq_true h
       have HLV:=Lib.hid (show laterB q ⟨3,x,y,t⟩=false by rw [HL.out,decide_eq_false (show ¬ q.time < t by omega),decide_eq_false (show ¬ t=q.time by omega)]; rfl);clear h
       go_enter Tryz.func30,Tryz.ntmps30
       go_upto_region 5 with fail
       go_quiet (fail)
       obtain ⟨m9,rfl⟩:∃ n:Nat,n=nq:=⟨_,rfl⟩
       have BQ:=Lib.hid (below_drewN BR.out m9);clear x9 x10 x11 y0 y3;obtain ⟨x9,x10,y0⟩:=HX.out _ BQ.out;generalize World.drewN w m9=wq at x9 x10 y0 BQ ⊢
       (go_wp2_with fail; go_ret; exact ⟨by rw [HV.out,HLV.out]; simp,BQ.out⟩)
     · have e1:decide (t < q.time)=false:=decide_eq_false (by omega)
       have e2:(t == q.time)=true:=beqB_true _ _ h;have HLE:=Lib.hid (show laterB q ⟨3,x,y,t⟩=(decide ((3:Int)≠2) && (decide ((3:Int)≠1) || !sb)) by rw [HL.out,decide_eq_false (show ¬ q.time < t by omega),decide_eq_true h]; rfl);clear h;have HLV:=Lib.hid (show laterB q ⟨3,x,y,t⟩=true by rw [HLE.out]; cases sb <;> rfl)
       go_enter Tryz.func30,Tryz.ntmps30
       go_upto_region 5 with fail
       go_quiet (fail)
       obtain ⟨m9,rfl⟩:∃ n:Nat,n=nq:=⟨_,rfl⟩
       have BQ:=Lib.hid (below_drewN BR.out m9);clear x9 x10 x11 y0 y3;obtain ⟨x9,x10,y0⟩:=HX.out _ BQ.out;generalize World.drewN w m9=wq at x9 x10 y0 BQ ⊢
       by_cases hc:16≤q.strokes.length
       · have c1:decide (16≤q.strokes.length)=true:=decide_eq_true hc
         have c2:decide ((16:Int)≤(q.strokes.length:Int))=true:=decide_eq_true (by omega);have HC:=Lib.hid hc;clear hc
         (go_wp2_with fail; go_ret; exact ⟨by rw [HV.out,HLV.out]; simp [HC.out],BQ.out⟩)
       · have c1:decide (16≤q.strokes.length)=false:=decide_eq_false hc
         have c2:decide ((16:Int)≤(q.strokes.length:Int))=false:=decide_eq_false (by omega);have HC:=Lib.hid hc;clear hc
         (go_wp2_with fail; go_ret; exact ⟨by rw [HV.out,HLV.out]; simp [HC.out],BQ.out⟩)
     · have e1:decide (t < q.time)=false:=decide_eq_false (by omega)
       have e2:(t == q.time)=false:=beqB_false _ _ (by omega);have HLV:=Lib.hid (show laterB q ⟨3,x,y,t⟩=true by rw [HL.out,decide_eq_true (show q.time < t by omega)]; rfl);clear h
       go_enter Tryz.func30,Tryz.ntmps30
       go_upto_region 5 with fail
       go_quiet (fail)
       obtain ⟨m9,rfl⟩:∃ n:Nat,n=nq:=⟨_,rfl⟩
       have BQ:=Lib.hid (below_drewN BR.out m9);clear x9 x10 x11 y0 y3;obtain ⟨x9,x10,y0⟩:=HX.out _ BQ.out;generalize World.drewN w m9=wq at x9 x10 y0 BQ ⊢
       by_cases hc:16≤q.strokes.length
       · have c1:decide (16≤q.strokes.length)=true:=decide_eq_true hc
         have c2:decide ((16:Int)≤(q.strokes.length:Int))=true:=decide_eq_true (by omega);have HC:=Lib.hid hc;clear hc
         (go_wp2_with fail; go_ret; exact ⟨by rw [HV.out,HLV.out]; simp [HC.out],BQ.out⟩)
       · have c1:decide (16≤q.strokes.length)=false:=decide_eq_false hc
         have c2:decide ((16:Int)≤(q.strokes.length:Int))=false:=decide_eq_false (by omega);have HC:=Lib.hid hc;clear hc
         (go_wp2_with fail; go_ret; exact ⟨by rw [HV.out,HLV.out]; simp [HC.out],BQ.out⟩)
 · -- the kind is 4
   cases ob
   · rcases Int.lt_trichotomy t q.time with h | h | h
     · have e1:decide (t < q.time)=true:=decide_eq_true h
       have HLV:=Lib.hid (show laterB q ⟨4,x,y,t⟩=false by rw [HL.out,decide_eq_false (show ¬ q.time < t by omega),decide_eq_false (show ¬ t=q.time by omega)]; rfl);clear h
       go_enter Tryz.func30,Tryz.ntmps30
       go_upto_region 5 with fail
       go_quiet (fail)
       obtain ⟨m9,rfl⟩:∃ n:Nat,n=nq:=⟨_,rfl⟩
       have BQ:=Lib.hid (below_drewN BR.out m9);clear x9 x10 x11 y0 y3;obtain ⟨x9,x10,y0⟩:=HX.out _ BQ.out;generalize World.drewN w m9=wq at x9 x10 y0 BQ ⊢
       (go_wp2_with fail; go_ret; exact ⟨by rw [HV.out,HLV.out]; simp,BQ.out⟩)
     · have e1:decide (t < q.time)=false:=decide_eq_false (by omega)
       have e2:(t == q.time)=true:=beqB_true _ _ h;have HLE:=Lib.hid (show laterB q ⟨4,x,y,t⟩=(decide ((4:Int)≠2) && (decide ((4:Int)≠1) || !sb)) by rw [HL.out,decide_eq_false (show ¬ q.time < t by omega),decide_eq_true h]; rfl);clear h;have HLV:=Lib.hid (show laterB q ⟨4,x,y,t⟩=true by rw [HLE.out]; cases sb <;> rfl)
       go_enter Tryz.func30,Tryz.ntmps30
       go_upto_region 5 with fail
       go_quiet (fail)
       obtain ⟨m9,rfl⟩:∃ n:Nat,n=nq:=⟨_,rfl⟩
       have BQ:=Lib.hid (below_drewN BR.out m9);clear x9 x10 x11 y0 y3;obtain ⟨x9,x10,y0⟩:=HX.out _ BQ.out;generalize World.drewN w m9=wq at x9 x10 y0 BQ ⊢
       (go_wp2_with fail; go_ret; exact ⟨by rw [HV.out,HLV.out]; simp,BQ.out⟩)
     · have e1:decide (t < q.time)=false:=decide_eq_false (by omega)
       have e2:(t == q.time)=false:=beqB_false _ _ (by omega);have HLV:=Lib.hid (show laterB q ⟨4,x,y,t⟩=true by rw [HL.out,decide_eq_true (show q.time < t by omega)]; rfl);clear h
       go_enter Tryz.func30,Tryz.ntmps30
       go_upto_region 5 with fail
       go_quiet (fail)
       obtain ⟨m9,rfl⟩:∃ n:Nat,n=nq:=⟨_,rfl⟩
       have BQ:=Lib.hid (below_drewN BR.out m9);clear x9 x10 x11 y0 y3;obtain ⟨x9,x10,y0⟩:=HX.out _ BQ.out;generalize World.drewN w m9=wq at x9 x10 y0 BQ ⊢
       (go_wp2_with fail; go_ret; exact ⟨by rw [HV.out,HLV.out]; simp,BQ.out⟩)
   · go_enter Tryz.func30,Tryz.ntmps30
     (go_wp2_with fail; go_ret; exact ⟨by rw [HV.out]; simp,BR.out⟩)
theorem spec_l02Own_c {o:Bool} {pe st:TypeId} {xs:List PStroke} {A:Option Addr} {c gB oB:Nat} {F:List Nat} (w:World) (gl:gB < w.heap.size) (hcell:w.cell? ⟨gB,oB,none⟩=some (.slice A xs.length c)) (h:(pStrokes pe st).rep o w xs [.slice A xs.length c] F) (hs:∀ x∈xs,x.length≤1000) (h16:xs.length≤1000) :
 Calls Tryz.prog 23 #[.pointer (some ⟨gB,oB,none⟩)] w fun e w'=>∃ u F,e=.returned (.agg #[u])∧(pStrokes 85 89).rep true w' xs [u] F∧Fresh w.heap.size F∧Below w.heap.size w w':=by
 have HX:=Lib.hid (fun (w':World) (b:Below w.heap.size w w')=>(b.cell (p:=⟨gB,oB,none⟩) gl).trans hcell);have H:=Lib.hid h;have HS:=Lib.hid hs;have R1:=Row.new w 41 #[.slice none 0 0];have b1:Below w.heap.size w (w.alloc (.cells #[.slice none 0 0] 41)):=(Below.refl _ _).alloc (Nat.le_refl _) _;clear h hs hcell
 go_enter Tryz.func23,Tryz.ntmps23
 go_upto_region 1 with fail
 generalize w.alloc (.cells #[.slice none 0 0] 41)=w1 at R1 b1 ⊢;have HR1:=Lib.hid R1;have B1:=Lib.hid b1;clear R1 b1;have HGI:=Lib.hid (Row.new w1 41 #[.slice none 0 0]);have HBI:=Lib.hid ((Below.refl w1.heap.size w1).alloc (Nat.le_refl _) (.cells #[.slice none 0 0] 41))
 go_upto_region 3 with fail
 generalize w1.alloc (.cells #[.slice none 0 0] 41)=w2 at HGI HBI ⊢
 go_loopw [4] (fun i wr=>∃ (k:Nat) (u:Value) (G:List Nat),i=.int .i64 k∧k≤xs.length∧Hid (OwnInk wr (xs.take k) w1.heap.size u G∧Below w1.heap.size w1 wr)) (fun i _=>xs.length - (intOf i).toNat)
 case atStart=>exact ⟨0,_,[],rfl,by omega,Lib.hid ⟨⟨HGI.out,slice_nil _ _ _ _,⟨by simp,by simp⟩⟩,HBI.out⟩⟩
 case round =>
  obtain ⟨k,u,G,rfl,hk,all⟩:=hrel;have ALL:=Lib.hid all.out;clear all;have HW:=Lib.hid (B1.out.trans (ALL.out.2.mono B1.out.size));have x0:=HX.out wr HW.out;have gB':=Nat.lt_of_lt_of_le gl HW.out.size;obtain ⟨U,un,uc,rfl⟩:=slice_form ALL.out.1.rep
  by_cases hlt:k < xs.length
  · have gk:(k:Int) < (xs.length:Int):=by omega
    have gk0:(0:Int)≤(k:Int):=by omega
    have kw:=IntWalk.i64_in ((k:Int)+1) (by omega);have HN:=Lib.hid (show xs.take (k+1)=xs.take k++[xs[k]] from List.take_succ_eq_append_getElem hlt);have LN:=Lib.hid (show (xs.take k).length≤k by rw [List.length_take]; omega);obtain ⟨A',c',he,-,-,hr⟩:=pStrokes_open (H.out.below HW.out);cases he;obtain ⟨bs,os,us,Fs,rfl,hbs,-,rs,-,cs⟩:=hr k hlt;obtain ⟨As,ks,rfl,-,-,-⟩:=pPoints_open rs;have hl60:=HS.out _ (List.getElem_mem hlt);generalize xs[k]=sk at rs cs hl60 HN;have HRS:=Lib.hid rs.drew;have hbs':bs < wr.drew.heap.size:=hbs;have cs':wr.drew.cell? ⟨bs,os+k,none⟩=some (.slice As sk.length ks):=cs;clear hr rs
    go_upto_region 5 with fail
    have hS:(fun w':World=>w'.cell? ⟨gB,oB,none⟩=some (.slice (some ⟨bs,os,none⟩) xs.length c)) wr.drew:=x0;refine wp_region_held_drew (S:=(fun w':World=>w'.cell? ⟨gB,oB,none⟩=some (.slice (some ⟨bs,os,none⟩) xs.length c))) (by kernel_rfl) hS (fun _=>?_);have OI:=Lib.hid ALL.out.1.drew;have BW:=Lib.hid ALL.out.2.drew;clear ALL HW x0 cs hbs;generalize wr.drew=we at OI BW hS HRS hbs' cs' ⊢;refine tJ 0 hS ?_;refine tJ 2 hS ?_;refine tJ 3 hS ?_;refine tJ 4 hS ?_;refine tJ 5 hS ?_;refine tJ 6 hS ?_;refine tJ 7 hS ?_;have CC:=Lib.hid (spec_l02OwnStroke_c we hbs' cs' HRS.out (by omega));refine rJ2 1 8 (fun K hK=>?ga) (fun K hK=>?gb)
    case' ga =>
     have y0:=OI.out.row.c0
     go_simp
     refine bJ hK hS ?_;clear hK K y0;refine rJ 8 fun K hK=>?_
     refine step_call 42 #[.tmp 22] _ rfl rfl #[.pointer (some ⟨bs,os+k,none⟩)] Tryz.call42 (by go_simp) CC.out ?_
    case' gb =>
     refine step_call 42 #[.tmp 22] _ rfl rfl #[.pointer (some ⟨bs,os+k,none⟩)] Tryz.call42 (by go_simp) CC.out ?_
    all_goals (
     rintro e w4 ⟨u4,F4,rfl,r4,f4,b4⟩;refine ⟨_,rfl,?_⟩;have OI4:=Lib.hid (OI.out.later b4);have BW4:=Lib.hid (BW.out.trans (b4.mono BW.out.size));have R4:=Lib.hid r4;have FR4:=Lib.hid f4;have DIS:=Lib.hid (show ∀ x,x∈G→x∈F4→False from fun x h1 h2=>by have:=OI.out.rep.blocks x h1; have:=f4.2 x h2; omega);obtain ⟨V4,n4,c4,rfl⟩:=slice_form r4;replace hS:=HX.out w4 (B1.out.trans (BW4.out.mono B1.out.size));clear b4 r4 f4 CC HRS cs' hbs';refine bJ hK hS ?_;clear hK K;simp only [Act.put,pA,pB,pC]
     )
    case' gb =>
     refine rJ2 1 9 (fun K hK=>?gc) (fun K hK=>?gd)
    case' gc =>
     have y0:=OI4.out.row.c0
     go_simp
     refine bJ hK hS ?_;clear hK K y0
    case' ga =>
     refine rJ 9 fun K hK=>?_
    case' gc =>
     refine rJ 9 fun K hK=>?_
    all_goals (
     go_simp
     have hal:Below w4.heap.size w4 (w4.alloc (.cells #[.slice V4 n4 c4] 89)):=(Below.refl _ _).alloc (Nat.le_refl _) _;have hat:CellsAt (w4.alloc (.cells #[.slice V4 n4 c4] 89)) (some ⟨w4.heap.size,0,none⟩) [.slice V4 n4 c4]:=cellsAt_new _ _ _;have OI5:=Lib.hid (OI4.out.later hal);have BW5:=Lib.hid (BW4.out.trans (hal.mono BW4.out.size));have R5:=Lib.hid (R4.out.below hal);replace hS:=HX.out _ (B1.out.trans (BW5.out.mono B1.out.size));refine bJ hK hS ?_;generalize w4.alloc (.cells #[.slice V4 n4 c4] 89)=w5 at hat OI5 BW5 R5 hS ⊢;clear hK K hal OI4 BW4 R4
     )
    case' gd =>
     have y0:=OI5.out.row.c0;refine rJ 1 fun K hK=>?_
     go_simp
     refine bJ hK hS ?_;clear hK K y0
    all_goals (
     refine rJ 10 fun K hK=>?_
     refine step_append_repX (T:=pStroke 85) (e:=89) (ys:=[sk]) (ec:=[.slice V4 n4 c4]) rfl (.tmp 16) (.tmp 24) rfl Tryz.underlying39 Tryz.infoStrokeR rfl (by decide) rfl OI5.out.rep rfl (repL_single.2 R5.out) hat (nodup_app OI5.out.fr.1 FR4.out.1 DIS.out) (by have:=LN.out; simp only [List.length_singleton,maxLen]; omega) (by have:=LN.out; simp only [List.length_singleton]; omega) ?_;intro v6 w6 F6 r6 o6 f6 x6;have hbn:w1.heap.size∉G:=fun hin=>by have:=OI5.out.fr.2 _ hin; omega
     have RI6:Row w6 w1.heap.size 41 [.slice U un uc]:=(o6.block _ OI5.out.row.lt hbn).trans OI5.out.row;have BW6:=Lib.hid (BW5.out.trans (o6.below (B:=w1.heap.size) BW5.out.size (fun b hb=>by have:=OI5.out.fr.2 _ hb; omega)));have hF4:∀ b∈F4,w1.heap.size+1≤b:=fun b hb=>by have:=FR4.out.2 b hb; have:=OI.out.row.lt; omega
     have f6':=f6 (w1.heap.size+1) ⟨nodup_app OI5.out.fr.1 FR4.out.1 DIS.out,fun b hb=>(List.mem_append.1 hb).elim (OI5.out.fr.2 b) (hF4 b)⟩ (Nat.succ_le_of_lt OI5.out.row.lt);obtain ⟨V6,n6,c6,rfl⟩:=slice_form r6;replace hS:=HX.out w6 (B1.out.trans (BW6.out.mono B1.out.size));refine bJ hK hS ?_;have OI7:=Lib.hid (show OwnInk (w6.setCell ⟨w1.heap.size,0,none⟩ (.slice V6 n6 c6)) (xs.take k++[sk]) w1.heap.size (.slice V6 n6 c6) F6 from ⟨RI6.set 0 _,Ty.rep.setCell (T:=pStrokes 85 89) r6 (p:=⟨w1.heap.size,0,none⟩) (fun hin=>by have:=f6'.2 _ hin; dsimp only at this; omega) _,f6'⟩);have BW7:=Lib.hid (BW6.out.setCell (p:=⟨w1.heap.size,0,none⟩) (Nat.le_refl _) (.slice V6 n6 c6));have v0:=RI6.c0;have vF:=RI6.frozen;clear hK K r6 o6 f6 x6 hat OI5 BW5 R5 RI6 f6' hF4 hbn FR4 DIS OI BW BW6;refine tJ 11 hS ?_;refine rJ 12 fun K hK=>?_
     go_simp
     replace hS:=HX.out _ (B1.out.trans (BW7.out.mono B1.out.size));refine bJ hK hS ?_;clear hK K hS v0 vF;refine wpAnyH_done (by kernel_rfl) ?_ _
     go_wp2_with fail
     exact ⟨⟨k+1,_,F6,by go_num,by omega,Lib.hid ⟨by rw [HN.out]; exact OI7.out,BW7.out⟩⟩,by simp [intOf]; omega⟩
     )
  · obtain rfl:k=xs.length:=by omega
    have gk:¬ (xs.length:Int) < (xs.length:Int):=by omega
    have y0:=ALL.out.1.row.c0;have R1:=HR1.out.later ALL.out.2;have v0:=R1.c0;have vF:=R1.frozen;have e0:=(R1.set 0 (.slice U un uc)).c0;have hne:w.heap.size∉G:=fun hin=>by have:=ALL.out.1.fr.2 _ hin; have:=HR1.out.lt; omega
    have RES:=Lib.hid (Ty.rep.setCell (T:=pStrokes 85 89) ALL.out.1.rep (p:=⟨w.heap.size,0,none⟩) hne (.slice U un uc));have BF:=Lib.hid (HW.out.setCell (p:=⟨w.heap.size,0,none⟩) (Nat.le_refl _) (.slice U un uc));have FRR:=Lib.hid (ALL.out.1.fr.mono (show w.heap.size≤w1.heap.size+1 by have:=HR1.out.lt; omega));clear R1 hne
    go_wp2_with fail
    refine bodyPost_ret (v:=.agg #[.slice U un uc]) (by simp only [results,Tryz.results23]; go_simp) rfl ?_;exact ⟨_,rfl,G,by have:=RES.out; rwa [List.take_length] at this,FRR.out,BF.out⟩
end Go.Proofs.YtafgknkcjohjeaaGreatDoor

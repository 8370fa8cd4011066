/- Ink: the program's ValidStroke. Conditions: none. -/
import Derived.Test.YtalmeogjhmblhaaGreatTkw
import Derived.Test.YtalmeogjhmblhaaGreatTyStepw
namespace Go.Proofs.YtalmeogjhmblhaaGreat
open Go Go.RowKit
set_option maxHeartbeats 8000000
theorem ptOk_step {s:PStroke} {k:Nat} (hk:k < s.length) (h:pointB s[k]=true) (h':k=0∨∃ j,k=j+1∧∀ hj:j < s.length,s[j].t < s[k].t):ptOk s k=true:=by
 unfold ptOk;rw [pt_get hk,h];rcases h' with rfl | ⟨j,rfl,h2⟩
 · simp
 · rw [show j+1 - 1=j from rfl,pt_get (show j < s.length by omega)]
   simp [h2 (by omega)]
theorem ptOk_bad {s:PStroke} {k:Nat} (hk:k < s.length) (h:pointB s[k]=false):ptOk s k=false:=by
 unfold ptOk;rw [pt_get hk,h];rfl
theorem ptOk_late {s:PStroke} {j:Nat} (hk:j+1 < s.length) (h:s[j+1].t≤s[j].t):ptOk s (j+1)=false:=by
 unfold ptOk;rw [pt_get hk,show j+1 - 1=j from rfl,pt_get (show j < s.length by omega)];have:¬ (s[j].t < s[j+1].t):=by omega
 simp [this]
set_option maxRecDepth 100000 in
theorem impl_ValidStroke_c {o:Bool} {e:TypeId} {xs:PStroke} {v:Value} {F:List Nat} (w:World) (h:(pPoints e).rep o w xs [v] F) (hx:xs.length≤1048576) :
 Calls Tryz.prog 80 #[.agg #[v]] w fun e w'=>e=.returned (.bool (strokeB xs))∧Below w.heap.size w w':=by
 obtain ⟨A,c,rfl,hc1,hc2,hr⟩:=pPoints_open h;clear h
 go_enter Tryz.func80,Tryz.ntmps80
 go_wp2_with fail
 go_loopw [8] (fun i wr=>∃ k:Nat,k≤xs.length∧i=.int .i64 k∧Hid (ptsOk xs k=true)∧wr.cell? ⟨w.heap.size,0,none⟩=some (.slice A xs.length c)∧w.heap.size < wr.heap.size∧Below w.heap.size w wr) (fun i _=>xs.length - (intOf i).toNat)
 case atStart=>exact ⟨0,Nat.zero_le _,rfl,rfl,by simp,by simp,(Below.refl _ _).alloc (Nat.le_refl _) _⟩
 case round =>
  obtain ⟨k,hk,rfl,hok,hself,hsl,hb⟩:=hrel;have hbs:=hb.size
  by_cases hlt:k < xs.length
  · obtain ⟨b,off,rfl,hbb,_,h0,h1,h2,_⟩:=hr k hlt
    rw [← hb.cell (p:=⟨b,_,none⟩) hbb] at h0 h1 h2;have HC:=Lib.hid (impl_validPoint_c xs[k]);have RN:=(Row.new wr 128 #[.int .i64 xs[k].x,.int .i64 xs[k].y,.int .i64 xs[k].t]).drew;have RM:=RN.alloc (.cells #[.int .i64 xs[k].x,.int .i64 xs[k].y,.int .i64 xs[k].t] 128);have al:Below w.heap.size w ((wr.alloc (.cells #[.int .i64 xs[k].x,.int .i64 xs[k].y,.int .i64 xs[k].t] 128)).drew.alloc (.cells #[.int .i64 xs[k].x,.int .i64 xs[k].y,.int .i64 xs[k].t] 128)):=((hb.alloc hbs _).drew).alloc (by simp; omega) _
    have kp:∀ (g i:Nat) (u:Value),g < wr.heap.size→wr.cell? ⟨g,i,none⟩=some u→(wr.alloc (.cells #[.int .i64 xs[k].x,.int .i64 xs[k].y,.int .i64 xs[k].t] 128)).drew.cell? ⟨g,i,none⟩=some u∧((wr.alloc (.cells #[.int .i64 xs[k].x,.int .i64 xs[k].y,.int .i64 xs[k].t] 128)).drew.alloc (.cells #[.int .i64 xs[k].x,.int .i64 xs[k].y,.int .i64 xs[k].t] 128)).cell? ⟨g,i,none⟩=some u:=by
     intro g i u hg hc;have x1:(wr.alloc (.cells #[.int .i64 xs[k].x,.int .i64 xs[k].y,.int .i64 xs[k].t] 128)).drew.cell? ⟨g,i,none⟩=some u:=(World.cell?_alloc_past (w:=wr) _ _ _ hg).trans hc;exact ⟨x1,(World.cell?_alloc_past _ _ _ (by simp; omega)).trans x1⟩
    have hsz:w.heap.size < ((wr.alloc (.cells #[.int .i64 xs[k].x,.int .i64 xs[k].y,.int .i64 xs[k].t] 128)).drew.alloc (.cells #[.int .i64 xs[k].x,.int .i64 xs[k].y,.int .i64 xs[k].t] 128)).heap.size:=by simp; omega
    have hself2:=kp _ _ _ hsl hself;cases hp:pointB xs[k]
    · have HF:=Lib.hid (strokeB_false hlt (ptOk_bad hlt hp))
      simp only [hp] at HC;clear hr hp
      go_wp2_with fail
      have hS:(fun w'=>w'.cell? ⟨wr.heap.size,0,none⟩=some (.int .i64 xs[k].x)∧w'.cell? ⟨wr.heap.size,1,none⟩=some (.int .i64 xs[k].y)∧w'.cell? ⟨wr.heap.size,2,none⟩=some (.int .i64 xs[k].t)) (wr.alloc (.cells #[.int .i64 xs[k].x,.int .i64 xs[k].y,.int .i64 xs[k].t] 128)).drew:=⟨RN.c0,RN.c1,RN.c2⟩
      dsimp only at hS;refine wp_region_held_drew (S:=(fun w'=>w'.cell? ⟨wr.heap.size,0,none⟩=some (.int .i64 xs[k].x)∧w'.cell? ⟨wr.heap.size,1,none⟩=some (.int .i64 xs[k].y)∧w'.cell? ⟨wr.heap.size,2,none⟩=some (.int .i64 xs[k].t))) (by kernel_rfl) hS (fun _=>?_);refine tJ 0 hS ?_;refine rJ 1 fun K hK=>?_
      refine step_call 138 #[.tmp 13] _ rfl rfl #[.agg #[.int .i64 xs[k].x,.int .i64 xs[k].y,.int .i64 xs[k].t]] Tryz.call138 (by go_simp) (HC.out _) ?_;rintro e w1 ⟨rfl,rfl⟩;refine ⟨_,rfl,?_⟩;replace hS:(fun w'=>w'.cell? ⟨wr.heap.size,0,none⟩=some (.int .i64 xs[k].x)∧w'.cell? ⟨wr.heap.size,1,none⟩=some (.int .i64 xs[k].y)∧w'.cell? ⟨wr.heap.size,2,none⟩=some (.int .i64 xs[k].t)) ((wr.alloc (.cells #[.int .i64 xs[k].x,.int .i64 xs[k].y,.int .i64 xs[k].t] 128)).drew.alloc (.cells #[.int .i64 xs[k].x,.int .i64 xs[k].y,.int .i64 xs[k].t] 128)):=⟨RM.c0,RM.c1,RM.c2⟩
      dsimp only at hS;refine bJ hK hS ?_;clear hK K;simp only [Act.put,pA,pB,pC];refine tJ 2 hS ?_;refine tJ 3 hS ?_;refine tJ0 4 hS ?_;refine tJ0 5 hS ?_;refine tJ0 6 hS ?_;refine tJ0 7 hS ?_;refine tJ0 8 hS ?_;refine tJ0 9 hS ?_;refine tJ0 10 hS ?_;refine tJ0 11 hS ?_;refine tJ0 12 hS ?_;refine tJ0 13 hS ?_;refine tJ0 14 hS ?_;refine tJ0 15 hS ?_;refine tJ0 16 hS ?_;refine tJ0 17 hS ?_;refine tJ 18 hS ?_;refine wpAnyH_done (by kernel_rfl) ?_ _
      go_wp2_with fail
      go_ret;exact ⟨ret_boolI HF.out.symm,al⟩
    · have HP:=Lib.hid hp
      simp only [hp] at HC;clear hp
      by_cases hz:k=0
      · have HK:Hid (ptsOk xs (k+1)=true):=by show _=_; rw [ptsOk,hok.out,ptOk_step hlt HP.out (.inl hz)]; rfl
        have g0:(0 < k)=False:=eq_false (by omega);clear hr hz
        go_wp2_with fail
        have hS:(fun w'=>w'.cell? ⟨wr.heap.size,0,none⟩=some (.int .i64 xs[k].x)∧w'.cell? ⟨wr.heap.size,1,none⟩=some (.int .i64 xs[k].y)∧w'.cell? ⟨wr.heap.size,2,none⟩=some (.int .i64 xs[k].t)) (wr.alloc (.cells #[.int .i64 xs[k].x,.int .i64 xs[k].y,.int .i64 xs[k].t] 128)).drew:=⟨RN.c0,RN.c1,RN.c2⟩
        dsimp only at hS;refine wp_region_held_drew (S:=(fun w'=>w'.cell? ⟨wr.heap.size,0,none⟩=some (.int .i64 xs[k].x)∧w'.cell? ⟨wr.heap.size,1,none⟩=some (.int .i64 xs[k].y)∧w'.cell? ⟨wr.heap.size,2,none⟩=some (.int .i64 xs[k].t))) (by kernel_rfl) hS (fun _=>?_);refine tJ 0 hS ?_;refine rJ 1 fun K hK=>?_
        refine step_call 138 #[.tmp 13] _ rfl rfl #[.agg #[.int .i64 xs[k].x,.int .i64 xs[k].y,.int .i64 xs[k].t]] Tryz.call138 (by go_simp) (HC.out _) ?_;rintro e w1 ⟨rfl,rfl⟩;refine ⟨_,rfl,?_⟩;replace hS:(fun w'=>w'.cell? ⟨wr.heap.size,0,none⟩=some (.int .i64 xs[k].x)∧w'.cell? ⟨wr.heap.size,1,none⟩=some (.int .i64 xs[k].y)∧w'.cell? ⟨wr.heap.size,2,none⟩=some (.int .i64 xs[k].t)) ((wr.alloc (.cells #[.int .i64 xs[k].x,.int .i64 xs[k].y,.int .i64 xs[k].t] 128)).drew.alloc (.cells #[.int .i64 xs[k].x,.int .i64 xs[k].y,.int .i64 xs[k].t] 128)):=⟨RM.c0,RM.c1,RM.c2⟩
        dsimp only at hS;refine bJ hK hS ?_;clear hK K;simp only [Act.put,pA,pB,pC];refine tJ 2 hS ?_;refine tJ 3 hS ?_;refine tJ 4 hS ?_;refine tJ 5 hS ?_;refine tJ 6 hS ?_;refine tJ0 7 hS ?_;refine tJ0 8 hS ?_;refine tJ0 9 hS ?_;refine tJ0 10 hS ?_;refine tJ0 11 hS ?_;refine tJ0 12 hS ?_;refine tJ0 13 hS ?_;refine tJ0 14 hS ?_;refine tJ0 15 hS ?_;refine tJ0 16 hS ?_;refine tJ 17 hS ?_;refine tJ 18 hS ?_;refine wpAnyH_done (by kernel_rfl) ?_ _
        go_wp2_with fail
        go_roundw
        case rel=>exact ⟨k+1,by omega,by go_num,HK,hself2.2,hsz,al⟩
        case measure=>simp [intOf]; omega
      · obtain ⟨j,hj⟩:∃ j,k=j+1:=⟨k - 1,by omega⟩
        have jl:j < xs.length:=by omega
        obtain ⟨b',off',e',hbb',_,_,_,h3,_⟩:=hr j jl;injection e' with e'
        injection e' with e1 e2 _
        subst e1; subst e2
        rw [← hb.cell (p:=⟨b,_,none⟩) hbb] at h3;have h32:=kp _ _ _ (by omega) h3;have g0:(0 < k)=True:=eq_true (by omega);have gj:IntKind.i64.wrap ((k:Int) - 1)=(j:Int):=(IntWalk.i64_in _ (by omega)).trans (by omega);have jl':(j:Int) < (xs.length:Int):=by omega
        have j0:(0:Int)≤(j:Int):=by omega
        clear hr h3
        by_cases ht:xs[k].t≤xs[j].t
        · have HF:Hid (strokeB xs=false):=strokeB_false hlt (by subst hj; exact ptOk_late hlt ht)
          have gt:(xs[k].t≤xs[j].t)=True:=eq_true ht;have HJ:=Lib.hid hj;clear hj ht hz
          go_wp2_with fail
          have hS:(fun w'=>w'.cell? ⟨wr.heap.size,0,none⟩=some (.int .i64 xs[k].x)∧w'.cell? ⟨wr.heap.size,1,none⟩=some (.int .i64 xs[k].y)∧w'.cell? ⟨wr.heap.size,2,none⟩=some (.int .i64 xs[k].t)∧w'.cell? ⟨w.heap.size,0,none⟩=some (.slice (some ⟨b,off,none⟩) xs.length c)∧w'.cell? ⟨b,off+j * 3+2,none⟩=some (.int .i64 xs[j].t)) (wr.alloc (.cells #[.int .i64 xs[k].x,.int .i64 xs[k].y,.int .i64 xs[k].t] 128)).drew:=⟨RN.c0,RN.c1,RN.c2,hself2.1,h32.1⟩
          dsimp only at hS;refine wp_region_held_drew (S:=(fun w'=>w'.cell? ⟨wr.heap.size,0,none⟩=some (.int .i64 xs[k].x)∧w'.cell? ⟨wr.heap.size,1,none⟩=some (.int .i64 xs[k].y)∧w'.cell? ⟨wr.heap.size,2,none⟩=some (.int .i64 xs[k].t)∧w'.cell? ⟨w.heap.size,0,none⟩=some (.slice (some ⟨b,off,none⟩) xs.length c)∧w'.cell? ⟨b,off+j * 3+2,none⟩=some (.int .i64 xs[j].t))) (by kernel_rfl) hS (fun _=>?_);refine tJ 0 hS ?_;refine rJ 1 fun K hK=>?_
          refine step_call 138 #[.tmp 13] _ rfl rfl #[.agg #[.int .i64 xs[k].x,.int .i64 xs[k].y,.int .i64 xs[k].t]] Tryz.call138 (by go_simp) (HC.out _) ?_;rintro e w1 ⟨rfl,rfl⟩;refine ⟨_,rfl,?_⟩;replace hS:(fun w'=>w'.cell? ⟨wr.heap.size,0,none⟩=some (.int .i64 xs[k].x)∧w'.cell? ⟨wr.heap.size,1,none⟩=some (.int .i64 xs[k].y)∧w'.cell? ⟨wr.heap.size,2,none⟩=some (.int .i64 xs[k].t)∧w'.cell? ⟨w.heap.size,0,none⟩=some (.slice (some ⟨b,off,none⟩) xs.length c)∧w'.cell? ⟨b,off+j * 3+2,none⟩=some (.int .i64 xs[j].t)) ((wr.alloc (.cells #[.int .i64 xs[k].x,.int .i64 xs[k].y,.int .i64 xs[k].t] 128)).drew.alloc (.cells #[.int .i64 xs[k].x,.int .i64 xs[k].y,.int .i64 xs[k].t] 128)):=⟨RM.c0,RM.c1,RM.c2,hself2.2,h32.2⟩
          dsimp only at hS;refine bJ hK hS ?_;clear hK K;simp only [Act.put,pA,pB,pC];refine tJ 2 hS ?_;refine tJ 3 hS ?_;refine tJ 4 hS ?_;refine tJ 5 hS ?_;refine tJ 6 hS ?_;refine tJ 7 hS ?_;refine tJ 8 hS ?_;refine tJ 9 hS ?_;refine tJ 10 hS ?_;refine tJ 11 hS ?_;refine tJ 12 hS ?_;refine tJ 13 hS ?_;refine tJ 14 hS ?_;refine tJ 15 hS ?_;refine tJ 16 hS ?_;refine tJ 17 hS ?_;refine tJ 18 hS ?_;refine wpAnyH_done (by kernel_rfl) ?_ _
          go_wp2_with fail
          go_ret;exact ⟨ret_boolI HF.out.symm,al⟩
        · have HK:Hid (ptsOk xs (k+1)=true):=by
           show _=_
           rw [ptsOk,hok.out,ptOk_step hlt HP.out (.inr ⟨j,hj,fun _=>by omega⟩)]; rfl
          have gt:(xs[k].t≤xs[j].t)=False:=eq_false ht;have HJ:=Lib.hid hj;clear hj ht hz
          go_wp2_with fail
          have hS:(fun w'=>w'.cell? ⟨wr.heap.size,0,none⟩=some (.int .i64 xs[k].x)∧w'.cell? ⟨wr.heap.size,1,none⟩=some (.int .i64 xs[k].y)∧w'.cell? ⟨wr.heap.size,2,none⟩=some (.int .i64 xs[k].t)∧w'.cell? ⟨w.heap.size,0,none⟩=some (.slice (some ⟨b,off,none⟩) xs.length c)∧w'.cell? ⟨b,off+j * 3+2,none⟩=some (.int .i64 xs[j].t)) (wr.alloc (.cells #[.int .i64 xs[k].x,.int .i64 xs[k].y,.int .i64 xs[k].t] 128)).drew:=⟨RN.c0,RN.c1,RN.c2,hself2.1,h32.1⟩
          dsimp only at hS;refine wp_region_held_drew (S:=(fun w'=>w'.cell? ⟨wr.heap.size,0,none⟩=some (.int .i64 xs[k].x)∧w'.cell? ⟨wr.heap.size,1,none⟩=some (.int .i64 xs[k].y)∧w'.cell? ⟨wr.heap.size,2,none⟩=some (.int .i64 xs[k].t)∧w'.cell? ⟨w.heap.size,0,none⟩=some (.slice (some ⟨b,off,none⟩) xs.length c)∧w'.cell? ⟨b,off+j * 3+2,none⟩=some (.int .i64 xs[j].t))) (by kernel_rfl) hS (fun _=>?_);refine tJ 0 hS ?_;refine rJ 1 fun K hK=>?_
          refine step_call 138 #[.tmp 13] _ rfl rfl #[.agg #[.int .i64 xs[k].x,.int .i64 xs[k].y,.int .i64 xs[k].t]] Tryz.call138 (by go_simp) (HC.out _) ?_;rintro e w1 ⟨rfl,rfl⟩;refine ⟨_,rfl,?_⟩;replace hS:(fun w'=>w'.cell? ⟨wr.heap.size,0,none⟩=some (.int .i64 xs[k].x)∧w'.cell? ⟨wr.heap.size,1,none⟩=some (.int .i64 xs[k].y)∧w'.cell? ⟨wr.heap.size,2,none⟩=some (.int .i64 xs[k].t)∧w'.cell? ⟨w.heap.size,0,none⟩=some (.slice (some ⟨b,off,none⟩) xs.length c)∧w'.cell? ⟨b,off+j * 3+2,none⟩=some (.int .i64 xs[j].t)) ((wr.alloc (.cells #[.int .i64 xs[k].x,.int .i64 xs[k].y,.int .i64 xs[k].t] 128)).drew.alloc (.cells #[.int .i64 xs[k].x,.int .i64 xs[k].y,.int .i64 xs[k].t] 128)):=⟨RM.c0,RM.c1,RM.c2,hself2.2,h32.2⟩
          dsimp only at hS;refine bJ hK hS ?_;clear hK K;simp only [Act.put,pA,pB,pC];refine tJ 2 hS ?_;refine tJ 3 hS ?_;refine tJ 4 hS ?_;refine tJ 5 hS ?_;refine tJ 6 hS ?_;refine tJ 7 hS ?_;refine tJ 8 hS ?_;refine tJ 9 hS ?_;refine tJ 10 hS ?_;refine tJ 11 hS ?_;refine tJ 12 hS ?_;refine tJ 13 hS ?_;refine tJ 14 hS ?_;refine tJ 15 hS ?_;refine tJ 16 hS ?_;refine tJ 17 hS ?_;refine tJ 18 hS ?_;refine wpAnyH_done (by kernel_rfl) ?_ _
          go_wp2_with fail
          go_roundw
          case rel=>exact ⟨k+1,by omega,by go_num,HK,hself2.2,hsz,al⟩
          case measure=>simp [intOf]; omega
  · obtain rfl:k=xs.length:=by omega
    clear hr;have HV:Hid (strokeB xs=(decide (1≤xs.length) && decide (xs.length≤60))):=by show _=_; rw [strokeB,hok.out]; rfl
    by_cases h1:1≤xs.length
    · have g1:decide ((1:Int)≤(xs.length:Int))=true:=by simp; omega
      go_wp2_with fail
      go_ret;exact ⟨ret_boolI (by rw [HV.out,decide_eq_true h1,Bool.true_and,decide_eq_decide]; omega),hb⟩
    · have g1:decide ((1:Int)≤(xs.length:Int))=false:=by simp; omega
      go_wp2_with fail
      go_ret;exact ⟨ret_boolI (by rw [HV.out,decide_eq_false h1]; simp),hb⟩
theorem impl_firstOf_c {o:Bool} {e:TypeId} {xs:PStroke} {v:Value} {F:List Nat} (w:World) (h:(pPoints e).rep o w xs [v] F) (h0:0 < xs.length) :
 Calls Tryz.prog 81 #[.agg #[v]] w fun e w'=>e=.returned (.agg #[.int .i64 (pt xs 0).x,.int .i64 (pt xs 0).y,.int .i64 (pt xs 0).t])∧Below w.heap.size w w':=by
 obtain ⟨A,c,rfl,hc1,hc2,hr⟩:=pPoints_open h;clear h;obtain ⟨b,off,rfl,hbb,_,c0,c1,c2,_⟩:=hr 0 h0;rw [pt_get h0];clear hr;simp only [Nat.zero_mul,Nat.add_zero] at c0 c1 c2;have hin:(0:Int) < (xs.length:Int):=by omega
 go_enter Tryz.func81,Tryz.ntmps81
 go_wp2_with fail
 refine bodyPost_ret (v:=.agg #[.int .i64 xs[0].x,.int .i64 xs[0].y,.int .i64 xs[0].t]) (by simp [results,Tryz.results81,go_sem]) rfl ⟨rfl,?_⟩;exact ((Below.refl _ _).alloc (Nat.le_refl _) _).alloc (by simp) _
theorem impl_lastOf_c {o:Bool} {e:TypeId} {xs:PStroke} {v:Value} {F:List Nat} (w:World) (h:(pPoints e).rep o w xs [v] F) (h0:0 < xs.length) (hx:xs.length≤1048576) :
 Calls Tryz.prog 82 #[.agg #[v]] w fun e w'=>e=.returned (.agg #[.int .i64 (pt xs (xs.length - 1)).x,.int .i64 (pt xs (xs.length - 1)).y,.int .i64 (pt xs (xs.length - 1)).t])∧Below w.heap.size w w':=by
 obtain ⟨A,c,rfl,hc1,hc2,hr⟩:=pPoints_open h;clear h;obtain ⟨j,hj⟩:∃ j,xs.length=j+1:=⟨xs.length - 1,by omega⟩
 have hl:xs.length - 1=j:=by omega
 rw [hl];have jl:j < xs.length:=by omega
 obtain ⟨b,off,rfl,hbb,_,c0,c1,c2,_⟩:=hr j jl;rw [pt_get jl];clear hr;have gj:IntKind.i64.wrap ((xs.length:Int) - 1)=(j:Int):=(IntWalk.i64_in _ (by omega)).trans (by omega);have j0:(0:Int)≤(j:Int):=by omega
 have jl':(j:Int) < (xs.length:Int):=by omega
 have HJ:=Lib.hid hj;have HL:=Lib.hid hl;clear hj hl
 go_enter Tryz.func82,Tryz.ntmps82
 go_wp2_with fail
 refine bodyPost_ret (v:=.agg #[.int .i64 xs[j].x,.int .i64 xs[j].y,.int .i64 xs[j].t]) (by simp [results,Tryz.results82,go_sem]) rfl ⟨rfl,?_⟩;exact ((Below.refl _ _).alloc (Nat.le_refl _) _).alloc (by simp) _
def firstT (s:PStroke):Int:=(pt s 0).t
def lastT (s:PStroke):Int:=(pt s (s.length - 1)).t
def strk (xs:List PStroke) (k:Nat):PStroke:=xs.getD k []
theorem strk_get {xs:List PStroke} {k:Nat} (h:k < xs.length):strk xs k=xs[k]:=by simp [strk,List.getD_eq_getElem?_getD,List.getElem?_eq_getElem h]
def stOk (xs:List PStroke) (k:Nat):Bool:=strokeB (strk xs k) && (decide (k=0) || decide (lastT (strk xs (k - 1)) < firstT (strk xs k)))
def stsOk (xs:List PStroke):Nat→Bool
 | 0=>true
 | k+1=>stsOk xs k && stOk xs k
theorem stsOk_false {xs:List PStroke} {k:Nat} (h:stOk xs k=false):∀ n,k < n→stsOk xs n=false
 | 0,hk=>by omega
 | n+1,hk=>by
   by_cases e:k=n
   · subst e; simp [stsOk,h]
   · simp [stsOk,stsOk_false h n (by omega)]
theorem stsOk_get {xs:List PStroke}:∀ {n k:Nat},stsOk xs n=true→k < n→stOk xs k=true
 | 0,_,_,hk=>by omega
 | n+1,k,h,hk=>by
   simp only [stsOk,Bool.and_eq_true] at h
   by_cases e:k=n
   · subst e; exact h.2
   · exact stsOk_get h.1 (by omega)
def inkB (xs:List PStroke):Bool:=stsOk xs xs.length && decide (xs.length≤16)
theorem inkB_false {xs:List PStroke} {k:Nat} (hk:k < xs.length) (h:stOk xs k=false):inkB xs=false:=by simp [inkB,stsOk_false h _ hk]
theorem stOk_step {xs:List PStroke} {k:Nat} (hk:k < xs.length) (h:strokeB xs[k]=true) (h':k=0∨∃ j,k=j+1∧∀ hj:j < xs.length,lastT xs[j] < firstT xs[k]):stOk xs k=true:=by
 unfold stOk;rw [strk_get hk,h];rcases h' with rfl | ⟨j,rfl,h2⟩
 · simp
 · rw [show j+1 - 1=j from rfl,strk_get (show j < xs.length by omega)]
   simp [h2 (by omega)]
theorem stOk_bad {xs:List PStroke} {k:Nat} (hk:k < xs.length) (h:strokeB xs[k]=false):stOk xs k=false:=by
 unfold stOk;rw [strk_get hk,h];rfl
theorem stOk_late {xs:List PStroke} {j:Nat} (hk:j+1 < xs.length) (h:firstT xs[j+1]≤lastT xs[j]):stOk xs (j+1)=false:=by
 unfold stOk;rw [strk_get hk,show j+1 - 1=j from rfl,strk_get (show j < xs.length by omega)];have:¬ (lastT xs[j] < firstT xs[j+1]):=by omega
 simp [this]
theorem strokeB_pos {s:PStroke} (h:strokeB s=true):0 < s.length:=by
 simp only [strokeB,Bool.and_eq_true,decide_eq_true_eq] at h;omega
theorem stOk_stroke {xs:List PStroke} {k:Nat} (hk:k < xs.length) (h:stOk xs k=true):strokeB xs[k]=true:=by
 unfold stOk at h;rw [strk_get hk] at h;simp only [Bool.and_eq_true] at h;exact h.1
def nearZ (n d:Int):Int:=(2 * n+d) / (2 * d)
theorem floor_div {n d:Int} (hd:0 < d):(if n.tmod d < 0 then n.tdiv d - 1 else n.tdiv d)=n / d:=by
 rcases Int.lt_or_le n 0 with h | h
 · have h1:=Int.mul_tdiv_add_tmod n d
   have h2:=Int.tmod_lt_of_pos n hd;have h3:=Int.lt_tmod_of_pos n hd
   have h4:n.tmod d≤0:=by
    have:=Int.tmod_nonneg (a:=-n) d (by omega);rw [Int.neg_tmod] at this;omega
   split
   · rename_i hr
     refine (Int.ediv_eq_iff_of_pos hd).2 ?_ |>.symm;have e:(n.tdiv d - 1) * d=d * n.tdiv d - d:=by rw [Int.sub_mul,Int.one_mul,Int.mul_comm]
     constructor <;> omega
   · rename_i hr
     refine (Int.ediv_eq_iff_of_pos hd).2 ?_ |>.symm;have e:n.tdiv d * d=d * n.tdiv d:=Int.mul_comm _ _;constructor <;> omega
 · have:=Int.tmod_nonneg d h
   rw [if_neg (by omega),Int.tdiv_eq_ediv_of_nonneg h]
theorem near_rest {n d:Int} (hd:0 < d):(if d - (n - n / d * d)≤n - n / d * d then n / d+1 else n / d)=nearZ n d:=by
 have h1:=Int.emod_nonneg n (show d≠0 by omega);have h2:=Int.emod_lt_of_pos n hd;have h3:=Int.mul_ediv_add_emod n d;have e:n / d * d=d * (n / d):=Int.mul_comm _ _;unfold nearZ;refine ((Int.ediv_eq_iff_of_pos (by omega)).2 ?_).symm
 split
 · have e2:(n / d+1) * (2 * d)=2 * (d * (n / d))+2 * d:=by rw [Int.add_mul,Int.one_mul,Int.mul_comm (n / d),Int.mul_assoc]
   constructor <;> omega
 · have e2:(n / d) * (2 * d)=2 * (d * (n / d)):=by rw [Int.mul_comm (n / d),Int.mul_assoc]
   constructor <;> omega
theorem near_between {n far all:Int} (ha:0 < all) (h0:0≤far) (h1:far≤all):(0≤n→0≤nearZ (n * far) all∧nearZ (n * far) all≤n)∧(n≤0→n≤nearZ (n * far) all∧nearZ (n * far) all≤0):=by
 unfold nearZ;have hp:0 < 2 * all:=by omega
 constructor
 · intro hn
   have u1:0≤n * far:=Int.mul_nonneg hn h0;have u2:n * far≤n * all:=Int.mul_le_mul_of_nonneg_left h1 hn;constructor
   · exact Int.ediv_nonneg (by omega) (by omega)
   · refine Int.lt_add_one_iff.1 ((Int.ediv_lt_iff_lt_mul hp).2 ?_)
     have:(n+1) * (2 * all)=2 * (n * all)+2 * all:=by rw [Int.add_mul,Int.one_mul,Int.mul_left_comm]
     omega
 · intro hn
   have u1:n * far≤0:=Int.mul_nonpos_of_nonpos_of_nonneg hn h0;have u2:n * all≤n * far:=Int.mul_le_mul_of_nonpos_left hn h1;constructor
   · refine (Int.le_ediv_iff_mul_le hp).2 ?_
     have:n * (2 * all)=2 * (n * all):=Int.mul_left_comm ..;omega
   · refine Int.lt_add_one_iff.1 ((Int.ediv_lt_iff_lt_mul hp).2 ?_)
     omega
def farZ (a b:PPoint):Int:=(a.x - b.x) * (a.x - b.x)+(a.y - b.y) * (a.y - b.y)
def lenZ (a b:PPoint):Int:=(rootN (256 * farZ a b).toNat:Nat)
theorem sq_small {x:Int} (h1:-4095≤x) (h2:x≤4095):0≤x * x∧x * x≤16769025:=by
 constructor
 · rcases Int.le_total 0 x with h | h
   · exact Int.mul_nonneg h h
   · exact Int.mul_nonneg_of_nonpos_of_nonpos h h
 · rcases Int.le_total 0 x with h | h
   · exact Int.mul_le_mul h2 h2 h (by decide)
   · have:x * x=(-x) * (-x):=(Int.neg_mul_neg x x).symm
     rw [this];exact Int.mul_le_mul (show -x≤4095 by omega) (show -x≤4095 by omega) (by omega) (by decide)
theorem pointB_in {p:PPoint} (h:pointB p=true):0≤p.x∧p.x≤4095∧0≤p.y∧p.y≤4095∧0≤p.t∧p.t≤3600000:=by
 simp only [pointB,inR,Bool.and_eq_true,decide_eq_true_eq] at h;omega
theorem farZ_small {a b:PPoint} (ha:pointB a=true) (hb:pointB b=true):0≤farZ a b∧farZ a b≤33538050:=by
 have h1:=pointB_in ha;have h2:=pointB_in hb;have h3:=sq_small (x:=a.x - b.x) (by omega) (by omega);have h4:=sq_small (x:=a.y - b.y) (by omega) (by omega);unfold farZ;omega
theorem lenZ_small {a b:PPoint} (ha:pointB a=true) (hb:pointB b=true):0≤lenZ a b∧lenZ a b≤92661:=by
 have h:=farZ_small ha hb;have:=rootN_le (n:=(256 * farZ a b).toNat) (b:=92661) (by omega);unfold lenZ;omega
def arcZ (s:PStroke):Nat→Int
 | 0=>0
 | k+1=>arcZ s k+lenZ (pt s k) (pt s (k+1))
theorem arcZ_small {s:PStroke} (hs:strokeB s=true):∀ k,k < s.length→0≤arcZ s k∧arcZ s k≤k * 92661
 | 0,_=>by simp [arcZ]
 | k+1,hk=>by
   have ih:=arcZ_small hs k (by omega)
   have hp:∀ j,j < s.length→pointB (pt s j)=true:=fun j hj=>by
    have:=hs;rw [strokeB,Bool.and_eq_true] at this;have:=ptsOk_get this.1 hj;rw [ptOk,Bool.and_eq_true] at this;exact this.1
   have hl:=lenZ_small (hp k (by omega)) (hp (k+1) hk);rw [arcZ]
   push_cast
   omega
theorem arcZ_mono {s:PStroke} (k:Nat):arcZ s k≤arcZ s (k+1):=by
 rw [arcZ,lenZ]; omega
def hitZ (s:PStroke) (part parts:Int) (i:Nat):Bool:=decide (0 < i) && (decide (arcZ s i≠arcZ s (i - 1)) && decide (arcZ s (s.length - 1) * part≤arcZ s i * parts))
def placeZ (s:PStroke) (part parts:Int) (i:Nat):Int × Int :=
 let rest:=arcZ s (s.length - 1) * part - arcZ s (i - 1) * parts
 let all:=(arcZ s i - arcZ s (i - 1)) * parts
 ((pt s (i - 1)).x+nearZ (((pt s i).x - (pt s (i - 1)).x) * rest) all,(pt s (i - 1)).y+nearZ (((pt s i).y - (pt s (i - 1)).y) * rest) all)
def spotZ (s:PStroke) (part parts:Int):Int × Int :=
 match (List.range s.length).find? (hitZ s part parts) with
 | some i=>placeZ s part parts i
 | none=>((pt s 0).x,(pt s 0).y)
theorem before_hit {s:PStroke} {part parts:Int} (h0:0≤arcZ s (s.length - 1) * part):∀ j,(∀ i,i≤j→hitZ s part parts i=false)→arcZ s j * parts≤arcZ s (s.length - 1) * part
 | 0,_=>by rw [arcZ,Int.zero_mul]; exact h0
 | j+1,h=>by
   have ih:=before_hit h0 j (fun i hi=>h i (by omega));have hj:=h (j+1) (Nat.le_refl _);rw [hitZ,Nat.add_sub_cancel] at hj
   by_cases e:arcZ s (j+1)=arcZ s j
   · rw [e]; exact ih
   · simp only [Nat.zero_lt_succ,decide_true,Bool.true_and,e,ne_eq,not_false_eq_true,decide_eq_false_iff_not] at hj
     omega
theorem between_small {a b n lo hi:Int} (ha:lo≤a∧a≤hi) (hb:lo≤b∧b≤hi) (hn:(0≤b - a→0≤n∧n≤b - a)∧(b - a≤0→b - a≤n∧n≤0)):lo≤a+n∧a+n≤hi:=by
 rcases Int.le_total 0 (b - a) with h | h
 · have:=hn.1 h; omega
 · have:=hn.2 h; omega
theorem spotZ_in {s:PStroke} {part parts xl xh yl yh:Int} (hs:strokeB s=true) (h0:0≤part) (h2:0 < parts) (hx:∀ j,j < s.length→xl≤(pt s j).x∧(pt s j).x≤xh) (hy:∀ j,j < s.length→yl≤(pt s j).y∧(pt s j).y≤yh):(xl≤(spotZ s part parts).1∧(spotZ s part parts).1≤xh)∧(yl≤(spotZ s part parts).2∧(spotZ s part parts).2≤yh):=by
 have hs':=hs;rw [strokeB,Bool.and_eq_true,Bool.and_eq_true,decide_eq_true_iff,decide_eq_true_iff] at hs';obtain ⟨p1,p2,p3⟩:=hs';have ha0:=arcZ_small hs (s.length - 1) (by omega);have w0:0≤arcZ s (s.length - 1) * part:=Int.mul_nonneg ha0.1 h0;rw [spotZ]
 split
 · rename_i i hi
   have hh:=List.find?_some hi;have hmem:=List.mem_of_find?_eq_some hi;rw [List.mem_range] at hmem
   have hbef:∀ j,j < i→hitZ s part parts j=false:=by
    intro j hj;rw [List.find?_range_eq_some] at hi
    simpa using hi.2.2 j hj
   rw [hitZ,Bool.and_eq_true,Bool.and_eq_true,decide_eq_true_iff,decide_eq_true_iff,decide_eq_true_iff] at hh;obtain ⟨q1,q2,q3⟩:=hh;have hm:=arcZ_mono (s:=s) (i - 1);rw [show i - 1+1=i by omega] at hm;have hlt:0 < arcZ s i - arcZ s (i - 1):=by omega
   have hall:0 < (arcZ s i - arcZ s (i - 1)) * parts:=Int.mul_pos hlt h2;have hb:=before_hit w0 (i - 1) (fun j hj=>hbef j (by omega));have hrest:0≤arcZ s (s.length - 1) * part - arcZ s (i - 1) * parts:=by omega
   have hre2:arcZ s (s.length - 1) * part - arcZ s (i - 1) * parts≤(arcZ s i - arcZ s (i - 1)) * parts:=by rw [Int.sub_mul]; omega
   exact ⟨between_small (hx (i - 1) (by omega)) (hx i hmem) (near_between hall hrest hre2),between_small (hy (i - 1) (by omega)) (hy i hmem) (near_between hall hrest hre2)⟩
 · exact ⟨hx 0 (by omega),hy 0 (by omega)⟩
structure BoxZ where
 x1:Int
 y1:Int
 x2:Int
 y2:Int
 deriving DecidableEq
def joinZ (a b:BoxZ):BoxZ:=⟨min a.x1 b.x1,min a.y1 b.y1,max a.x2 b.x2,max a.y2 b.y2⟩
def ptBox (p:PPoint):BoxZ:=⟨p.x,p.y,p.x,p.y⟩
def boxOfZ (s:PStroke):BoxZ:=s.foldl (fun b p=>joinZ b (ptBox p)) (ptBox (pt s 0))
def boxAllZ (xs:List PStroke):BoxZ:=xs.foldl (fun b s=>joinZ b (boxOfZ s)) (boxOfZ (strk xs 0))
theorem joinZ_self (a:BoxZ):joinZ a a=a:=by cases a; simp [joinZ]
def InZ (a b:BoxZ):Prop:=b.x1≤a.x1∧b.y1≤a.y1∧a.x2≤b.x2∧a.y2≤b.y2
theorem InZ.refl (a:BoxZ):InZ a a:=⟨Int.le_refl _,Int.le_refl _,Int.le_refl _,Int.le_refl _⟩
theorem InZ.trans {a b c:BoxZ} (h:InZ a b) (k:InZ b c):InZ a c:=by unfold InZ at *; omega
theorem InZ.left (a b:BoxZ):InZ a (joinZ a b):=by simp only [InZ,joinZ]; omega
theorem InZ.right (a b:BoxZ):InZ b (joinZ a b):=by simp only [InZ,joinZ]; omega
theorem InZ.join {a b c:BoxZ} (h:InZ a c) (k:InZ b c):InZ (joinZ a b) c:=by simp only [InZ,joinZ] at *; omega
theorem foldZ_in {α:Type} (f:α→BoxZ):∀ (l:List α) (b:BoxZ),InZ b (l.foldl (fun b p=>joinZ b (f p)) b)∧∀ p∈l,InZ (f p) (l.foldl (fun b p=>joinZ b (f p)) b)
 | [],b=>⟨InZ.refl b,by simp⟩
 | p :: l,b=>by
   obtain ⟨h1,h2⟩:=foldZ_in f l (joinZ b (f p));rw [List.foldl_cons];refine ⟨(InZ.left _ _).trans h1,fun q hq=>?_⟩;rcases List.mem_cons.1 hq with rfl | hq
   · exact (InZ.right _ _).trans h1
   · exact h2 q hq
theorem foldZ_least {α:Type} (f:α→BoxZ) (c:BoxZ):∀ (l:List α) (b:BoxZ),InZ b c→(∀ p∈l,InZ (f p) c)→InZ (l.foldl (fun b p=>joinZ b (f p)) b) c
 | [],b,h,_=>h
 | p :: l,b,h,hl=>by
   rw [List.foldl_cons];exact foldZ_least f c l _ (h.join (hl p (List.mem_cons_self ..))) (fun q hq=>hl q (List.mem_cons_of_mem _ hq))
theorem boxOfZ_pt {s:PStroke} {j:Nat} (h:j < s.length):InZ (ptBox (pt s j)) (boxOfZ s):=by
 rw [pt_get h];exact (foldZ_in ptBox s _).2 _ (List.getElem_mem h)
theorem boxAllZ_in {xs:List PStroke} {s:PStroke} (h:s∈xs):InZ (boxOfZ s) (boxAllZ xs):=(foldZ_in boxOfZ xs _).2 s h
def sideZ (b:BoxZ):Int:=max (max (b.x2 - b.x1) (b.y2 - b.y1)) 1
def normZ (p:Int × Int) (b:BoxZ):Int × Int :=
 ((255 - (b.x2 - b.x1) * 255 / sideZ b) / 2+nearZ ((p.1 - b.x1) * 255) (sideZ b),(255 - (b.y2 - b.y1) * 255 / sideZ b) / 2+nearZ ((p.2 - b.y1) * 255) (sideZ b))
theorem norm_one {w m side:Int} (hs:0 < side) (hw:w≤side) (h0:0≤m) (hm:m≤w):0≤(255 - w * 255 / side) / 2+nearZ (m * 255) side∧(255 - w * 255 / side) / 2+nearZ (m * 255) side≤255:=by
 have q1:=Int.emod_nonneg (w * 255) (show side≠0 by omega);have q2:=Int.emod_lt_of_pos (w * 255) hs;have q3:=Int.mul_ediv_add_emod (w * 255) side;generalize hq:w * 255 / side=q at *;have q0:0≤q:=by rw [← hq]; exact Int.ediv_nonneg (by omega) (by omega)
 have q4:q≤255:=by
  rw [← hq];refine Int.lt_add_one_iff.1 ((Int.ediv_lt_iff_lt_mul hs).2 ?_);omega
 have n0:0≤nearZ (m * 255) side:=Int.ediv_nonneg (by omega) (by omega)
 have n1:nearZ (m * 255) side≤255:=by
  refine Int.lt_add_one_iff.1 ((Int.ediv_lt_iff_lt_mul (by omega)).2 ?_);omega
 have n2:nearZ (m * 255) side≤q+1:=by
  refine Int.lt_add_one_iff.1 ((Int.ediv_lt_iff_lt_mul (by omega)).2 ?_);have e:(q+1+1) * (2 * side)=2 * (side * q)+4 * side:=by rw [Int.add_mul,Int.add_mul,Int.mul_left_comm,Int.mul_comm q side]; omega
  omega
 omega
theorem normZ_small {p:Int × Int} {b:BoxZ} (hx:b.x1≤p.1∧p.1≤b.x2) (hy:b.y1≤p.2∧p.2≤b.y2):(0≤(normZ p b).1∧(normZ p b).1≤255)∧(0≤(normZ p b).2∧(normZ p b).2≤255):=by
 have hs:0 < sideZ b:=by unfold sideZ; omega
 have h1:b.x2 - b.x1≤sideZ b:=by unfold sideZ; omega
 have h2:b.y2 - b.y1≤sideZ b:=by unfold sideZ; omega
 exact ⟨norm_one hs h1 (by omega) (by omega),norm_one hs h2 (by omega) (by omega)⟩
def absZ (n:Int):Int:=if n < 0 then -n else n
def dirZ (dx dy:Int):Int :=
 if (absZ dx+absZ dy) * (absZ dx+absZ dy)≤2 * absZ dx * absZ dx then (if dx > 0 then 0 else 4)
 else if (absZ dx+absZ dy) * (absZ dx+absZ dy)≤2 * absZ dy * absZ dy then (if dy > 0 then 2 else 6)
 else if dx > 0∧dy > 0 then 1
 else if dy > 0 then 3
 else if dx < 0 then 5 else 7
theorem dir_left {dx dy:Int} (h1:¬ (absZ dx+absZ dy) * (absZ dx+absZ dy)≤2 * absZ dx * absZ dx) (h2:¬ (absZ dx+absZ dy) * (absZ dx+absZ dy)≤2 * absZ dy * absZ dy):dx≠0∧dy≠0:=by
 constructor
 · rintro rfl
   apply h2;have:absZ 0=0:=rfl;rw [this,Int.zero_add,Int.mul_assoc];have:=Int.mul_nonneg (show 0≤absZ dy by unfold absZ; split <;> omega) (show 0≤absZ dy by unfold absZ; split <;> omega);omega
 · rintro rfl
   apply h1;have:absZ 0=0:=rfl;rw [this,Int.add_zero,Int.mul_assoc];have:=Int.mul_nonneg (show 0≤absZ dx by unfold absZ; split <;> omega) (show 0≤absZ dx by unfold absZ; split <;> omega);omega
theorem dirZ_small (dx dy:Int):0≤dirZ dx dy∧dirZ dx dy≤7:=by
 unfold dirZ
 repeat' split
 all_goals decide
end Go.Proofs.YtalmeogjhmblhaaGreat

/- The program's own setups: models. Conditions: none. -/
import Derived.Test.YtalmeogjhmblhaaGreatTkw
import Derived.Test.YtalmeogjhmblhaaGreatRyPw
import Derived.Test.YtalmeogjhmblhaaGreatRcRead2w
import Derived.Test.YtalmeogjhmblhaaGreatRzTw
namespace Go.Proofs.YtalmeogjhmblhaaGreat
open Go Go.RowKit
set_option maxHeartbeats 8000000
set_option maxRecDepth 100000
theorem modelB_false {n:Int} {xs:List PBigram} {k:Nat} (hk:k < xs.length) (h:bigOk xs k=false):modelB n xs=false:=by simp [modelB,bigsOk_false h hk]
theorem impl_validBigram_c (s:PBigram) (h1:s.first.size≤1048576) (h2:s.second.size≤1048576) (w:World) :
 Calls Tryz.prog 190 #[.agg #[.string s.first,.string s.second,.int .i64 s.cost]] w fun e w'=>e=.returned (.bool (bigB s))∧Below w.heap.size w w':=by
 obtain ⟨f,g,n⟩:=s;dsimp only at h1 h2 ⊢;have C1:=Lib.hid (fun w'=>impl_IsWord_c g h2 w');have C2:=Lib.hid (fun w'=>impl_IsWord_c f h1 w');have C3:=Lib.hid (impl_isCost_c n);have hb:bigB ⟨f,g,n⟩=(isWordB g && ((decide (f=.empty) || isWordB f) && costB n)):=rfl;rw [hb];clear hb;have al:Below w.heap.size w (w.alloc (.cells #[.string f,.string g,.int .i64 n] 212)):=(Below.refl _ _).alloc (Nat.le_refl _) _;have R:=Row.new w 212 #[.string f,.string g,.int .i64 n]
 have he:f.toList.isEmpty=decide (f=.empty):=by
  have:=str_eq f .empty;rw [show ByteArray.empty.toList=[] from by simp,List.beq_nil_eq] at this;exact this
 generalize decide (f=.empty)=d0 at he ⊢;generalize isWordB g=d1 at C1 ⊢;generalize isWordB f=d2 at C2 ⊢;generalize costB n=d3 at C3 ⊢;cases d1
 · go_enter Tryz.func190,Tryz.ntmps190
   go_wp2_with fail
   refine (C1.out _).mono ?_;rintro e w1 ⟨rfl,b1⟩
   go_wp2_with fail
   go_ret;exact ⟨rfl,al.trans (b1.mono al.size)⟩
 · cases d0
   · cases d2
     · go_enter Tryz.func190,Tryz.ntmps190
       go_wp2_with fail
       refine (C1.out _).mono ?_;rintro e w1 ⟨rfl,b1⟩;have q0:=(R.later b1).c0
       go_wp2_with fail
       refine (C2.out _).mono ?_;rintro e w2 ⟨rfl,b2⟩
       go_wp2_with fail
       go_ret;exact ⟨rfl,(al.trans (b1.mono al.size)).trans (b2.mono (Nat.le_trans al.size b1.size))⟩
     · go_enter Tryz.func190,Tryz.ntmps190
       go_wp2_with fail
       refine (C1.out _).mono ?_;rintro e w1 ⟨rfl,b1⟩;have q0:=(R.later b1).c0
       go_wp2_with fail
       refine (C2.out _).mono ?_;rintro e w2 ⟨rfl,b2⟩;clear q0;have q2:=((R.later b1).later b2).c2
       go_wp2_with fail
       refine (C3.out _).mono ?_;rintro e w3 ⟨rfl,rfl⟩
       go_wp2_with fail
       go_ret;exact ⟨rfl,(al.trans (b1.mono al.size)).trans (b2.mono (Nat.le_trans al.size b1.size))⟩
   · go_enter Tryz.func190,Tryz.ntmps190
     go_wp2_with fail
     refine (C1.out _).mono ?_;rintro e w1 ⟨rfl,b1⟩;have q0:=(R.later b1).c0;have q2:=(R.later b1).c2
     go_wp2_with fail
     refine (C3.out _).mono ?_;rintro e w3 ⟨rfl,rfl⟩
     go_wp2_with fail
     go_ret;exact ⟨rfl,al.trans (b1.mono al.size)⟩
theorem impl_ValidModel_c {o:Bool} {e:TypeId} {n:Int} {xs:List PBigram} {v:Value} {F:List Nat} (w:World) (h:(pBigrams e).rep o w xs [v] F) (hx:xs.length≤1048576) (hs:∀ l∈xs,l.first.size≤1048576∧l.second.size≤1048576) :
 Calls Tryz.prog 137 #[.agg #[.int .i64 n,v]] w fun e w'=>e=.returned (.bool (modelB n xs))∧Below w.heap.size w w':=by
 obtain ⟨A,c,rfl,hc1,hc2,hr⟩:=pBigrams_open h;clear h
 go_enter Tryz.func137,Tryz.ntmps137
 go_wp2_with fail
 go_loopw [8] (fun i wr=>∃ k:Nat,k≤xs.length∧i=.int .i64 k∧Hid (bigsOk xs k=true)∧wr.cell? ⟨w.heap.size,1,none⟩=some (.slice A xs.length c)∧wr.cell? ⟨w.heap.size,0,none⟩=some (.int .i64 n)∧w.heap.size < wr.heap.size∧Below w.heap.size w wr) (fun i _=>xs.length - (intOf i).toNat)
 case atStart=>exact ⟨0,Nat.zero_le _,rfl,rfl,by simp,by simp,by simp,(Below.refl _ _).alloc (Nat.le_refl _) _⟩
 case round =>
  obtain ⟨k,hk,rfl,hok,hself,hself0,hsl,hb⟩:=hrel;have hbs:=hb.size
  by_cases hlt:k < xs.length
  · obtain ⟨b,off,rfl,hbb,_,h0,h1,h2,_⟩:=hr k hlt
    rw [← hb.cell (p:=⟨b,_,none⟩) hbb] at h0 h1 h2;have hsk:=hs _ (List.getElem_mem hlt);have HW:=Lib.hid (impl_validBigram_c xs[k] hsk.1 hsk.2);have RN:=(Row.new wr 212 #[.string xs[k].first,.string xs[k].second,.int .i64 xs[k].cost]).drew;have al:Below w.heap.size w (wr.alloc (.cells #[.string xs[k].first,.string xs[k].second,.int .i64 xs[k].cost] 212)).drew:=(hb.alloc hbs _).drew
    have kp:∀ (g i:Nat) (u:Value),g < wr.heap.size→wr.cell? ⟨g,i,none⟩=some u→(wr.alloc (.cells #[.string xs[k].first,.string xs[k].second,.int .i64 xs[k].cost] 212)).drew.cell? ⟨g,i,none⟩=some u :=
     fun g i u hg hc=>(World.cell?_alloc_past (w:=wr) _ _ _ hg).trans hc
    have he:bigOk xs k=(bigB xs[k] && (decide (k=0) || cLess (bigKey (bigAt xs (k - 1))) (bigKey xs[k]))):=by rw [bigOk,bigAt_get hlt]
    have hs1:bigsOk xs (k+1)=(bigsOk xs k && bigOk xs k):=rfl;clear hsk;cases hw:bigB xs[k]
    · have HF:=Lib.hid (modelB_false (n:=n) hlt (by rw [he,hw]; rfl))
      simp only [hw] at HW;clear hr hw he hs1
      go_wp2_with fail
      have hS:(fun w':World=>w'.cell? ⟨wr.heap.size,0,none⟩=some (.string xs[k].first)∧w'.cell? ⟨wr.heap.size,1,none⟩=some (.string xs[k].second)∧w'.cell? ⟨wr.heap.size,2,none⟩=some (.int .i64 xs[k].cost)) (wr.alloc (.cells #[.string xs[k].first,.string xs[k].second,.int .i64 xs[k].cost] 212)).drew:=⟨RN.c0,RN.c1,RN.c2⟩
      dsimp only at hS;refine wp_region_held_drew (S:=(fun w':World=>w'.cell? ⟨wr.heap.size,0,none⟩=some (.string xs[k].first)∧w'.cell? ⟨wr.heap.size,1,none⟩=some (.string xs[k].second)∧w'.cell? ⟨wr.heap.size,2,none⟩=some (.int .i64 xs[k].cost))) (by kernel_rfl) hS (fun _=>?_);refine tJ 0 hS ?_;refine rJ 1 fun K hK=>?_
      refine step_call 190 #[.tmp 13] _ rfl rfl #[.agg #[.string xs[k].first,.string xs[k].second,.int .i64 xs[k].cost]] Tryz.call190 (by go_simp) (HW.out _) ?_;rintro e w1 ⟨rfl,b1⟩;refine ⟨_,rfl,?_⟩;have nb0:wr.heap.size < (wr.alloc (.cells #[.string xs[k].first,.string xs[k].second,.int .i64 xs[k].cost] 212)).drew.heap.size:=by simp
      replace hS:(fun w':World=>w'.cell? ⟨wr.heap.size,0,none⟩=some (.string xs[k].first)∧w'.cell? ⟨wr.heap.size,1,none⟩=some (.string xs[k].second)∧w'.cell? ⟨wr.heap.size,2,none⟩=some (.int .i64 xs[k].cost)) w1:=⟨(b1.cell (p:=⟨_,_,none⟩) nb0).trans hS.1,(b1.cell (p:=⟨_,_,none⟩) nb0).trans hS.2.1,(b1.cell (p:=⟨_,_,none⟩) nb0).trans hS.2.2⟩
      dsimp only at hS;refine bJ hK hS ?_;clear hK K;simp only [Act.put,pA,pB,pC];refine tJ 2 hS ?_;refine tJ 3 hS ?_;refine tJ0 4 hS ?_;refine tJ0 5 hS ?_;refine tJ0 6 hS ?_;refine tJ0 7 hS ?_;refine tJ0 8 hS ?_;refine tJ0 9 hS ?_;refine tJ0 10 hS ?_;refine tJ0 11 hS ?_;refine tJ0 12 hS ?_;refine tJ0 13 hS ?_;refine tJ0 14 hS ?_;refine tJ0 15 hS ?_;refine tJ0 16 hS ?_;refine tJ 17 hS ?_;refine wpAnyH_done (by kernel_rfl) ?_ _
      go_wp2_with fail
      go_ret;exact ⟨ret_boolI HF.out.symm,al.trans (b1.mono (by simp; omega))⟩
    · simp only [hw] at HW
      by_cases hz:k=0
      · have HK:Hid (bigsOk xs (k+1)=true):=by show _=_; rw [hs1,hok.out,he,hw]; simp [hz]
        have g0:(0 < k)=False:=eq_false (by omega);clear hr hz hw he hs1
        go_wp2_with fail
        have hS:(fun w':World=>w'.cell? ⟨wr.heap.size,0,none⟩=some (.string xs[k].first)∧w'.cell? ⟨wr.heap.size,1,none⟩=some (.string xs[k].second)∧w'.cell? ⟨wr.heap.size,2,none⟩=some (.int .i64 xs[k].cost)) (wr.alloc (.cells #[.string xs[k].first,.string xs[k].second,.int .i64 xs[k].cost] 212)).drew:=⟨RN.c0,RN.c1,RN.c2⟩
        dsimp only at hS;refine wp_region_held_drew (S:=(fun w':World=>w'.cell? ⟨wr.heap.size,0,none⟩=some (.string xs[k].first)∧w'.cell? ⟨wr.heap.size,1,none⟩=some (.string xs[k].second)∧w'.cell? ⟨wr.heap.size,2,none⟩=some (.int .i64 xs[k].cost))) (by kernel_rfl) hS (fun _=>?_);refine tJ 0 hS ?_;refine rJ 1 fun K hK=>?_
        refine step_call 190 #[.tmp 13] _ rfl rfl #[.agg #[.string xs[k].first,.string xs[k].second,.int .i64 xs[k].cost]] Tryz.call190 (by go_simp) (HW.out _) ?_;rintro e w1 ⟨rfl,b1⟩;refine ⟨_,rfl,?_⟩;have nb0:wr.heap.size < (wr.alloc (.cells #[.string xs[k].first,.string xs[k].second,.int .i64 xs[k].cost] 212)).drew.heap.size:=by simp
        replace hS:(fun w':World=>w'.cell? ⟨wr.heap.size,0,none⟩=some (.string xs[k].first)∧w'.cell? ⟨wr.heap.size,1,none⟩=some (.string xs[k].second)∧w'.cell? ⟨wr.heap.size,2,none⟩=some (.int .i64 xs[k].cost)) w1:=⟨(b1.cell (p:=⟨_,_,none⟩) nb0).trans hS.1,(b1.cell (p:=⟨_,_,none⟩) nb0).trans hS.2.1,(b1.cell (p:=⟨_,_,none⟩) nb0).trans hS.2.2⟩
        dsimp only at hS;refine bJ hK hS ?_;clear hK K;simp only [Act.put,pA,pB,pC];refine tJ 2 hS ?_;refine tJ 3 hS ?_;refine tJ 4 hS ?_;refine tJ 5 hS ?_;refine tJ 6 hS ?_;refine tJ0 7 hS ?_;refine tJ0 8 hS ?_;refine tJ0 9 hS ?_;refine tJ0 10 hS ?_;refine tJ0 11 hS ?_;refine tJ0 12 hS ?_;refine tJ0 13 hS ?_;refine tJ0 14 hS ?_;refine tJ0 15 hS ?_;refine tJ 16 hS ?_;refine tJ 17 hS ?_;refine wpAnyH_done (by kernel_rfl) ?_ _
        go_wp2_with fail
        go_roundw
        case rel=>exact ⟨k+1,by omega,by go_num,HK,(b1.cell (p:=⟨_,_,none⟩) (by simp; omega)).trans (kp _ _ _ hsl hself),(b1.cell (p:=⟨_,_,none⟩) (by simp; omega)).trans (kp _ _ _ hsl hself0),Nat.lt_of_lt_of_le (by simp; omega) b1.size,al.trans (b1.mono (by simp; omega))⟩
        case measure=>simp [intOf]; omega
      · obtain ⟨j,hj⟩:∃ j,k=j+1:=⟨k - 1,by omega⟩
        have jl:j < xs.length:=by omega
        obtain ⟨b',off',e',hbb',_,h3,h4,h5,_⟩:=hr j jl;injection e' with e'
        injection e' with e1 e2 _
        subst e1; subst e2
        rw [← hb.cell (p:=⟨b,_,none⟩) hbb] at h3 h4 h5;have g0:(0 < k)=True:=eq_true (by omega);have gj:IntKind.i64.wrap ((k:Int) - 1)=(j:Int):=(IntWalk.i64_in _ (by omega)).trans (by omega);have jl':(j:Int) < (xs.length:Int):=by omega
        have j0:(0:Int)≤(j:Int):=by omega
        have hen:bigAt xs (k - 1)=xs[j]:=by subst hj; exact bigAt_get jl
        have dk:decide (k=0)=false:=decide_eq_false hz;rw [hen,hw,dk] at he;have hcc:=impl_compareBigrams_c xs[j] xs[k];have hneg:=cmpC_neg (bigKey xs[j]) (bigKey xs[k]);generalize cmpC (bigKey xs[j]) (bigKey xs[k])=z at hcc hneg;have HC:=Lib.hid hcc;clear hr hcc;cases hlw:cLess (bigKey xs[j]) (bigKey xs[k])
        · have HF:=Lib.hid (modelB_false (n:=n) hlt (by rw [he,hlw]; rfl))
          have gz:((0:Int)≤z)=True:=eq_true (by rw [hlw] at hneg; have:=of_decide_eq_false hneg; omega);have HJ:=Lib.hid hj;clear hj hz hw he hs1 hen dk hlw hneg
          go_wp2_with fail
          have hS:(fun w':World=>w'.cell? ⟨wr.heap.size,0,none⟩=some (.string xs[k].first)∧w'.cell? ⟨wr.heap.size,1,none⟩=some (.string xs[k].second)∧w'.cell? ⟨wr.heap.size,2,none⟩=some (.int .i64 xs[k].cost)∧w'.cell? ⟨w.heap.size,1,none⟩=some (.slice (some ⟨b,off,none⟩) xs.length c)∧w'.cell? ⟨b,off+j * 3,none⟩=some (.string xs[j].first)∧w'.cell? ⟨b,off+j * 3+1,none⟩=some (.string xs[j].second)∧w'.cell? ⟨b,off+j * 3+2,none⟩=some (.int .i64 xs[j].cost)) (wr.alloc (.cells #[.string xs[k].first,.string xs[k].second,.int .i64 xs[k].cost] 212)).drew:=⟨RN.c0,RN.c1,RN.c2,kp _ _ _ hsl hself,kp _ _ _ (by omega) h3,kp _ _ _ (by omega) h4,kp _ _ _ (by omega) h5⟩
          dsimp only at hS;refine wp_region_held_drew (S:=(fun w':World=>w'.cell? ⟨wr.heap.size,0,none⟩=some (.string xs[k].first)∧w'.cell? ⟨wr.heap.size,1,none⟩=some (.string xs[k].second)∧w'.cell? ⟨wr.heap.size,2,none⟩=some (.int .i64 xs[k].cost)∧w'.cell? ⟨w.heap.size,1,none⟩=some (.slice (some ⟨b,off,none⟩) xs.length c)∧w'.cell? ⟨b,off+j * 3,none⟩=some (.string xs[j].first)∧w'.cell? ⟨b,off+j * 3+1,none⟩=some (.string xs[j].second)∧w'.cell? ⟨b,off+j * 3+2,none⟩=some (.int .i64 xs[j].cost))) (by kernel_rfl) hS (fun _=>?_);refine tJ 0 hS ?_;refine rJ 1 fun K hK=>?_
          refine step_call 190 #[.tmp 13] _ rfl rfl #[.agg #[.string xs[k].first,.string xs[k].second,.int .i64 xs[k].cost]] Tryz.call190 (by go_simp) (HW.out _) ?_;rintro e w1 ⟨rfl,b1⟩;refine ⟨_,rfl,?_⟩;have nb0:wr.heap.size < (wr.alloc (.cells #[.string xs[k].first,.string xs[k].second,.int .i64 xs[k].cost] 212)).drew.heap.size:=by simp
          have nbw:w.heap.size < (wr.alloc (.cells #[.string xs[k].first,.string xs[k].second,.int .i64 xs[k].cost] 212)).drew.heap.size:=by simp; omega
          have nbb:b < (wr.alloc (.cells #[.string xs[k].first,.string xs[k].second,.int .i64 xs[k].cost] 212)).drew.heap.size:=by simp; omega
          replace hS:(fun w':World=>w'.cell? ⟨wr.heap.size,0,none⟩=some (.string xs[k].first)∧w'.cell? ⟨wr.heap.size,1,none⟩=some (.string xs[k].second)∧w'.cell? ⟨wr.heap.size,2,none⟩=some (.int .i64 xs[k].cost)∧w'.cell? ⟨w.heap.size,1,none⟩=some (.slice (some ⟨b,off,none⟩) xs.length c)∧w'.cell? ⟨b,off+j * 3,none⟩=some (.string xs[j].first)∧w'.cell? ⟨b,off+j * 3+1,none⟩=some (.string xs[j].second)∧w'.cell? ⟨b,off+j * 3+2,none⟩=some (.int .i64 xs[j].cost)) w1:=⟨(b1.cell (p:=⟨_,_,none⟩) nb0).trans hS.1,(b1.cell (p:=⟨_,_,none⟩) nb0).trans hS.2.1,(b1.cell (p:=⟨_,_,none⟩) nb0).trans hS.2.2.1,(b1.cell (p:=⟨_,_,none⟩) nbw).trans hS.2.2.2.1,(b1.cell (p:=⟨_,_,none⟩) nbb).trans hS.2.2.2.2.1,(b1.cell (p:=⟨_,_,none⟩) nbb).trans hS.2.2.2.2.2.1,(b1.cell (p:=⟨_,_,none⟩) nbb).trans hS.2.2.2.2.2.2⟩
          dsimp only at hS;refine bJ hK hS ?_;clear hK K;simp only [Act.put,pA,pB,pC];refine tJ 2 hS ?_;refine tJ 3 hS ?_;refine tJ 4 hS ?_;refine tJ 5 hS ?_;refine tJ 6 hS ?_;refine tJ 7 hS ?_;refine tJ 8 hS ?_;refine tJ 9 hS ?_;refine tJ 10 hS ?_;refine tJ 11 hS ?_;refine tJ 12 hS ?_;refine tJ 13 hS ?_;refine rJ 14 fun K hK=>?_
          refine step_call 150 #[.tmp 25,.tmp 26] _ rfl rfl #[.agg #[.string xs[j].first,.string xs[j].second,.int .i64 xs[j].cost],.agg #[.string xs[k].first,.string xs[k].second,.int .i64 xs[k].cost]] Tryz.call150 (by go_simp) (HC.out _) ?_;rintro e w2 ⟨rfl,gw⟩;have b2:=gw.below;refine ⟨_,rfl,?_⟩;replace hS:(fun w':World=>w'.cell? ⟨wr.heap.size,0,none⟩=some (.string xs[k].first)∧w'.cell? ⟨wr.heap.size,1,none⟩=some (.string xs[k].second)∧w'.cell? ⟨wr.heap.size,2,none⟩=some (.int .i64 xs[k].cost)∧w'.cell? ⟨w.heap.size,1,none⟩=some (.slice (some ⟨b,off,none⟩) xs.length c)∧w'.cell? ⟨b,off+j * 3,none⟩=some (.string xs[j].first)∧w'.cell? ⟨b,off+j * 3+1,none⟩=some (.string xs[j].second)∧w'.cell? ⟨b,off+j * 3+2,none⟩=some (.int .i64 xs[j].cost)) w2:=⟨(b2.cell (p:=⟨_,_,none⟩) (Nat.lt_of_lt_of_le nb0 b1.size)).trans hS.1,(b2.cell (p:=⟨_,_,none⟩) (Nat.lt_of_lt_of_le nb0 b1.size)).trans hS.2.1,(b2.cell (p:=⟨_,_,none⟩) (Nat.lt_of_lt_of_le nb0 b1.size)).trans hS.2.2.1,(b2.cell (p:=⟨_,_,none⟩) (Nat.lt_of_lt_of_le nbw b1.size)).trans hS.2.2.2.1,(b2.cell (p:=⟨_,_,none⟩) (Nat.lt_of_lt_of_le nbb b1.size)).trans hS.2.2.2.2.1,(b2.cell (p:=⟨_,_,none⟩) (Nat.lt_of_lt_of_le nbb b1.size)).trans hS.2.2.2.2.2.1,(b2.cell (p:=⟨_,_,none⟩) (Nat.lt_of_lt_of_le nbb b1.size)).trans hS.2.2.2.2.2.2⟩
          dsimp only at hS;refine bJ hK hS ?_;clear hK K;simp only [Act.put,pA,pB,pC];refine tJ 15 hS ?_;refine tJ 16 hS ?_;refine tJ 17 hS ?_;refine wpAnyH_done (by kernel_rfl) ?_ _
          go_wp2_with fail
          go_ret;exact ⟨ret_boolI HF.out.symm,(al.trans (b1.mono (by simp; omega))).trans (b2.mono (Nat.le_trans (by simp; omega) b1.size))⟩
        · have HK:Hid (bigsOk xs (k+1)=true):=by show _=_; rw [hs1,hok.out,he,hlw]; rfl
          have gz:((0:Int)≤z)=False:=eq_false (by rw [hlw] at hneg; have:=of_decide_eq_true hneg; omega);have HJ:=Lib.hid hj;clear hj hz hw he hs1 hen dk hlw hneg
          go_wp2_with fail
          have hS:(fun w':World=>w'.cell? ⟨wr.heap.size,0,none⟩=some (.string xs[k].first)∧w'.cell? ⟨wr.heap.size,1,none⟩=some (.string xs[k].second)∧w'.cell? ⟨wr.heap.size,2,none⟩=some (.int .i64 xs[k].cost)∧w'.cell? ⟨w.heap.size,1,none⟩=some (.slice (some ⟨b,off,none⟩) xs.length c)∧w'.cell? ⟨b,off+j * 3,none⟩=some (.string xs[j].first)∧w'.cell? ⟨b,off+j * 3+1,none⟩=some (.string xs[j].second)∧w'.cell? ⟨b,off+j * 3+2,none⟩=some (.int .i64 xs[j].cost)) (wr.alloc (.cells #[.string xs[k].first,.string xs[k].second,.int .i64 xs[k].cost] 212)).drew:=⟨RN.c0,RN.c1,RN.c2,kp _ _ _ hsl hself,kp _ _ _ (by omega) h3,kp _ _ _ (by omega) h4,kp _ _ _ (by omega) h5⟩
          dsimp only at hS;refine wp_region_held_drew (S:=(fun w':World=>w'.cell? ⟨wr.heap.size,0,none⟩=some (.string xs[k].first)∧w'.cell? ⟨wr.heap.size,1,none⟩=some (.string xs[k].second)∧w'.cell? ⟨wr.heap.size,2,none⟩=some (.int .i64 xs[k].cost)∧w'.cell? ⟨w.heap.size,1,none⟩=some (.slice (some ⟨b,off,none⟩) xs.length c)∧w'.cell? ⟨b,off+j * 3,none⟩=some (.string xs[j].first)∧w'.cell? ⟨b,off+j * 3+1,none⟩=some (.string xs[j].second)∧w'.cell? ⟨b,off+j * 3+2,none⟩=some (.int .i64 xs[j].cost))) (by kernel_rfl) hS (fun _=>?_);refine tJ 0 hS ?_;refine rJ 1 fun K hK=>?_
          refine step_call 190 #[.tmp 13] _ rfl rfl #[.agg #[.string xs[k].first,.string xs[k].second,.int .i64 xs[k].cost]] Tryz.call190 (by go_simp) (HW.out _) ?_;rintro e w1 ⟨rfl,b1⟩;refine ⟨_,rfl,?_⟩;have nb0:wr.heap.size < (wr.alloc (.cells #[.string xs[k].first,.string xs[k].second,.int .i64 xs[k].cost] 212)).drew.heap.size:=by simp
          have nbw:w.heap.size < (wr.alloc (.cells #[.string xs[k].first,.string xs[k].second,.int .i64 xs[k].cost] 212)).drew.heap.size:=by simp; omega
          have nbb:b < (wr.alloc (.cells #[.string xs[k].first,.string xs[k].second,.int .i64 xs[k].cost] 212)).drew.heap.size:=by simp; omega
          replace hS:(fun w':World=>w'.cell? ⟨wr.heap.size,0,none⟩=some (.string xs[k].first)∧w'.cell? ⟨wr.heap.size,1,none⟩=some (.string xs[k].second)∧w'.cell? ⟨wr.heap.size,2,none⟩=some (.int .i64 xs[k].cost)∧w'.cell? ⟨w.heap.size,1,none⟩=some (.slice (some ⟨b,off,none⟩) xs.length c)∧w'.cell? ⟨b,off+j * 3,none⟩=some (.string xs[j].first)∧w'.cell? ⟨b,off+j * 3+1,none⟩=some (.string xs[j].second)∧w'.cell? ⟨b,off+j * 3+2,none⟩=some (.int .i64 xs[j].cost)) w1:=⟨(b1.cell (p:=⟨_,_,none⟩) nb0).trans hS.1,(b1.cell (p:=⟨_,_,none⟩) nb0).trans hS.2.1,(b1.cell (p:=⟨_,_,none⟩) nb0).trans hS.2.2.1,(b1.cell (p:=⟨_,_,none⟩) nbw).trans hS.2.2.2.1,(b1.cell (p:=⟨_,_,none⟩) nbb).trans hS.2.2.2.2.1,(b1.cell (p:=⟨_,_,none⟩) nbb).trans hS.2.2.2.2.2.1,(b1.cell (p:=⟨_,_,none⟩) nbb).trans hS.2.2.2.2.2.2⟩
          dsimp only at hS;refine bJ hK hS ?_;clear hK K;simp only [Act.put,pA,pB,pC];refine tJ 2 hS ?_;refine tJ 3 hS ?_;refine tJ 4 hS ?_;refine tJ 5 hS ?_;refine tJ 6 hS ?_;refine tJ 7 hS ?_;refine tJ 8 hS ?_;refine tJ 9 hS ?_;refine tJ 10 hS ?_;refine tJ 11 hS ?_;refine tJ 12 hS ?_;refine tJ 13 hS ?_;refine rJ 14 fun K hK=>?_
          refine step_call 150 #[.tmp 25,.tmp 26] _ rfl rfl #[.agg #[.string xs[j].first,.string xs[j].second,.int .i64 xs[j].cost],.agg #[.string xs[k].first,.string xs[k].second,.int .i64 xs[k].cost]] Tryz.call150 (by go_simp) (HC.out _) ?_;rintro e w2 ⟨rfl,gw⟩;have b2:=gw.below;refine ⟨_,rfl,?_⟩;replace hS:(fun w':World=>w'.cell? ⟨wr.heap.size,0,none⟩=some (.string xs[k].first)∧w'.cell? ⟨wr.heap.size,1,none⟩=some (.string xs[k].second)∧w'.cell? ⟨wr.heap.size,2,none⟩=some (.int .i64 xs[k].cost)∧w'.cell? ⟨w.heap.size,1,none⟩=some (.slice (some ⟨b,off,none⟩) xs.length c)∧w'.cell? ⟨b,off+j * 3,none⟩=some (.string xs[j].first)∧w'.cell? ⟨b,off+j * 3+1,none⟩=some (.string xs[j].second)∧w'.cell? ⟨b,off+j * 3+2,none⟩=some (.int .i64 xs[j].cost)) w2:=⟨(b2.cell (p:=⟨_,_,none⟩) (Nat.lt_of_lt_of_le nb0 b1.size)).trans hS.1,(b2.cell (p:=⟨_,_,none⟩) (Nat.lt_of_lt_of_le nb0 b1.size)).trans hS.2.1,(b2.cell (p:=⟨_,_,none⟩) (Nat.lt_of_lt_of_le nb0 b1.size)).trans hS.2.2.1,(b2.cell (p:=⟨_,_,none⟩) (Nat.lt_of_lt_of_le nbw b1.size)).trans hS.2.2.2.1,(b2.cell (p:=⟨_,_,none⟩) (Nat.lt_of_lt_of_le nbb b1.size)).trans hS.2.2.2.2.1,(b2.cell (p:=⟨_,_,none⟩) (Nat.lt_of_lt_of_le nbb b1.size)).trans hS.2.2.2.2.2.1,(b2.cell (p:=⟨_,_,none⟩) (Nat.lt_of_lt_of_le nbb b1.size)).trans hS.2.2.2.2.2.2⟩
          dsimp only at hS;refine bJ hK hS ?_;clear hK K;simp only [Act.put,pA,pB,pC];refine tJ 15 hS ?_;refine tJ 16 hS ?_;refine tJ 17 hS ?_;refine wpAnyH_done (by kernel_rfl) ?_ _
          go_wp2_with fail
          have n1:w.heap.size < w1.heap.size:=Nat.lt_of_lt_of_le nbw b1.size;have c1:w1.cell? ⟨w.heap.size,0,none⟩=some (.int .i64 n):=(b1.cell (p:=⟨_,_,none⟩) nbw).trans (kp _ _ _ hsl hself0)
          go_roundw
          case rel=>exact ⟨k+1,by omega,by go_num,HK,hS.2.2.2.1,(b2.cell (p:=⟨_,_,none⟩) n1).trans c1,Nat.lt_of_lt_of_le n1 b2.size,(al.trans (b1.mono (by simp; omega))).trans (b2.mono (by omega))⟩
          case measure=>simp [intOf]; omega
  · obtain rfl:k=xs.length:=by omega
    have HQ:=Lib.hid (impl_isCost_c n);cases hq:costB n
    · have HF:Hid (modelB n xs=false):=by show _=_; simp [modelB,hq]
      simp only [hq] at HQ;clear hr hq
      go_wp2_with fail
      refine (HQ.out _).mono ?_;rintro e w1 ⟨rfl,rfl⟩
      go_wp2_with fail
      go_ret;exact ⟨ret_boolI HF.out.symm,hb⟩
    · simp only [hq] at HQ
      by_cases h60:xs.length≤60
      · have g6:((xs.length:Int)≤60)=True:=eq_true (by omega)
        have HF:Hid (modelB n xs=true):=by show _=_; simp [modelB,hok.out,h60,hq]
        clear h60 hr hq
        go_wp2_with fail
        refine (HQ.out _).mono ?_;rintro e w1 ⟨rfl,rfl⟩
        go_wp2_with fail
        go_ret;exact ⟨ret_boolI HF.out.symm,hb⟩
      · have g6:((xs.length:Int)≤60)=False:=eq_false (by omega)
        have HF:Hid (modelB n xs=false):=by show _=_; simp [modelB,h60]
        clear h60 hr hq
        go_wp2_with fail
        refine (HQ.out _).mono ?_;rintro e w1 ⟨rfl,rfl⟩
        go_wp2_with fail
        go_ret;exact ⟨ret_boolI HF.out.symm,hb⟩
theorem spec_l09Feat_c (s:PFeat) (w:World) :
 Calls Tryz.prog 260 #[.agg #[.int .i64 s.x,.int .i64 s.y,.int .i64 s.d]] w fun e w'=>e=.returned (.bool (featB s))∧Below w.heap.size w w':=by
 have al:Below w.heap.size w (w.alloc (.cells #[.int .i64 s.x,.int .i64 s.y,.int .i64 s.d] 347)):=(Below.refl _ _).alloc (Nat.le_refl _) _;have H0:=Lib.hid (spec_inR_c s.x 0 255);have H1:=Lib.hid (spec_inR_c s.y 0 255);have H2:=Lib.hid (spec_inR_c s.d 0 7);unfold featB;generalize inR s.x 0 255=d0 at H0 ⊢;generalize inR s.y 0 255=d1 at H1 ⊢;generalize inR s.d 0 7=d2 at H2 ⊢;cases d0 <;> cases d1
 all_goals
  go_enter Tryz.func260,Tryz.ntmps260
  go_wp2_with (first | (go_at_call_of 61 (Value.int .i64 s.x); refine (H0.out _).mono ?_; rintro e w1 ⟨rfl,rfl⟩) | (go_at_call_of 61 (Value.int .i64 s.y); refine (H1.out _).mono ?_; rintro e w1 ⟨rfl,rfl⟩) | (go_at_call_of 61 (Value.int .i64 s.d); refine (H2.out _).mono ?_; rintro e w1 ⟨rfl,rfl⟩))
  go_ret;exact ⟨rfl,al⟩
theorem spec_l09Ok_c {o:Bool} {e:TypeId} {xs:List PFeat} {v:Value} {F:List Nat} (w:World) (h:(pFeats e).rep o w xs [v] F) (hx:xs.length≤1048576) :
 Calls Tryz.prog 211 #[v] w fun e w'=>e=.returned (.bool (featsB xs))∧Below w.heap.size w w':=by
 obtain ⟨A,c,rfl,hc1,hc2,hr⟩:=pFeats_open h;clear h
 go_enter Tryz.func211,Tryz.ntmps211
 go_wp2_with fail
 go_loopw [3] (fun i wr=>∃ k:Nat,k≤xs.length∧i=.int .i64 k∧Hid ((xs.take k).all featB=true)∧Below w.heap.size w wr) (fun i _=>xs.length - (intOf i).toNat)
 case atStart=>exact ⟨0,Nat.zero_le _,rfl,rfl,Below.refl _ _⟩
 case round =>
  obtain ⟨k,hk,rfl,hok,hb⟩:=hrel;have hbs:=hb.size
  by_cases hlt:k < xs.length
  · obtain ⟨b,off,rfl,hbb,_,h0,h1,h2,_⟩:=hr k hlt
    rw [← hb.cell (p:=⟨b,_,none⟩) hbb] at h0 h1 h2;have HC:=Lib.hid (spec_l09Feat_c xs[k]);have hst:(xs.take (k+1)).all featB=((xs.take k).all featB && featB xs[k]):=by rw [List.take_succ_eq_append_getElem hlt,List.all_append]; simp
    have hin:featB xs[k]=false→featsB xs=false:=fun h=>by
     have:xs.all featB=false:=by rw [Bool.eq_false_iff]; intro h2; rw [List.all_eq_true.1 h2 _ (List.getElem_mem hlt)] at h; cases h
     simp [featsB,this]
    have HST:=Lib.hid hst;have HIN:=Lib.hid hin;clear hr hst hin;generalize featB xs[k]=d at HC HST HIN;cases d
    · have HF:=Lib.hid (HIN.out rfl)
      go_wp2_with fail
      refine (HC.out _).mono ?_;rintro e w1 ⟨rfl,b1⟩
      go_wp2_with fail
      go_ret;exact ⟨ret_boolI HF.out.symm,hb.trans (b1.mono hbs)⟩
    · go_wp2_with fail
      refine (HC.out _).mono ?_;rintro e w1 ⟨rfl,b1⟩
      go_wp2_with fail
      go_roundw
      case rel=>exact ⟨k+1,by omega,by go_num,by show _=_; rw [HST.out,hok.out]; rfl,hb.trans (b1.mono hbs)⟩
      case measure=>simp [intOf]; omega
  · obtain rfl:k=xs.length:=by omega
    have hall:=hok.out;rw [List.take_length] at hall;have HQ:=Lib.hid (spec_inR_c (xs.length:Int) 1 72)
    have HF:Hid (featsB xs=inR (xs.length:Int) 1 72):=by
     show _=_
     rw [featsB,hall,inR,Bool.true_and]
     congr 1 <;> exact decide_eq_decide.2 (by omega)
    generalize inR (xs.length:Int) 1 72=d at HQ HF;clear hall hr
    go_wp2_with fail
    refine (HQ.out _).mono ?_;rintro e w1 ⟨rfl,rfl⟩
    go_wp2_with fail
    go_ret;exact ⟨ret_boolI HF.out.symm,hb⟩
theorem spec_l11Template_c {o:Bool} {e:TypeId} {t:PTemp} {v:Value} {F:List Nat} {g f:Nat} (w:World) (c0:w.cell? ⟨g,f,none⟩=some (.string t.label)) (c1:w.cell? ⟨g,f+1,none⟩=some v) (h:(pFeats e).rep o w t.feats [v] F) (hx:t.feats.length≤1048576) (hl:t.label.size≤1048576) :
 Calls Tryz.prog 171 #[.pointer (some ⟨g,f,none⟩)] w fun e w'=>e=.returned (.bool (tempB t))∧Below w.heap.size w w':=by
 have C1:=Lib.hid (fun w'=>spec_IsLabel_c t.label w' hl);have C2:=Lib.hid (spec_l09Ok_c w h hx);unfold tempB;generalize labelB t.label=d1 at C1 ⊢;generalize featsB t.feats=d2 at C2 ⊢;obtain ⟨A,c,rfl⟩:=slice_len h;clear h;cases d1
 · go_enter Tryz.func171,Tryz.ntmps171
   go_wp2_with fail
   refine (C1.out _).mono ?_;rintro e w1 ⟨rfl,rfl⟩
   go_wp2_with fail
   go_ret;exact ⟨rfl,Below.refl _ _⟩
 · go_enter Tryz.func171,Tryz.ntmps171
   go_wp2_with fail
   refine (C1.out _).mono ?_;rintro e w1 ⟨rfl,rfl⟩
   go_wp2_with fail
   refine C2.out.mono ?_;rintro e w2 ⟨rfl,b2⟩
   go_wp2_with fail
   go_ret;exact ⟨rfl,b2⟩
theorem spec_l11Ok_c {o:Bool} {pe e:TypeId} {p:PSetup} {v:Value} {F:List Nat} {g f:Nat} (w:World) (hg:g < w.heap.size) (c0:w.cell? ⟨g,f,none⟩=some (.int .i64 p.band)) (c1:w.cell? ⟨g,f+1,none⟩=some v) (h:(pTemps pe e).rep o w p.temps [v] F) (hp:SeSmall p) (hbt:SeBytes p) :
 Calls Tryz.prog 119 #[.pointer (some ⟨g,f,none⟩)] w fun e w'=>e=.returned (.bool (storeB p))∧Below w.heap.size w w':=by
 obtain ⟨A,c,rfl,hc1,hc2,hr⟩:=pTemps_open h;clear h;have hx:=hp.t
 go_enter Tryz.func119,Tryz.ntmps119
 go_wp2_with fail
 go_loopw [3] (fun i wr=>∃ k:Nat,k≤p.temps.length∧i=.int .i64 k∧Hid ((p.temps.take k).all tempB=true)∧Below w.heap.size w wr) (fun i _=>p.temps.length - (intOf i).toNat)
 case atStart=>exact ⟨0,Nat.zero_le _,rfl,rfl,Below.refl _ _⟩
 case round =>
  obtain ⟨k,hk,rfl,hok,hb⟩:=hrel;have hbs:=hb.size;rw [← hb.cell (p:=⟨g,_,none⟩) hg] at c0 c1
  by_cases hlt:k < p.temps.length
  · obtain ⟨b,off,u,Fk,rfl,hbb,_,hls,hrk,_,h0,h1⟩:=hr k hlt
    rw [← hb.cell (p:=⟨b,_,none⟩) hbb] at h0 h1;have HC:=Lib.hid (spec_l11Template_c wr h0 h1 (hrk.below hb) (hp.f _ (List.getElem_mem hlt)) (hbt.t _ (List.getElem_mem hlt)));have hst:(p.temps.take (k+1)).all tempB=((p.temps.take k).all tempB && tempB p.temps[k]):=by rw [List.take_succ_eq_append_getElem hlt,List.all_append]; simp
    have hin:tempB p.temps[k]=false→storeB p=false:=fun h=>by
     have:p.temps.all tempB=false:=by rw [Bool.eq_false_iff]; intro h2; rw [List.all_eq_true.1 h2 _ (List.getElem_mem hlt)] at h; cases h
     simp [storeB,this]
    have HST:=Lib.hid hst;have HIN:=Lib.hid hin;clear hr hst hin hrk h0 h1;generalize tempB p.temps[k]=d at HC HST HIN;cases d
    · have HF:=Lib.hid (HIN.out rfl)
      go_wp2_with fail
      refine HC.out.mono ?_;rintro e w1 ⟨rfl,b1⟩
      go_wp2_with fail
      go_ret;exact ⟨ret_boolI HF.out.symm,hb.trans (b1.mono hbs)⟩
    · go_wp2_with fail
      refine HC.out.mono ?_;rintro e w1 ⟨rfl,b1⟩
      go_wp2_with fail
      go_roundw
      case rel=>exact ⟨k+1,by omega,by go_num,by show _=_; rw [HST.out,hok.out]; rfl,hb.trans (b1.mono hbs)⟩
      case measure=>simp [intOf]; omega
  · obtain rfl:k=p.temps.length:=by omega
    have hall:=hok.out;rw [List.take_length] at hall;have HQ:=Lib.hid (spec_inR_c p.band 0 72)
    have HF:Hid (storeB p=(inR p.band 0 72 && decide (p.temps.length≤40))):=by
     show _=_
     rw [storeB,hall,Bool.true_and]
    generalize inR p.band 0 72=d at HQ HF;clear hall hr;cases d
    · have HF2:=Lib.hid (HF.out.trans rfl)
      go_wp2_with fail
      refine (HQ.out _).mono ?_;rintro e w1 ⟨rfl,rfl⟩
      go_wp2_with fail
      go_ret;exact ⟨ret_boolI (by rw [HF.out]; rfl),hb⟩
    · by_cases h40:p.temps.length≤40
      · have g4:((p.temps.length:Int)≤40)=True:=eq_true (by omega)
        have HF2:Hid (storeB p=true):=by show _=_; rw [HF.out]; simp [h40]
        clear h40
        go_wp2_with fail
        refine (HQ.out _).mono ?_;rintro e w1 ⟨rfl,rfl⟩
        go_wp2_with fail
        go_ret;exact ⟨ret_boolI HF2.out.symm,hb⟩
      · have g4:((p.temps.length:Int)≤40)=False:=eq_false (by omega)
        have HF2:Hid (storeB p=false):=by show _=_; rw [HF.out]; simp [h40]
        clear h40
        go_wp2_with fail
        refine (HQ.out _).mono ?_;rintro e w1 ⟨rfl,rfl⟩
        go_wp2_with fail
        go_ret;exact ⟨ret_boolI HF2.out.symm,hb⟩
theorem spec_l13Setting_c (s:PSetting) {g f:Nat} (w:World) (c0:w.cell? ⟨g,f,none⟩=some (.int .i64 s.points)) (c1:w.cell? ⟨g,f+1,none⟩=some (.int .i64 s.most)) (c2:w.cell? ⟨g,f+2,none⟩=some (.int .i64 s.pen)) :
 Calls Tryz.prog 120 #[.pointer (some ⟨g,f,none⟩)] w fun e w'=>e=.returned (.bool (settingB s))∧w'=w:=by
 have H0:=Lib.hid (spec_inR_c s.points 2 24);have H1:=Lib.hid (spec_inR_c s.most 1 8);have H2:=Lib.hid (spec_inR_c s.pen 0 1000);unfold settingB;generalize inR s.points 2 24=d0 at H0 ⊢;generalize inR s.most 1 8=d1 at H1 ⊢;generalize inR s.pen 0 1000=d2 at H2 ⊢;cases d0 <;> cases d1
 all_goals
  go_enter Tryz.func120,Tryz.ntmps120
  go_wp2_with (first | (go_at_call_of 61 (Value.int .i64 s.points); refine (H0.out _).mono ?_; rintro e w1 ⟨rfl,rfl⟩) | (go_at_call_of 61 (Value.int .i64 s.most); refine (H1.out _).mono ?_; rintro e w1 ⟨rfl,rfl⟩) | (go_at_call_of 61 (Value.int .i64 s.pen); refine (H2.out _).mono ?_; rintro e w1 ⟨rfl,rfl⟩))
  go_ret;exact ⟨rfl,rfl⟩
theorem spec_cost_c (n:Int) (w:World):Calls Tryz.prog 61 #[.int .i64 n,.int .i64 0,.int .i64 1000000] w fun e w'=>e=.returned (.bool (costB n))∧w'=w :=
 (spec_inR_c n 0 1000000 w).mono fun _ _ ⟨h1,h2⟩=>⟨h1,h2.symm⟩
theorem spec_word_c (s:ByteArray) (hs:s.size≤1048576) (w:World):Calls Tryz.prog 123 #[.string s] w fun e w'=>e=.returned (.bool (isWordB s))∧w'=w :=
 (spec_IsWord_c s hs w).mono fun _ _ ⟨h1,h2⟩=>⟨h1,h2.symm⟩
theorem spec_l16Ok_c {o:Bool} {e:TypeId} {xs:List PEntry} {v:Value} {F:List Nat} {g f:Nat} (w:World) (c0:w.cell? ⟨g,f,none⟩=some v) (h:(pEntrys e).rep o w xs [v] F) (hx:xs.length≤1048576) (hs:∀ l∈xs,l.word.size≤1048576) :
 Calls Tryz.prog 121 #[.pointer (some ⟨g,f,none⟩)] w (GivesB (lexB xs) w):=by
 obtain ⟨A,c,rfl,hc1,hc2,hr⟩:=pEntrys_open h;clear h
 go_enter Tryz.func121,Tryz.ntmps121
 go_wp2_with fail
 go_loopw [3] (fun i wr=>∃ k:Nat,k≤xs.length∧i=.int .i64 k∧Hid (entsOk xs k=true)∧∃ m,wr=w.drewN m) (fun i _=>xs.length - (intOf i).toNat)
 case atStart=>exact ⟨0,Nat.zero_le _,rfl,rfl,0,rfl⟩
 case round =>
  obtain ⟨k,hk,rfl,hok,m,rfl⟩:=hrel
  by_cases hlt:k < xs.length
  · obtain ⟨b,off,rfl,hbb,_,h0,h1,_⟩:=hr k hlt
    have HW:=Lib.hid (spec_word_c xs[k].word (hs _ (List.getElem_mem hlt)));have HQ:=Lib.hid (spec_cost_c xs[k].cost);have he:entOk xs k=(isWordB xs[k].word && (costB xs[k].cost && (decide (k=0) || bLess (entAt xs (k - 1)).word xs[k].word))):=by rw [entOk,entAt_get hlt]
    have hs1:entsOk xs (k+1)=(entsOk xs k && entOk xs k):=rfl;cases hw:isWordB xs[k].word
    · have HF:=Lib.hid (lexB_false hlt (by rw [he,hw]; rfl))
      simp only [hw] at HW;clear hr hw he hs1
      go_wp2_with fail
      have hS:(fun w':World=>w'.cell? ⟨b,off+k * 2,none⟩=some (.string xs[k].word)∧w'.cell? ⟨b,off+k * 2+1,none⟩=some (.int .i64 xs[k].cost)∧w'.cell? ⟨g,f,none⟩=some (.slice (some ⟨b,off,none⟩) xs.length c)) (w.drewN m).drew:=⟨h0,h1,c0⟩
      dsimp only at hS;refine wp_region_held_drew (S:=(fun w':World=>w'.cell? ⟨b,off+k * 2,none⟩=some (.string xs[k].word)∧w'.cell? ⟨b,off+k * 2+1,none⟩=some (.int .i64 xs[k].cost)∧w'.cell? ⟨g,f,none⟩=some (.slice (some ⟨b,off,none⟩) xs.length c))) (by kernel_rfl) hS (fun _=>?_);refine tJ 0 hS ?_;refine tJ 1 hS ?_;refine tJ 2 hS ?_;refine tJ 3 hS ?_;refine tC (i:=4) 123 #[Go.Operand.tmp 23] #[.string xs[k].word] Tryz.call123 (fun w=>HW.out w) hS ?_;simp only [Act.put,pA,pB,pC];refine tJ 5 hS ?_;refine tJ 6 hS ?_;refine tJ0 7 hS ?_;refine tJ0 8 hS ?_;refine tJ0 9 hS ?_;refine tJ0 10 hS ?_;refine tJ0 11 hS ?_;refine tJ0 12 hS ?_;refine tJ 13 hS ?_;refine tJ 14 hS ?_;refine tJ0 15 hS ?_;refine tJ0 16 hS ?_;refine tJ0 17 hS ?_;refine tJ0 18 hS ?_;refine tJ0 19 hS ?_;refine tJ0 20 hS ?_;refine tJ0 21 hS ?_;refine tJ0 22 hS ?_;refine tJ0 23 hS ?_;refine tJ0 24 hS ?_;refine tJ0 25 hS ?_;refine tJ0 26 hS ?_;refine tJ0 27 hS ?_;refine tJ0 28 hS ?_;refine tJ0 29 hS ?_;refine tJ0 30 hS ?_;refine tJ0 31 hS ?_;refine tJ0 32 hS ?_;refine tJ 33 hS ?_;refine wpAnyH_done (by kernel_rfl) ?_ _
      go_wp2_with fail
      go_ret;exact ⟨ret_boolI HF.out.symm,_,by first | rfl | exact World.drewN_drewN _ _ _⟩
    · simp only [hw] at HW
      cases hq:costB xs[k].cost
      · have HF:=Lib.hid (lexB_false hlt (by rw [he,hw,hq]; rfl))
        simp only [hq] at HQ;clear hr hw he hs1 hq
        go_wp2_with fail
        have hS:(fun w':World=>w'.cell? ⟨b,off+k * 2,none⟩=some (.string xs[k].word)∧w'.cell? ⟨b,off+k * 2+1,none⟩=some (.int .i64 xs[k].cost)∧w'.cell? ⟨g,f,none⟩=some (.slice (some ⟨b,off,none⟩) xs.length c)) (w.drewN m).drew:=⟨h0,h1,c0⟩
        dsimp only at hS;refine wp_region_held_drew (S:=(fun w':World=>w'.cell? ⟨b,off+k * 2,none⟩=some (.string xs[k].word)∧w'.cell? ⟨b,off+k * 2+1,none⟩=some (.int .i64 xs[k].cost)∧w'.cell? ⟨g,f,none⟩=some (.slice (some ⟨b,off,none⟩) xs.length c))) (by kernel_rfl) hS (fun _=>?_);refine tJ 0 hS ?_;refine tJ 1 hS ?_;refine tJ 2 hS ?_;refine tJ 3 hS ?_;refine tC (i:=4) 123 #[Go.Operand.tmp 23] #[.string xs[k].word] Tryz.call123 (fun w=>HW.out w) hS ?_;simp only [Act.put,pA,pB,pC];refine tJ 5 hS ?_;refine tJ 6 hS ?_;refine tJ 7 hS ?_;refine tJ 8 hS ?_;refine tJ 9 hS ?_;refine tJ 10 hS ?_;refine tC (i:=11) 61 #[Go.Operand.tmp 30,Go.Operand.const (Go.Value.int Go.IntKind.i64 0),Go.Operand.const (Go.Value.int Go.IntKind.i64 1000000)] #[.int .i64 xs[k].cost,.int .i64 0,.int .i64 1000000] Tryz.call61 (fun w=>HQ.out w) hS ?_;simp only [Act.put,pA,pB,pC];refine tJ 12 hS ?_;refine tJ 13 hS ?_;refine tJ 14 hS ?_;refine tJ0 15 hS ?_;refine tJ0 16 hS ?_;refine tJ0 17 hS ?_;refine tJ0 18 hS ?_;refine tJ0 19 hS ?_;refine tJ0 20 hS ?_;refine tJ0 21 hS ?_;refine tJ0 22 hS ?_;refine tJ0 23 hS ?_;refine tJ0 24 hS ?_;refine tJ0 25 hS ?_;refine tJ0 26 hS ?_;refine tJ0 27 hS ?_;refine tJ0 28 hS ?_;refine tJ0 29 hS ?_;refine tJ0 30 hS ?_;refine tJ0 31 hS ?_;refine tJ0 32 hS ?_;refine tJ 33 hS ?_;refine wpAnyH_done (by kernel_rfl) ?_ _
        go_wp2_with fail
        go_ret;exact ⟨ret_boolI HF.out.symm,_,by first | rfl | exact World.drewN_drewN _ _ _⟩
      · simp only [hq] at HQ
        by_cases hz:k=0
        · have HK:Hid (entsOk xs (k+1)=true):=by show _=_; rw [hs1,hok.out,he,hw,hq]; simp [hz]
          have g0:(0 < k)=False:=eq_false (by omega);clear hr hz hw he hs1 hq
          go_wp2_with fail
          have hS:(fun w':World=>w'.cell? ⟨b,off+k * 2,none⟩=some (.string xs[k].word)∧w'.cell? ⟨b,off+k * 2+1,none⟩=some (.int .i64 xs[k].cost)∧w'.cell? ⟨g,f,none⟩=some (.slice (some ⟨b,off,none⟩) xs.length c)) (w.drewN m).drew:=⟨h0,h1,c0⟩
          dsimp only at hS;refine wp_region_held_drew (S:=(fun w':World=>w'.cell? ⟨b,off+k * 2,none⟩=some (.string xs[k].word)∧w'.cell? ⟨b,off+k * 2+1,none⟩=some (.int .i64 xs[k].cost)∧w'.cell? ⟨g,f,none⟩=some (.slice (some ⟨b,off,none⟩) xs.length c))) (by kernel_rfl) hS (fun _=>?_);refine tJ 0 hS ?_;refine tJ 1 hS ?_;refine tJ 2 hS ?_;refine tJ 3 hS ?_;refine tC (i:=4) 123 #[Go.Operand.tmp 23] #[.string xs[k].word] Tryz.call123 (fun w=>HW.out w) hS ?_;simp only [Act.put,pA,pB,pC];refine tJ 5 hS ?_;refine tJ 6 hS ?_;refine tJ 7 hS ?_;refine tJ 8 hS ?_;refine tJ 9 hS ?_;refine tJ 10 hS ?_;refine tC (i:=11) 61 #[Go.Operand.tmp 30,Go.Operand.const (Go.Value.int Go.IntKind.i64 0),Go.Operand.const (Go.Value.int Go.IntKind.i64 1000000)] #[.int .i64 xs[k].cost,.int .i64 0,.int .i64 1000000] Tryz.call61 (fun w=>HQ.out w) hS ?_;simp only [Act.put,pA,pB,pC];refine tJ 12 hS ?_;refine tJ 13 hS ?_;refine tJ 14 hS ?_;refine tJ 15 hS ?_;refine tJ 16 hS ?_;refine tJ 17 hS ?_;refine tJ0 18 hS ?_;refine tJ0 19 hS ?_;refine tJ0 20 hS ?_;refine tJ0 21 hS ?_;refine tJ0 22 hS ?_;refine tJ0 23 hS ?_;refine tJ0 24 hS ?_;refine tJ0 25 hS ?_;refine tJ0 26 hS ?_;refine tJ0 27 hS ?_;refine tJ0 28 hS ?_;refine tJ0 29 hS ?_;refine tJ0 30 hS ?_;refine tJ0 31 hS ?_;refine tJ 32 hS ?_;refine tJ 33 hS ?_;refine wpAnyH_done (by kernel_rfl) ?_ _
          go_wp2_with fail
          go_roundw
          case rel=>exact ⟨k+1,by omega,by go_num,HK,_,by first | rfl | exact World.drewN_drewN _ _ _⟩
          case measure=>simp [intOf]; omega
        · obtain ⟨j,hj⟩:∃ j,k=j+1:=⟨k - 1,by omega⟩
          have jl:j < xs.length:=by omega
          obtain ⟨b',off',e',hbb',_,h3,_⟩:=hr j jl;injection e' with e'
          injection e' with e1 e2 _
          subst e1; subst e2
          have g0:(0 < k)=True:=eq_true (by omega);have gj:IntKind.i64.wrap ((k:Int) - 1)=(j:Int):=(IntWalk.i64_in _ (by omega)).trans (by omega);have jl':(j:Int) < (xs.length:Int):=by omega
          have j0:(0:Int)≤(j:Int):=by omega
          have hen:entAt xs (k - 1)=xs[j]:=by subst hj; exact entAt_get jl
          have hle:=leq_iff xs[k].word xs[j].word;have dk:decide (k=0)=false:=decide_eq_false hz;rw [hen,hw,hq,dk] at he;clear hr;cases hlw:bLess xs[j].word xs[k].word
          · have HF:=Lib.hid (lexB_false hlt (by rw [he,hlw]; rfl))
            rw [hlw] at hle;have HJ:=Lib.hid hj;clear hj hz hw he hs1 hq hen dk hlw
            go_wp2_with fail
            have hS:(fun w':World=>w'.cell? ⟨b,off+k * 2,none⟩=some (.string xs[k].word)∧w'.cell? ⟨b,off+k * 2+1,none⟩=some (.int .i64 xs[k].cost)∧w'.cell? ⟨g,f,none⟩=some (.slice (some ⟨b,off,none⟩) xs.length c)∧w'.cell? ⟨b,off+j * 2,none⟩=some (.string xs[j].word)) (w.drewN m).drew:=⟨h0,h1,c0,h3⟩
            dsimp only at hS;refine wp_region_held_drew (S:=(fun w':World=>w'.cell? ⟨b,off+k * 2,none⟩=some (.string xs[k].word)∧w'.cell? ⟨b,off+k * 2+1,none⟩=some (.int .i64 xs[k].cost)∧w'.cell? ⟨g,f,none⟩=some (.slice (some ⟨b,off,none⟩) xs.length c)∧w'.cell? ⟨b,off+j * 2,none⟩=some (.string xs[j].word))) (by kernel_rfl) hS (fun _=>?_);refine tJ 0 hS ?_;refine tJ 1 hS ?_;refine tJ 2 hS ?_;refine tJ 3 hS ?_;refine tC (i:=4) 123 #[Go.Operand.tmp 23] #[.string xs[k].word] Tryz.call123 (fun w=>HW.out w) hS ?_;simp only [Act.put,pA,pB,pC];refine tJ 5 hS ?_;refine tJ 6 hS ?_;refine tJ 7 hS ?_;refine tJ 8 hS ?_;refine tJ 9 hS ?_;refine tJ 10 hS ?_;refine tC (i:=11) 61 #[Go.Operand.tmp 30,Go.Operand.const (Go.Value.int Go.IntKind.i64 0),Go.Operand.const (Go.Value.int Go.IntKind.i64 1000000)] #[.int .i64 xs[k].cost,.int .i64 0,.int .i64 1000000] Tryz.call61 (fun w=>HQ.out w) hS ?_;simp only [Act.put,pA,pB,pC];refine tJ 12 hS ?_;refine tJ 13 hS ?_;refine tJ 14 hS ?_;refine tJ 15 hS ?_;refine tJ 16 hS ?_;refine tJ 17 hS ?_;refine tJ 18 hS ?_;refine tJ 19 hS ?_;refine tJ 20 hS ?_;refine tJ 21 hS ?_;refine tJ 22 hS ?_;refine tJ 23 hS ?_;refine tJ 24 hS ?_;refine tJ 25 hS ?_;refine tJ 26 hS ?_;refine tJ 27 hS ?_;refine tJ 28 hS ?_;refine tJ 29 hS ?_;refine tJ 30 hS ?_;refine tJ 31 hS ?_;refine tJ 32 hS ?_;refine tJ 33 hS ?_;refine wpAnyH_done (by kernel_rfl) ?_ _
            go_wp2_with fail
            go_ret;exact ⟨ret_boolI HF.out.symm,_,by first | rfl | exact World.drewN_drewN _ _ _⟩
          · have HK:Hid (entsOk xs (k+1)=true):=by show _=_; rw [hs1,hok.out,he,hlw]; rfl
            rw [hlw] at hle;have HJ:=Lib.hid hj;clear hj hz hw he hs1 hq hen dk hlw
            go_wp2_with fail
            have hS:(fun w':World=>w'.cell? ⟨b,off+k * 2,none⟩=some (.string xs[k].word)∧w'.cell? ⟨b,off+k * 2+1,none⟩=some (.int .i64 xs[k].cost)∧w'.cell? ⟨g,f,none⟩=some (.slice (some ⟨b,off,none⟩) xs.length c)∧w'.cell? ⟨b,off+j * 2,none⟩=some (.string xs[j].word)) (w.drewN m).drew:=⟨h0,h1,c0,h3⟩
            dsimp only at hS;refine wp_region_held_drew (S:=(fun w':World=>w'.cell? ⟨b,off+k * 2,none⟩=some (.string xs[k].word)∧w'.cell? ⟨b,off+k * 2+1,none⟩=some (.int .i64 xs[k].cost)∧w'.cell? ⟨g,f,none⟩=some (.slice (some ⟨b,off,none⟩) xs.length c)∧w'.cell? ⟨b,off+j * 2,none⟩=some (.string xs[j].word))) (by kernel_rfl) hS (fun _=>?_);refine tJ 0 hS ?_;refine tJ 1 hS ?_;refine tJ 2 hS ?_;refine tJ 3 hS ?_;refine tC (i:=4) 123 #[Go.Operand.tmp 23] #[.string xs[k].word] Tryz.call123 (fun w=>HW.out w) hS ?_;simp only [Act.put,pA,pB,pC];refine tJ 5 hS ?_;refine tJ 6 hS ?_;refine tJ 7 hS ?_;refine tJ 8 hS ?_;refine tJ 9 hS ?_;refine tJ 10 hS ?_;refine tC (i:=11) 61 #[Go.Operand.tmp 30,Go.Operand.const (Go.Value.int Go.IntKind.i64 0),Go.Operand.const (Go.Value.int Go.IntKind.i64 1000000)] #[.int .i64 xs[k].cost,.int .i64 0,.int .i64 1000000] Tryz.call61 (fun w=>HQ.out w) hS ?_;simp only [Act.put,pA,pB,pC];refine tJ 12 hS ?_;refine tJ 13 hS ?_;refine tJ 14 hS ?_;refine tJ 15 hS ?_;refine tJ 16 hS ?_;refine tJ 17 hS ?_;refine tJ 18 hS ?_;refine tJ 19 hS ?_;refine tJ 20 hS ?_;refine tJ 21 hS ?_;refine tJ 22 hS ?_;refine tJ 23 hS ?_;refine tJ 24 hS ?_;refine tJ 25 hS ?_;refine tJ 26 hS ?_;refine tJ 27 hS ?_;refine tJ 28 hS ?_;refine tJ 29 hS ?_;refine tJ 30 hS ?_;refine tJ 31 hS ?_;refine tJ 32 hS ?_;refine tJ 33 hS ?_;refine wpAnyH_done (by kernel_rfl) ?_ _
            go_wp2_with fail
            go_roundw
            case rel=>exact ⟨k+1,by omega,by go_num,HK,_,by first | rfl | exact World.drewN_drewN _ _ _⟩
            case measure=>simp [intOf]; omega
  · obtain rfl:k=xs.length:=by omega
    by_cases h60:xs.length≤60
    · have g6:((xs.length:Int)≤60)=True:=eq_true (by omega)
      have HF:Hid (lexB xs=true):=by show _=_; simp [lexB,hok.out,h60]
      clear h60 hr
      go_wp2_with fail
      go_ret;exact ⟨ret_boolI HF.out.symm,_,rfl⟩
    · have g6:((xs.length:Int)≤60)=False:=eq_false (by omega)
      have HF:Hid (lexB xs=false):=by show _=_; simp [lexB,h60]
      clear h60 hr
      go_wp2_with fail
      go_ret;exact ⟨ret_boolI HF.out.symm,_,rfl⟩
end Go.Proofs.YtalmeogjhmblhaaGreat

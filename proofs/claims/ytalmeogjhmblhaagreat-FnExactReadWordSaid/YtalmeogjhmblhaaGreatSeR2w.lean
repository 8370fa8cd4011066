/- The reference's own setups: models. Conditions: none. -/
import Derived.Test.YtalmeogjhmblhaaGreatTkw
import Derived.Test.YtalmeogjhmblhaaGreatSeModw
namespace Go.Proofs.YtalmeogjhmblhaaGreat
open Go Go.RowKit
set_option maxHeartbeats 8000000
set_option maxRecDepth 100000
theorem empty_is_nil (f:ByteArray):f.toList.isEmpty=decide (f=.empty):=by
 have:=str_eq f .empty;rw [show ByteArray.empty.toList=[] from by simp,List.beq_nil_eq] at this;exact this
theorem spec_l18First_c (f:ByteArray) (hs:f.size≤1048576) (w:World) :
 Calls Tryz.prog 212 #[.string f] w fun e w'=>e=.returned (.bool (decide (f=.empty) || isWordB f))∧w'=w:=by
 have C:=Lib.hid (spec_word_c f hs);have he:=empty_is_nil f;generalize decide (f=.empty)=d0 at he ⊢;generalize isWordB f=d1 at C ⊢;cases d0
 · go_enter Tryz.func212,Tryz.ntmps212
   go_wp2_with fail
   refine (C.out _).mono ?_;rintro e w1 ⟨rfl,rfl⟩
   go_wp2_with fail
   go_ret;exact ⟨rfl,rfl⟩
 · go_enter Tryz.func212,Tryz.ntmps212
   go_wp2_with fail
   go_ret;exact ⟨rfl,rfl⟩
theorem spec_l18Bigram_c (s:PBigram) (h1:s.first.size≤1048576) (h2:s.second.size≤1048576) {g f:Nat} (w:World) (c0:w.cell? ⟨g,f,none⟩=some (.string s.first)) (c1:w.cell? ⟨g,f+1,none⟩=some (.string s.second)) (c2:w.cell? ⟨g,f+2,none⟩=some (.int .i64 s.cost)) :
 Calls Tryz.prog 172 #[.pointer (some ⟨g,f,none⟩)] w fun e w'=>e=.returned (.bool (bigB s))∧w'=w:=by
 have C1:=Lib.hid (spec_l18First_c s.first h1);have C2:=Lib.hid (spec_word_c s.second h2);have C3:=Lib.hid (spec_cost_c s.cost)
 have hb:bigB s=((decide (s.first=.empty) || isWordB s.first) && (isWordB s.second && costB s.cost)):=by
  unfold bigB; cases isWordB s.second <;> cases (decide (s.first=.empty) || isWordB s.first) <;> rfl
 rw [hb];clear hb;generalize (decide (s.first=.empty) || isWordB s.first)=d1 at C1 ⊢;generalize isWordB s.second=d2 at C2 ⊢;generalize costB s.cost=d3 at C3 ⊢;cases d1
 · go_enter Tryz.func172,Tryz.ntmps172
   go_wp2_with fail
   refine (C1.out _).mono ?_;rintro e w1 ⟨rfl,rfl⟩
   go_wp2_with fail
   go_ret;exact ⟨rfl,rfl⟩
 · cases d2
   · go_enter Tryz.func172,Tryz.ntmps172
     go_wp2_with fail
     refine (C1.out _).mono ?_;rintro e w1 ⟨rfl,rfl⟩
     go_wp2_with fail
     refine (C2.out _).mono ?_;rintro e w1 ⟨rfl,rfl⟩
     go_wp2_with fail
     go_ret;exact ⟨rfl,rfl⟩
   · go_enter Tryz.func172,Tryz.ntmps172
     go_wp2_with fail
     refine (C1.out _).mono ?_;rintro e w1 ⟨rfl,rfl⟩
     go_wp2_with fail
     refine (C2.out _).mono ?_;rintro e w1 ⟨rfl,rfl⟩
     go_wp2_with fail
     refine (C3.out _).mono ?_;rintro e w1 ⟨rfl,rfl⟩
     go_wp2_with fail
     go_ret;exact ⟨rfl,rfl⟩
theorem spec_l18Before_c (x y:PBigram) {g f g' f':Nat} (w:World) (a0:w.cell? ⟨g,f,none⟩=some (.string x.first)) (a1:w.cell? ⟨g,f+1,none⟩=some (.string x.second)) (b0:w.cell? ⟨g',f',none⟩=some (.string y.first)) (b1:w.cell? ⟨g',f'+1,none⟩=some (.string y.second)) :
 Calls Tryz.prog 173 #[.pointer (some ⟨g,f,none⟩),.pointer (some ⟨g',f',none⟩)] w (GivesB (cLess (bigKey x) (bigKey y)) w):=by
 have hc:cLess (bigKey x) (bigKey y)=(bLess x.first y.first || (decide (x.first=y.first) && bLess x.second y.second)):=rfl;have he:=str_eq x.first y.first;cases h1:bLess x.first y.first
 · by_cases h2:x.first=y.first
   · rw [decide_eq_true h2] at he
     cases h3:bLess x.second y.second
     · have HF:Hid (cLess (bigKey x) (bigKey y)=false):=by show _=_; rw [hc,h1,h3]; simp
       unfold bLess at h1 h3;clear hc h2
       go_enter Tryz.func173,Tryz.ntmps173
       go_wp2_with fail
       have hS:(fun w':World=>w'.cell? ⟨g,f,none⟩=some (.string x.first)∧w'.cell? ⟨g,f+1,none⟩=some (.string x.second)∧w'.cell? ⟨g',f',none⟩=some (.string y.first)∧w'.cell? ⟨g',f'+1,none⟩=some (.string y.second)) w.drew:=⟨a0,a1,b0,b1⟩
       dsimp only at hS;refine wp_region_held_drew (S:=(fun w':World=>w'.cell? ⟨g,f,none⟩=some (.string x.first)∧w'.cell? ⟨g,f+1,none⟩=some (.string x.second)∧w'.cell? ⟨g',f',none⟩=some (.string y.first)∧w'.cell? ⟨g',f'+1,none⟩=some (.string y.second))) (by kernel_rfl) hS (fun _=>?_);refine tJ 0 hS ?_;refine tJ 1 hS ?_;refine tJ 2 hS ?_;refine tJ 3 hS ?_;refine tJ 4 hS ?_;refine tJ 5 hS ?_;refine tJ 6 hS ?_;refine tJ 7 hS ?_;refine tJ 8 hS ?_;refine tJ 9 hS ?_;refine tJ 10 hS ?_;refine tJ 11 hS ?_;refine tJ 12 hS ?_;refine tJ 13 hS ?_;refine tJ 14 hS ?_;refine tJ 15 hS ?_;refine tJ 16 hS ?_;refine tJ 17 hS ?_;refine tJ 18 hS ?_;refine tJ 19 hS ?_;refine tJ 20 hS ?_;refine tJ 21 hS ?_;refine tJ 22 hS ?_;refine tJ 23 hS ?_;refine tJ 24 hS ?_;refine tJ 25 hS ?_;refine tJ 26 hS ?_;refine tJ 27 hS ?_;refine tJ 28 hS ?_;refine tJ 29 hS ?_;refine tJ 30 hS ?_;refine tJ 31 hS ?_;refine wpAnyH_done (by kernel_rfl) ?_ _
       go_wp2_with fail
       go_ret;exact ⟨ret_boolI HF.out.symm,1,rfl⟩
     · have HF:Hid (cLess (bigKey x) (bigKey y)=true):=by show _=_; rw [hc,h1,h3,decide_eq_true h2]; rfl
       unfold bLess at h1 h3;clear hc h2
       go_enter Tryz.func173,Tryz.ntmps173
       go_wp2_with fail
       have hS:(fun w':World=>w'.cell? ⟨g,f,none⟩=some (.string x.first)∧w'.cell? ⟨g,f+1,none⟩=some (.string x.second)∧w'.cell? ⟨g',f',none⟩=some (.string y.first)∧w'.cell? ⟨g',f'+1,none⟩=some (.string y.second)) w.drew:=⟨a0,a1,b0,b1⟩
       dsimp only at hS;refine wp_region_held_drew (S:=(fun w':World=>w'.cell? ⟨g,f,none⟩=some (.string x.first)∧w'.cell? ⟨g,f+1,none⟩=some (.string x.second)∧w'.cell? ⟨g',f',none⟩=some (.string y.first)∧w'.cell? ⟨g',f'+1,none⟩=some (.string y.second))) (by kernel_rfl) hS (fun _=>?_);refine tJ 0 hS ?_;refine tJ 1 hS ?_;refine tJ 2 hS ?_;refine tJ 3 hS ?_;refine tJ 4 hS ?_;refine tJ 5 hS ?_;refine tJ 6 hS ?_;refine tJ 7 hS ?_;refine tJ 8 hS ?_;refine tJ 9 hS ?_;refine tJ 10 hS ?_;refine tJ 11 hS ?_;refine tJ 12 hS ?_;refine tJ 13 hS ?_;refine tJ 14 hS ?_;refine tJ 15 hS ?_;refine tJ 16 hS ?_;refine tJ 17 hS ?_;refine tJ 18 hS ?_;refine tJ 19 hS ?_;refine tJ 20 hS ?_;refine tJ 21 hS ?_;refine tJ 22 hS ?_;refine tJ 23 hS ?_;refine tJ 24 hS ?_;refine tJ 25 hS ?_;refine tJ 26 hS ?_;refine tJ 27 hS ?_;refine tJ 28 hS ?_;refine tJ 29 hS ?_;refine tJ 30 hS ?_;refine tJ 31 hS ?_;refine wpAnyH_done (by kernel_rfl) ?_ _
       go_wp2_with fail
       go_ret;exact ⟨ret_boolI HF.out.symm,1,rfl⟩
   · rw [decide_eq_false h2] at he
     have HF:Hid (cLess (bigKey x) (bigKey y)=false):=by show _=_; rw [hc,h1,decide_eq_false h2]; rfl
     unfold bLess at h1;clear hc h2
     go_enter Tryz.func173,Tryz.ntmps173
     go_wp2_with fail
     have hS:(fun w':World=>w'.cell? ⟨g,f,none⟩=some (.string x.first)∧w'.cell? ⟨g,f+1,none⟩=some (.string x.second)∧w'.cell? ⟨g',f',none⟩=some (.string y.first)∧w'.cell? ⟨g',f'+1,none⟩=some (.string y.second)) w.drew:=⟨a0,a1,b0,b1⟩
     dsimp only at hS;refine wp_region_held_drew (S:=(fun w':World=>w'.cell? ⟨g,f,none⟩=some (.string x.first)∧w'.cell? ⟨g,f+1,none⟩=some (.string x.second)∧w'.cell? ⟨g',f',none⟩=some (.string y.first)∧w'.cell? ⟨g',f'+1,none⟩=some (.string y.second))) (by kernel_rfl) hS (fun _=>?_);refine tJ 0 hS ?_;refine tJ 1 hS ?_;refine tJ 2 hS ?_;refine tJ 3 hS ?_;refine tJ 4 hS ?_;refine tJ 5 hS ?_;refine tJ 6 hS ?_;refine tJ 7 hS ?_;refine tJ 8 hS ?_;refine tJ 9 hS ?_;refine tJ 10 hS ?_;refine tJ 11 hS ?_;refine tJ 12 hS ?_;refine tJ 13 hS ?_;refine tJ 14 hS ?_;refine tJ 15 hS ?_;refine tJ 16 hS ?_;refine tJ 17 hS ?_;refine tJ 18 hS ?_;refine tJ 19 hS ?_;refine tJ0 20 hS ?_;refine tJ0 21 hS ?_;refine tJ0 22 hS ?_;refine tJ0 23 hS ?_;refine tJ0 24 hS ?_;refine tJ0 25 hS ?_;refine tJ0 26 hS ?_;refine tJ0 27 hS ?_;refine tJ0 28 hS ?_;refine tJ 29 hS ?_;refine tJ 30 hS ?_;refine tJ 31 hS ?_;refine wpAnyH_done (by kernel_rfl) ?_ _
     go_wp2_with fail
     go_ret;exact ⟨ret_boolI HF.out.symm,1,rfl⟩
 · have HF:Hid (cLess (bigKey x) (bigKey y)=true):=by show _=_; rw [hc,h1]; rfl
   unfold bLess at h1;clear hc he
   go_enter Tryz.func173,Tryz.ntmps173
   go_wp2_with fail
   have hS:(fun w':World=>w'.cell? ⟨g,f,none⟩=some (.string x.first)∧w'.cell? ⟨g,f+1,none⟩=some (.string x.second)∧w'.cell? ⟨g',f',none⟩=some (.string y.first)∧w'.cell? ⟨g',f'+1,none⟩=some (.string y.second)) w.drew:=⟨a0,a1,b0,b1⟩
   dsimp only at hS;refine wp_region_held_drew (S:=(fun w':World=>w'.cell? ⟨g,f,none⟩=some (.string x.first)∧w'.cell? ⟨g,f+1,none⟩=some (.string x.second)∧w'.cell? ⟨g',f',none⟩=some (.string y.first)∧w'.cell? ⟨g',f'+1,none⟩=some (.string y.second))) (by kernel_rfl) hS (fun _=>?_);refine tJ 0 hS ?_;refine tJ 1 hS ?_;refine tJ 2 hS ?_;refine tJ 3 hS ?_;refine tJ 4 hS ?_;refine tJ 5 hS ?_;refine tJ 6 hS ?_;refine tJ 7 hS ?_;refine tJ 8 hS ?_;refine tJ 9 hS ?_;refine tJ0 10 hS ?_;refine tJ0 11 hS ?_;refine tJ0 12 hS ?_;refine tJ0 13 hS ?_;refine tJ0 14 hS ?_;refine tJ0 15 hS ?_;refine tJ0 16 hS ?_;refine tJ0 17 hS ?_;refine tJ0 18 hS ?_;refine tJ0 19 hS ?_;refine tJ0 20 hS ?_;refine tJ0 21 hS ?_;refine tJ0 22 hS ?_;refine tJ0 23 hS ?_;refine tJ0 24 hS ?_;refine tJ0 25 hS ?_;refine tJ0 26 hS ?_;refine tJ0 27 hS ?_;refine tJ0 28 hS ?_;refine tJ0 29 hS ?_;refine tJ 30 hS ?_;refine tJ 31 hS ?_;refine wpAnyH_done (by kernel_rfl) ?_ _
   go_wp2_with fail
   go_ret;exact ⟨ret_boolI HF.out.symm,1,rfl⟩
theorem spec_l18Ok_c {o:Bool} {e:TypeId} {n:Int} {xs:List PBigram} {v:Value} {F:List Nat} {g f:Nat} (w:World) (c0:w.cell? ⟨g,f,none⟩=some (.int .i64 n)) (c1:w.cell? ⟨g,f+1,none⟩=some v) (h:(pBigrams e).rep o w xs [v] F) (hx:xs.length≤1048576) (hs:∀ l∈xs,l.first.size≤1048576∧l.second.size≤1048576) :
 Calls Tryz.prog 122 #[.pointer (some ⟨g,f,none⟩)] w (GivesB (modelB n xs) w):=by
 obtain ⟨A,c,rfl,hc1,hc2,hr⟩:=pBigrams_open h;clear h
 go_enter Tryz.func122,Tryz.ntmps122
 go_wp2_with fail
 go_loopw [3] (fun i wr=>∃ k:Nat,k≤xs.length∧i=.int .i64 k∧Hid (bigsOk xs k=true)∧∃ m,wr=w.drewN m) (fun i _=>xs.length - (intOf i).toNat)
 case atStart=>exact ⟨0,Nat.zero_le _,rfl,rfl,0,rfl⟩
 case round =>
  obtain ⟨k,hk,rfl,hok,m,rfl⟩:=hrel
  by_cases hlt:k < xs.length
  · obtain ⟨b,off,rfl,hbb,_,h0,h1,h2,_⟩:=hr k hlt
    have hsk:=hs _ (List.getElem_mem hlt);have HW:=Lib.hid (fun w'=>spec_l18Bigram_c xs[k] hsk.1 hsk.2 (g:=b) (f:=off+k * 3) w');have he:bigOk xs k=(bigB xs[k] && (decide (k=0) || cLess (bigKey (bigAt xs (k - 1))) (bigKey xs[k]))):=by rw [bigOk,bigAt_get hlt]
    have hs1:bigsOk xs (k+1)=(bigsOk xs k && bigOk xs k):=rfl;clear hsk;cases hw:bigB xs[k]
    · have HF:=Lib.hid (modelB_false (n:=n) hlt (by rw [he,hw]; rfl))
      simp only [hw] at HW;clear hr hw he hs1
      go_wp2_with fail
      have hS:(fun w':World=>w'.cell? ⟨b,off+k * 3,none⟩=some (.string xs[k].first)∧w'.cell? ⟨b,off+k * 3+1,none⟩=some (.string xs[k].second)∧w'.cell? ⟨b,off+k * 3+2,none⟩=some (.int .i64 xs[k].cost)∧w'.cell? ⟨g,f+1,none⟩=some (.slice (some ⟨b,off,none⟩) xs.length c)) (w.drewN m).drew:=⟨h0,h1,h2,c1⟩
      dsimp only at hS;refine wp_region_held_drew (S:=(fun w':World=>w'.cell? ⟨b,off+k * 3,none⟩=some (.string xs[k].first)∧w'.cell? ⟨b,off+k * 3+1,none⟩=some (.string xs[k].second)∧w'.cell? ⟨b,off+k * 3+2,none⟩=some (.int .i64 xs[k].cost)∧w'.cell? ⟨g,f+1,none⟩=some (.slice (some ⟨b,off,none⟩) xs.length c))) (by kernel_rfl) hS (fun _=>?_);refine tJ 0 hS ?_;refine tJ 1 hS ?_;refine tJ 2 hS ?_;refine tJ 3 hS ?_;refine tJ 4 hS ?_;refine tJ 5 hS ?_;refine rJ 6 fun K hK=>?_
      refine step_call 172 #[.tmp 18] _ rfl rfl #[.pointer (some ⟨b,off+k * 3,none⟩)] Tryz.call172 (by go_simp) (HW.out _ hS.1 hS.2.1 hS.2.2.1) ?_;rintro e w1 ⟨rfl,rfl⟩;refine ⟨_,rfl,?_⟩;refine bJ hK hS ?_;clear hK K;simp only [Act.put,pA,pB,pC];refine tJ 7 hS ?_;refine tJ 8 hS ?_;refine tJ0 9 hS ?_;refine tJ0 10 hS ?_;refine tJ0 11 hS ?_;refine tJ0 12 hS ?_;refine tJ0 13 hS ?_;refine tJ0 14 hS ?_;refine tJ0 15 hS ?_;refine tJ0 16 hS ?_;refine tJ0 17 hS ?_;refine tJ0 18 hS ?_;refine tJ0 19 hS ?_;refine tJ0 20 hS ?_;refine tJ0 21 hS ?_;refine tJ0 22 hS ?_;refine tJ0 23 hS ?_;refine tJ0 24 hS ?_;refine tJ0 25 hS ?_;refine tJ0 26 hS ?_;refine tJ0 27 hS ?_;refine tJ 28 hS ?_;refine wpAnyH_done (by kernel_rfl) ?_ _
      go_wp2_with fail
      go_ret;exact ⟨ret_boolI HF.out.symm,_,by first | rfl | exact World.drewN_drewN _ _ _ | exact (show ((w.drewN m).drewN 1).drewN m2=_ from (World.drewN_drewN _ _ _).trans (World.drewN_drewN _ _ _))⟩
    · simp only [hw] at HW
      by_cases hz:k=0
      · have HK:Hid (bigsOk xs (k+1)=true):=by show _=_; rw [hs1,hok.out,he,hw]; simp [hz]
        have g0:(0 < k)=False:=eq_false (by omega);clear hr hz hw he hs1
        go_wp2_with fail
        have hS:(fun w':World=>w'.cell? ⟨b,off+k * 3,none⟩=some (.string xs[k].first)∧w'.cell? ⟨b,off+k * 3+1,none⟩=some (.string xs[k].second)∧w'.cell? ⟨b,off+k * 3+2,none⟩=some (.int .i64 xs[k].cost)∧w'.cell? ⟨g,f+1,none⟩=some (.slice (some ⟨b,off,none⟩) xs.length c)) (w.drewN m).drew:=⟨h0,h1,h2,c1⟩
        dsimp only at hS;refine wp_region_held_drew (S:=(fun w':World=>w'.cell? ⟨b,off+k * 3,none⟩=some (.string xs[k].first)∧w'.cell? ⟨b,off+k * 3+1,none⟩=some (.string xs[k].second)∧w'.cell? ⟨b,off+k * 3+2,none⟩=some (.int .i64 xs[k].cost)∧w'.cell? ⟨g,f+1,none⟩=some (.slice (some ⟨b,off,none⟩) xs.length c))) (by kernel_rfl) hS (fun _=>?_);refine tJ 0 hS ?_;refine tJ 1 hS ?_;refine tJ 2 hS ?_;refine tJ 3 hS ?_;refine tJ 4 hS ?_;refine tJ 5 hS ?_;refine rJ 6 fun K hK=>?_
        refine step_call 172 #[.tmp 18] _ rfl rfl #[.pointer (some ⟨b,off+k * 3,none⟩)] Tryz.call172 (by go_simp) (HW.out _ hS.1 hS.2.1 hS.2.2.1) ?_;rintro e w1 ⟨rfl,rfl⟩;refine ⟨_,rfl,?_⟩;refine bJ hK hS ?_;clear hK K;simp only [Act.put,pA,pB,pC];refine tJ 7 hS ?_;refine tJ 8 hS ?_;refine tJ 9 hS ?_;refine tJ 10 hS ?_;refine tJ 11 hS ?_;refine tJ0 12 hS ?_;refine tJ0 13 hS ?_;refine tJ0 14 hS ?_;refine tJ0 15 hS ?_;refine tJ0 16 hS ?_;refine tJ0 17 hS ?_;refine tJ0 18 hS ?_;refine tJ0 19 hS ?_;refine tJ0 20 hS ?_;refine tJ0 21 hS ?_;refine tJ0 22 hS ?_;refine tJ0 23 hS ?_;refine tJ0 24 hS ?_;refine tJ0 25 hS ?_;refine tJ0 26 hS ?_;refine tJ 27 hS ?_;refine tJ 28 hS ?_;refine wpAnyH_done (by kernel_rfl) ?_ _
        go_wp2_with fail
        go_roundw
        case rel=>exact ⟨k+1,by omega,by go_num,HK,_,by first | rfl | exact World.drewN_drewN _ _ _ | exact (show ((w.drewN m).drewN 1).drewN m2=_ from (World.drewN_drewN _ _ _).trans (World.drewN_drewN _ _ _))⟩
        case measure=>simp [intOf]; omega
      · obtain ⟨j,hj⟩:∃ j,k=j+1:=⟨k - 1,by omega⟩
        have jl:j < xs.length:=by omega
        obtain ⟨b',off',e',hbb',_,h3,h4,_⟩:=hr j jl;injection e' with e'
        injection e' with e1 e2 _
        subst e1; subst e2
        have g0:(0 < k)=True:=eq_true (by omega);have gj:IntKind.i64.wrap ((k:Int) - 1)=(j:Int):=(IntWalk.i64_in _ (by omega)).trans (by omega);have jl':(j:Int) < (xs.length:Int):=by omega
        have j0:(0:Int)≤(j:Int):=by omega
        have hen:bigAt xs (k - 1)=xs[j]:=by subst hj; exact bigAt_get jl
        have dk:decide (k=0)=false:=decide_eq_false hz;rw [hen,hw,dk] at he;have HC:=Lib.hid (fun w'=>spec_l18Before_c xs[j] xs[k] (g:=b) (f:=off+j * 3) (g':=b) (f':=off+k * 3) w');clear hr;cases hlw:cLess (bigKey xs[j]) (bigKey xs[k])
        · have HF:=Lib.hid (modelB_false (n:=n) hlt (by rw [he,hlw]; rfl))
          simp only [hlw] at HC;have HJ:=Lib.hid hj;clear hj hz hw he hs1 hen dk hlw
          go_wp2_with fail
          have hS:(fun w':World=>w'.cell? ⟨b,off+k * 3,none⟩=some (.string xs[k].first)∧w'.cell? ⟨b,off+k * 3+1,none⟩=some (.string xs[k].second)∧w'.cell? ⟨b,off+k * 3+2,none⟩=some (.int .i64 xs[k].cost)∧w'.cell? ⟨g,f+1,none⟩=some (.slice (some ⟨b,off,none⟩) xs.length c)∧w'.cell? ⟨b,off+j * 3,none⟩=some (.string xs[j].first)∧w'.cell? ⟨b,off+j * 3+1,none⟩=some (.string xs[j].second)) (w.drewN m).drew:=⟨h0,h1,h2,c1,h3,h4⟩
          dsimp only at hS;refine wp_region_held_drew (S:=(fun w':World=>w'.cell? ⟨b,off+k * 3,none⟩=some (.string xs[k].first)∧w'.cell? ⟨b,off+k * 3+1,none⟩=some (.string xs[k].second)∧w'.cell? ⟨b,off+k * 3+2,none⟩=some (.int .i64 xs[k].cost)∧w'.cell? ⟨g,f+1,none⟩=some (.slice (some ⟨b,off,none⟩) xs.length c)∧w'.cell? ⟨b,off+j * 3,none⟩=some (.string xs[j].first)∧w'.cell? ⟨b,off+j * 3+1,none⟩=some (.string xs[j].second))) (by kernel_rfl) hS (fun _=>?_);refine tJ 0 hS ?_;refine tJ 1 hS ?_;refine tJ 2 hS ?_;refine tJ 3 hS ?_;refine tJ 4 hS ?_;refine tJ 5 hS ?_;refine rJ 6 fun K hK=>?_
          refine step_call 172 #[.tmp 18] _ rfl rfl #[.pointer (some ⟨b,off+k * 3,none⟩)] Tryz.call172 (by go_simp) (HW.out _ hS.1 hS.2.1 hS.2.2.1) ?_;rintro e w1 ⟨rfl,rfl⟩;refine ⟨_,rfl,?_⟩;refine bJ hK hS ?_;clear hK K;simp only [Act.put,pA,pB,pC];refine tJ 7 hS ?_;refine tJ 8 hS ?_;refine tJ 9 hS ?_;refine tJ 10 hS ?_;refine tJ 11 hS ?_;refine tJ 12 hS ?_;refine tJ 13 hS ?_;refine tJ 14 hS ?_;refine tJ 15 hS ?_;refine tJ 16 hS ?_;refine tJ 17 hS ?_;refine tJ 18 hS ?_;refine tJ 19 hS ?_;refine tJ 20 hS ?_;refine tJ 21 hS ?_;refine tJ 22 hS ?_;refine tJ 23 hS ?_;refine tJ 24 hS ?_;refine rJ 25 fun K hK=>?_
          refine step_call 173 #[.tmp 31,.tmp 37] _ rfl rfl #[.pointer (some ⟨b,off+j * 3,none⟩),.pointer (some ⟨b,off+k * 3,none⟩)] Tryz.call173 (by go_simp) (HC.out _ hS.2.2.2.2.1 hS.2.2.2.2.2 hS.1 hS.2.1) ?_;rintro e w1 ⟨rfl,m2,rfl⟩;refine ⟨_,rfl,?_⟩;replace hS:(fun w':World=>w'.cell? ⟨b,off+k * 3,none⟩=some (.string xs[k].first)∧w'.cell? ⟨b,off+k * 3+1,none⟩=some (.string xs[k].second)∧w'.cell? ⟨b,off+k * 3+2,none⟩=some (.int .i64 xs[k].cost)∧w'.cell? ⟨g,f+1,none⟩=some (.slice (some ⟨b,off,none⟩) xs.length c)∧w'.cell? ⟨b,off+j * 3,none⟩=some (.string xs[j].first)∧w'.cell? ⟨b,off+j * 3+1,none⟩=some (.string xs[j].second)) (((w.drewN m).drew).drewN m2):=hS;dsimp only at hS;refine bJ hK hS ?_;clear hK K;simp only [Act.put,pA,pB,pC];refine tJ 26 hS ?_;refine tJ 27 hS ?_;refine tJ 28 hS ?_;refine wpAnyH_done (by kernel_rfl) ?_ _
          go_wp2_with fail
          go_ret;exact ⟨ret_boolI HF.out.symm,_,by first | rfl | exact World.drewN_drewN _ _ _ | exact (show ((w.drewN m).drewN 1).drewN m2=_ from (World.drewN_drewN _ _ _).trans (World.drewN_drewN _ _ _))⟩
        · have HK:Hid (bigsOk xs (k+1)=true):=by show _=_; rw [hs1,hok.out,he,hlw]; rfl
          simp only [hlw] at HC;have HJ:=Lib.hid hj;clear hj hz hw he hs1 hen dk hlw
          go_wp2_with fail
          have hS:(fun w':World=>w'.cell? ⟨b,off+k * 3,none⟩=some (.string xs[k].first)∧w'.cell? ⟨b,off+k * 3+1,none⟩=some (.string xs[k].second)∧w'.cell? ⟨b,off+k * 3+2,none⟩=some (.int .i64 xs[k].cost)∧w'.cell? ⟨g,f+1,none⟩=some (.slice (some ⟨b,off,none⟩) xs.length c)∧w'.cell? ⟨b,off+j * 3,none⟩=some (.string xs[j].first)∧w'.cell? ⟨b,off+j * 3+1,none⟩=some (.string xs[j].second)) (w.drewN m).drew:=⟨h0,h1,h2,c1,h3,h4⟩
          dsimp only at hS;refine wp_region_held_drew (S:=(fun w':World=>w'.cell? ⟨b,off+k * 3,none⟩=some (.string xs[k].first)∧w'.cell? ⟨b,off+k * 3+1,none⟩=some (.string xs[k].second)∧w'.cell? ⟨b,off+k * 3+2,none⟩=some (.int .i64 xs[k].cost)∧w'.cell? ⟨g,f+1,none⟩=some (.slice (some ⟨b,off,none⟩) xs.length c)∧w'.cell? ⟨b,off+j * 3,none⟩=some (.string xs[j].first)∧w'.cell? ⟨b,off+j * 3+1,none⟩=some (.string xs[j].second))) (by kernel_rfl) hS (fun _=>?_);refine tJ 0 hS ?_;refine tJ 1 hS ?_;refine tJ 2 hS ?_;refine tJ 3 hS ?_;refine tJ 4 hS ?_;refine tJ 5 hS ?_;refine rJ 6 fun K hK=>?_
          refine step_call 172 #[.tmp 18] _ rfl rfl #[.pointer (some ⟨b,off+k * 3,none⟩)] Tryz.call172 (by go_simp) (HW.out _ hS.1 hS.2.1 hS.2.2.1) ?_;rintro e w1 ⟨rfl,rfl⟩;refine ⟨_,rfl,?_⟩;refine bJ hK hS ?_;clear hK K;simp only [Act.put,pA,pB,pC];refine tJ 7 hS ?_;refine tJ 8 hS ?_;refine tJ 9 hS ?_;refine tJ 10 hS ?_;refine tJ 11 hS ?_;refine tJ 12 hS ?_;refine tJ 13 hS ?_;refine tJ 14 hS ?_;refine tJ 15 hS ?_;refine tJ 16 hS ?_;refine tJ 17 hS ?_;refine tJ 18 hS ?_;refine tJ 19 hS ?_;refine tJ 20 hS ?_;refine tJ 21 hS ?_;refine tJ 22 hS ?_;refine tJ 23 hS ?_;refine tJ 24 hS ?_;refine rJ 25 fun K hK=>?_
          refine step_call 173 #[.tmp 31,.tmp 37] _ rfl rfl #[.pointer (some ⟨b,off+j * 3,none⟩),.pointer (some ⟨b,off+k * 3,none⟩)] Tryz.call173 (by go_simp) (HC.out _ hS.2.2.2.2.1 hS.2.2.2.2.2 hS.1 hS.2.1) ?_;rintro e w1 ⟨rfl,m2,rfl⟩;refine ⟨_,rfl,?_⟩;replace hS:(fun w':World=>w'.cell? ⟨b,off+k * 3,none⟩=some (.string xs[k].first)∧w'.cell? ⟨b,off+k * 3+1,none⟩=some (.string xs[k].second)∧w'.cell? ⟨b,off+k * 3+2,none⟩=some (.int .i64 xs[k].cost)∧w'.cell? ⟨g,f+1,none⟩=some (.slice (some ⟨b,off,none⟩) xs.length c)∧w'.cell? ⟨b,off+j * 3,none⟩=some (.string xs[j].first)∧w'.cell? ⟨b,off+j * 3+1,none⟩=some (.string xs[j].second)) (((w.drewN m).drew).drewN m2):=hS;dsimp only at hS;refine bJ hK hS ?_;clear hK K;simp only [Act.put,pA,pB,pC];refine tJ 26 hS ?_;refine tJ 27 hS ?_;refine tJ 28 hS ?_;refine wpAnyH_done (by kernel_rfl) ?_ _
          go_wp2_with fail
          go_roundw
          case rel=>exact ⟨k+1,by omega,by go_num,HK,_,by first | rfl | exact World.drewN_drewN _ _ _ | exact (show ((w.drewN m).drewN 1).drewN m2=_ from (World.drewN_drewN _ _ _).trans (World.drewN_drewN _ _ _))⟩
          case measure=>simp [intOf]; omega
  · obtain rfl:k=xs.length:=by omega
    have HQ:=Lib.hid (spec_cost_c n);cases hq:costB n
    · have HF:Hid (modelB n xs=false):=by show _=_; simp [modelB,hq]
      simp only [hq] at HQ;clear hr hq
      go_wp2_with fail
      refine (HQ.out _).mono ?_;rintro e w1 ⟨rfl,rfl⟩
      go_wp2_with fail
      go_ret;exact ⟨ret_boolI HF.out.symm,_,rfl⟩
    · simp only [hq] at HQ
      by_cases h60:xs.length≤60
      · have g6:((xs.length:Int)≤60)=True:=eq_true (by omega)
        have HF:Hid (modelB n xs=true):=by show _=_; simp [modelB,hok.out,h60,hq]
        clear h60 hr hq
        go_wp2_with fail
        refine (HQ.out _).mono ?_;rintro e w1 ⟨rfl,rfl⟩
        go_wp2_with fail
        go_ret;exact ⟨ret_boolI HF.out.symm,_,rfl⟩
      · have g6:((xs.length:Int)≤60)=False:=eq_false (by omega)
        have HF:Hid (modelB n xs=false):=by show _=_; simp [modelB,h60]
        clear h60 hr hq
        go_wp2_with fail
        refine (HQ.out _).mono ?_;rintro e w1 ⟨rfl,rfl⟩
        go_wp2_with fail
        go_ret;exact ⟨ret_boolI HF.out.symm,_,rfl⟩
theorem impl_ValidSetup_c {o:Bool} {ef et ee eb:TypeId} {p:PSetup} {a b c:Value} {F1 F2 F3:List Nat} (w:World) (h1:(pTemps ef et).rep o w p.temps [a] F1) (h2:(pEntrys ee).rep o w p.entries [b] F2) (h3:(pBigrams eb).rep o w p.bigrams [c] F3) (hp:SeSmall p) (hb:SeBytes p) :
 Calls Tryz.prog 76 #[.agg #[.int .i64 p.band,a,.int .i64 p.points,.int .i64 p.most,.int .i64 p.pen,b,.int .i64 p.dflt,c,.int .i64 p.pause]] w fun e w'=>e=.returned (.bool (setupB p))∧Below w.heap.size w w':=by
 obtain ⟨Aa,ka,rfl⟩:=slice_len h1;obtain ⟨Ab,kb,rfl⟩:=slice_len h2;obtain ⟨Ac,kc,rfl⟩:=slice_len h3;unfold setupB;have C0:=Lib.hid (fun w' (q0:(pTemps ef et).rep o w' p.temps [.slice Aa p.temps.length ka] F1)  => impl_ValidStore_c (p:=p) w' q0 hp hb);have C1:=Lib.hid (fun w'   => impl_ValidSetting_c ⟨p.points,p.most,p.pen⟩ w');have C2:=Lib.hid (fun w' (q0:(pEntrys ee).rep o w' p.entries [.slice Ab p.entries.length kb] F2)  => impl_ValidLexicon_c w' q0 hp.e hb.e);have C3:=Lib.hid (fun w' (q0:(pBigrams eb).rep o w' p.bigrams [.slice Ac p.bigrams.length kc] F3)  => impl_ValidModel_c (n:=p.dflt) w' q0 hp.b hb.b);have C4:=Lib.hid (fun w'   => impl_inR_c p.pause 1 60000 w');generalize storeB p=d0 at *;generalize settingB ⟨p.points,p.most,p.pen⟩=d1 at *;generalize lexB p.entries=d2 at *;generalize modelB p.dflt p.bigrams=d3 at *;generalize inR p.pause 1 60000=d4 at *;have R0:=Row.new w 56 #[.int .i64 p.band,.slice Aa p.temps.length ka,.int .i64 p.points,.int .i64 p.most,.int .i64 p.pen,.slice Ab p.entries.length kb,.int .i64 p.dflt,.slice Ac p.bigrams.length kc,.int .i64 p.pause];have bb0:Below w.heap.size w (w.alloc (.cells #[.int .i64 p.band,.slice Aa p.temps.length ka,.int .i64 p.points,.int .i64 p.most,.int .i64 p.pen,.slice Ab p.entries.length kb,.int .i64 p.dflt,.slice Ac p.bigrams.length kc,.int .i64 p.pause] 56)):=(Below.refl _ _).alloc (Nat.le_refl _) _;replace h1:=h1.alloc (.cells #[.int .i64 p.band,.slice Aa p.temps.length ka,.int .i64 p.points,.int .i64 p.most,.int .i64 p.pen,.slice Ab p.entries.length kb,.int .i64 p.dflt,.slice Ac p.bigrams.length kc,.int .i64 p.pause] 56);replace h2:=h2.alloc (.cells #[.int .i64 p.band,.slice Aa p.temps.length ka,.int .i64 p.points,.int .i64 p.most,.int .i64 p.pen,.slice Ab p.entries.length kb,.int .i64 p.dflt,.slice Ac p.bigrams.length kc,.int .i64 p.pause] 56);replace h3:=h3.alloc (.cells #[.int .i64 p.band,.slice Aa p.temps.length ka,.int .i64 p.points,.int .i64 p.most,.int .i64 p.pen,.slice Ab p.entries.length kb,.int .i64 p.dflt,.slice Ac p.bigrams.length kc,.int .i64 p.pause] 56);cases d0
 · go_enter Tryz.func76,Tryz.ntmps76
   go_wp2_with fail
   refine (C0.out _ h1).mono ?_;rintro e w1 ⟨rfl,b1⟩;replace bb0:=bb0.trans (b1.mono bb0.size)
   go_wp2_with fail
   go_ret
   first | exact ⟨rfl,bb0⟩ | exact ⟨rfl,by simpa only [World.drewN_drewN] using bb0⟩
 · skip
   cases d1
   · go_enter Tryz.func76,Tryz.ntmps76
     go_wp2_with fail
     refine (C0.out _ h1).mono ?_;rintro e w1 ⟨rfl,b1⟩;replace bb0:=bb0.trans (b1.mono bb0.size);replace R0:=R0.later b1;have qr0:=R0.c0;have qr1:=R0.c1;have qr2:=R0.c2;have qr3:=R0.c3;have qr4:=R0.c4;have qr5:=R0.c5;have qr6:=R0.cell' (i:=6) rfl;have qr7:=R0.cell' (i:=7) rfl;have qr8:=R0.cell' (i:=8) rfl;replace h1:=h1.below b1;replace h2:=h2.below b1;replace h3:=h3.below b1
     go_wp2_with fail
     refine (C1.out _ ).mono ?_;rintro e w2 ⟨rfl,b2⟩;replace bb0:=bb0.trans (b2.mono bb0.size)
     go_wp2_with fail
     go_ret
     first | exact ⟨rfl,bb0⟩ | exact ⟨rfl,by simpa only [World.drewN_drewN] using bb0⟩
   · skip
     cases d2
     · go_enter Tryz.func76,Tryz.ntmps76
       go_wp2_with fail
       refine (C0.out _ h1).mono ?_;rintro e w1 ⟨rfl,b1⟩;replace bb0:=bb0.trans (b1.mono bb0.size);replace R0:=R0.later b1;have qr0:=R0.c0;have qr1:=R0.c1;have qr2:=R0.c2;have qr3:=R0.c3;have qr4:=R0.c4;have qr5:=R0.c5;have qr6:=R0.cell' (i:=6) rfl;have qr7:=R0.cell' (i:=7) rfl;have qr8:=R0.cell' (i:=8) rfl;replace h1:=h1.below b1;replace h2:=h2.below b1;replace h3:=h3.below b1
       go_wp2_with fail
       refine (C1.out _ ).mono ?_;rintro e w2 ⟨rfl,b2⟩;replace bb0:=bb0.trans (b2.mono bb0.size);replace R0:=R0.later b2;clear qr0 qr1 qr2 qr3 qr4 qr5 qr6 qr7 qr8;have qr0:=R0.c0;have qr1:=R0.c1;have qr2:=R0.c2;have qr3:=R0.c3;have qr4:=R0.c4;have qr5:=R0.c5;have qr6:=R0.cell' (i:=6) rfl;have qr7:=R0.cell' (i:=7) rfl;have qr8:=R0.cell' (i:=8) rfl;replace h1:=h1.below b2;replace h2:=h2.below b2;replace h3:=h3.below b2
       go_wp2_with fail
       refine (C2.out _ h2).mono ?_;rintro e w3 ⟨rfl,b3⟩;replace bb0:=bb0.trans (b3.mono bb0.size)
       go_wp2_with fail
       go_ret
       first | exact ⟨rfl,bb0⟩ | exact ⟨rfl,by simpa only [World.drewN_drewN] using bb0⟩
     · skip
       cases d3
       · go_enter Tryz.func76,Tryz.ntmps76
         go_wp2_with fail
         refine (C0.out _ h1).mono ?_;rintro e w1 ⟨rfl,b1⟩;replace bb0:=bb0.trans (b1.mono bb0.size);replace R0:=R0.later b1;have qr0:=R0.c0;have qr1:=R0.c1;have qr2:=R0.c2;have qr3:=R0.c3;have qr4:=R0.c4;have qr5:=R0.c5;have qr6:=R0.cell' (i:=6) rfl;have qr7:=R0.cell' (i:=7) rfl;have qr8:=R0.cell' (i:=8) rfl;replace h1:=h1.below b1;replace h2:=h2.below b1;replace h3:=h3.below b1
         go_wp2_with fail
         refine (C1.out _ ).mono ?_;rintro e w2 ⟨rfl,b2⟩;replace bb0:=bb0.trans (b2.mono bb0.size);replace R0:=R0.later b2;clear qr0 qr1 qr2 qr3 qr4 qr5 qr6 qr7 qr8;have qr0:=R0.c0;have qr1:=R0.c1;have qr2:=R0.c2;have qr3:=R0.c3;have qr4:=R0.c4;have qr5:=R0.c5;have qr6:=R0.cell' (i:=6) rfl;have qr7:=R0.cell' (i:=7) rfl;have qr8:=R0.cell' (i:=8) rfl;replace h1:=h1.below b2;replace h2:=h2.below b2;replace h3:=h3.below b2
         go_wp2_with fail
         refine (C2.out _ h2).mono ?_;rintro e w3 ⟨rfl,b3⟩;replace bb0:=bb0.trans (b3.mono bb0.size);replace R0:=R0.later b3;clear qr0 qr1 qr2 qr3 qr4 qr5 qr6 qr7 qr8;have qr0:=R0.c0;have qr1:=R0.c1;have qr2:=R0.c2;have qr3:=R0.c3;have qr4:=R0.c4;have qr5:=R0.c5;have qr6:=R0.cell' (i:=6) rfl;have qr7:=R0.cell' (i:=7) rfl;have qr8:=R0.cell' (i:=8) rfl;replace h1:=h1.below b3;replace h2:=h2.below b3;replace h3:=h3.below b3
         go_wp2_with fail
         refine (C3.out _ h3).mono ?_;rintro e w4 ⟨rfl,b4⟩;replace bb0:=bb0.trans (b4.mono bb0.size)
         go_wp2_with fail
         go_ret
         first | exact ⟨rfl,bb0⟩ | exact ⟨rfl,by simpa only [World.drewN_drewN] using bb0⟩
       · skip
         go_enter Tryz.func76,Tryz.ntmps76
         go_wp2_with fail
         refine (C0.out _ h1).mono ?_;rintro e w1 ⟨rfl,b1⟩;replace bb0:=bb0.trans (b1.mono bb0.size);replace R0:=R0.later b1;have qr0:=R0.c0;have qr1:=R0.c1;have qr2:=R0.c2;have qr3:=R0.c3;have qr4:=R0.c4;have qr5:=R0.c5;have qr6:=R0.cell' (i:=6) rfl;have qr7:=R0.cell' (i:=7) rfl;have qr8:=R0.cell' (i:=8) rfl;replace h1:=h1.below b1;replace h2:=h2.below b1;replace h3:=h3.below b1
         go_wp2_with fail
         refine (C1.out _ ).mono ?_;rintro e w2 ⟨rfl,b2⟩;replace bb0:=bb0.trans (b2.mono bb0.size);replace R0:=R0.later b2;clear qr0 qr1 qr2 qr3 qr4 qr5 qr6 qr7 qr8;have qr0:=R0.c0;have qr1:=R0.c1;have qr2:=R0.c2;have qr3:=R0.c3;have qr4:=R0.c4;have qr5:=R0.c5;have qr6:=R0.cell' (i:=6) rfl;have qr7:=R0.cell' (i:=7) rfl;have qr8:=R0.cell' (i:=8) rfl;replace h1:=h1.below b2;replace h2:=h2.below b2;replace h3:=h3.below b2
         go_wp2_with fail
         refine (C2.out _ h2).mono ?_;rintro e w3 ⟨rfl,b3⟩;replace bb0:=bb0.trans (b3.mono bb0.size);replace R0:=R0.later b3;clear qr0 qr1 qr2 qr3 qr4 qr5 qr6 qr7 qr8;have qr0:=R0.c0;have qr1:=R0.c1;have qr2:=R0.c2;have qr3:=R0.c3;have qr4:=R0.c4;have qr5:=R0.c5;have qr6:=R0.cell' (i:=6) rfl;have qr7:=R0.cell' (i:=7) rfl;have qr8:=R0.cell' (i:=8) rfl;replace h1:=h1.below b3;replace h2:=h2.below b3;replace h3:=h3.below b3
         go_wp2_with fail
         refine (C3.out _ h3).mono ?_;rintro e w4 ⟨rfl,b4⟩;replace bb0:=bb0.trans (b4.mono bb0.size);replace R0:=R0.later b4;clear qr0 qr1 qr2 qr3 qr4 qr5 qr6 qr7 qr8;have qr0:=R0.c0;have qr1:=R0.c1;have qr2:=R0.c2;have qr3:=R0.c3;have qr4:=R0.c4;have qr5:=R0.c5;have qr6:=R0.cell' (i:=6) rfl;have qr7:=R0.cell' (i:=7) rfl;have qr8:=R0.cell' (i:=8) rfl;replace h1:=h1.below b4;replace h2:=h2.below b4;replace h3:=h3.below b4
         go_wp2_with fail
         refine (C4.out _ ).mono ?_;rintro e w5 ⟨rfl,rfl⟩
         go_wp2_with fail
         go_ret
         first | exact ⟨rfl,bb0⟩ | exact ⟨rfl,by simpa only [World.drewN_drewN] using bb0⟩
theorem spec_l26Setup_c {o:Bool} {ef et ee eb:TypeId} {p:PSetup} {a b c:Value} {F1 F2 F3:List Nat} {g f:Nat} (w:World) (hg:g < w.heap.size) (c0:w.cell? ⟨g,f,none⟩=some (.int .i64 p.band)) (c1:w.cell? ⟨g,f+1,none⟩=some (a)) (c2:w.cell? ⟨g,f+2,none⟩=some (.int .i64 p.points)) (c3:w.cell? ⟨g,f+3,none⟩=some (.int .i64 p.most)) (c4:w.cell? ⟨g,f+4,none⟩=some (.int .i64 p.pen)) (c5:w.cell? ⟨g,f+5,none⟩=some (b)) (c6:w.cell? ⟨g,f+6,none⟩=some (.int .i64 p.dflt)) (c7:w.cell? ⟨g,f+7,none⟩=some (c)) (c8:w.cell? ⟨g,f+8,none⟩=some (.int .i64 p.pause)) (h1:(pTemps ef et).rep o w p.temps [a] F1) (h2:(pEntrys ee).rep o w p.entries [b] F2) (h3:(pBigrams eb).rep o w p.bigrams [c] F3) (hp:SeSmall p) (hb:SeBytes p) :
 Calls Tryz.prog 59 #[.pointer (some ⟨g,f,none⟩)] w fun e w'=>e=.returned (.bool (setupB p))∧Below w.heap.size w w':=by
 obtain ⟨Aa,ka,rfl⟩:=slice_len h1;obtain ⟨Ab,kb,rfl⟩:=slice_len h2;obtain ⟨Ac,kc,rfl⟩:=slice_len h3;unfold setupB;have C0:=Lib.hid (fun w' (q0:(pTemps ef et).rep o w' p.temps [.slice Aa p.temps.length ka] F1) (k0:g < w'.heap.size) (k1:w'.cell? ⟨g,f,none⟩=some (.int .i64 p.band)) (k2:w'.cell? ⟨g,f+1,none⟩=some (.slice Aa p.temps.length ka))=>spec_l11Ok_c (p:=p) (g:=g) (f:=f) w' k0 k1 k2 q0 hp hb);have C1:=Lib.hid (fun w'  (k0:w'.cell? ⟨g,f+2,none⟩=some (.int .i64 p.points)) (k1:w'.cell? ⟨g,f+3,none⟩=some (.int .i64 p.most)) (k2:w'.cell? ⟨g,f+4,none⟩=some (.int .i64 p.pen))=>spec_l13Setting_c ⟨p.points,p.most,p.pen⟩ (g:=g) (f:=f+2) w' k0 k1 k2);have C2:=Lib.hid (fun w' (q0:(pEntrys ee).rep o w' p.entries [.slice Ab p.entries.length kb] F2) (k0:w'.cell? ⟨g,f+5,none⟩=some (.slice Ab p.entries.length kb))=>spec_l16Ok_c (g:=g) (f:=f+5) w' k0 q0 hp.e hb.e);have C3:=Lib.hid (fun w' (q0:(pBigrams eb).rep o w' p.bigrams [.slice Ac p.bigrams.length kc] F3) (k0:w'.cell? ⟨g,f+6,none⟩=some (.int .i64 p.dflt)) (k1:w'.cell? ⟨g,f+7,none⟩=some (.slice Ac p.bigrams.length kc))=>spec_l18Ok_c (n:=p.dflt) (g:=g) (f:=f+6) w' k0 k1 q0 hp.b hb.b);have C4:=Lib.hid (fun w'   => spec_inR_c p.pause 1 60000 w');generalize storeB p=d0 at *;generalize settingB ⟨p.points,p.most,p.pen⟩=d1 at *;generalize lexB p.entries=d2 at *;generalize modelB p.dflt p.bigrams=d3 at *;generalize inR p.pause 1 60000=d4 at *;have bb0:Below w.heap.size w w:=Below.refl _ _;cases d0
 · go_enter Tryz.func59,Tryz.ntmps59
   go_wp2_with fail
   refine (C0.out _ h1 hg c0 c1).mono ?_;rintro e w1 ⟨rfl,b1⟩;replace bb0:=bb0.trans (b1.mono bb0.size)
   go_wp2_with fail
   go_ret
   first | exact ⟨rfl,bb0⟩ | exact ⟨rfl,by simpa only [World.drewN_drewN] using bb0⟩
 · skip
   cases d1
   · go_enter Tryz.func59,Tryz.ntmps59
     go_wp2_with fail
     refine (C0.out _ h1 hg c0 c1).mono ?_;rintro e w1 ⟨rfl,b1⟩;replace bb0:=bb0.trans (b1.mono bb0.size);replace c0:=(b1.cell (p:=⟨_,_,none⟩) hg).trans c0;replace c1:=(b1.cell (p:=⟨_,_,none⟩) hg).trans c1;replace c2:=(b1.cell (p:=⟨_,_,none⟩) hg).trans c2;replace c3:=(b1.cell (p:=⟨_,_,none⟩) hg).trans c3;replace c4:=(b1.cell (p:=⟨_,_,none⟩) hg).trans c4;replace c5:=(b1.cell (p:=⟨_,_,none⟩) hg).trans c5;replace c6:=(b1.cell (p:=⟨_,_,none⟩) hg).trans c6;replace c7:=(b1.cell (p:=⟨_,_,none⟩) hg).trans c7;replace c8:=(b1.cell (p:=⟨_,_,none⟩) hg).trans c8;replace hg:=Nat.lt_of_lt_of_le hg b1.size;replace h1:=h1.below b1;replace h2:=h2.below b1;replace h3:=h3.below b1
     go_wp2_with fail
     refine (C1.out _ c2 c3 c4).mono ?_;rintro e w2 ⟨rfl,rfl⟩
     go_wp2_with fail
     go_ret
     first | exact ⟨rfl,bb0⟩ | exact ⟨rfl,by simpa only [World.drewN_drewN] using bb0⟩
   · skip
     cases d2
     · go_enter Tryz.func59,Tryz.ntmps59
       go_wp2_with fail
       refine (C0.out _ h1 hg c0 c1).mono ?_;rintro e w1 ⟨rfl,b1⟩;replace bb0:=bb0.trans (b1.mono bb0.size);replace c0:=(b1.cell (p:=⟨_,_,none⟩) hg).trans c0;replace c1:=(b1.cell (p:=⟨_,_,none⟩) hg).trans c1;replace c2:=(b1.cell (p:=⟨_,_,none⟩) hg).trans c2;replace c3:=(b1.cell (p:=⟨_,_,none⟩) hg).trans c3;replace c4:=(b1.cell (p:=⟨_,_,none⟩) hg).trans c4;replace c5:=(b1.cell (p:=⟨_,_,none⟩) hg).trans c5;replace c6:=(b1.cell (p:=⟨_,_,none⟩) hg).trans c6;replace c7:=(b1.cell (p:=⟨_,_,none⟩) hg).trans c7;replace c8:=(b1.cell (p:=⟨_,_,none⟩) hg).trans c8;replace hg:=Nat.lt_of_lt_of_le hg b1.size;replace h1:=h1.below b1;replace h2:=h2.below b1;replace h3:=h3.below b1
       go_wp2_with fail
       refine (C1.out _ c2 c3 c4).mono ?_;rintro e w2 ⟨rfl,rfl⟩
       go_wp2_with fail
       refine (C2.out _ h2 c5).mono ?_;rintro e w3 ⟨rfl,m3,rfl⟩;replace bb0:=bb0.trans (below_drewN (Below.refl _ _) m3 |>.mono bb0.size)
       go_wp2_with fail
       go_ret
       first | exact ⟨rfl,bb0⟩ | exact ⟨rfl,by simpa only [World.drewN_drewN] using bb0⟩
     · skip
       cases d3
       · go_enter Tryz.func59,Tryz.ntmps59
         go_wp2_with fail
         refine (C0.out _ h1 hg c0 c1).mono ?_;rintro e w1 ⟨rfl,b1⟩;replace bb0:=bb0.trans (b1.mono bb0.size);replace c0:=(b1.cell (p:=⟨_,_,none⟩) hg).trans c0;replace c1:=(b1.cell (p:=⟨_,_,none⟩) hg).trans c1;replace c2:=(b1.cell (p:=⟨_,_,none⟩) hg).trans c2;replace c3:=(b1.cell (p:=⟨_,_,none⟩) hg).trans c3;replace c4:=(b1.cell (p:=⟨_,_,none⟩) hg).trans c4;replace c5:=(b1.cell (p:=⟨_,_,none⟩) hg).trans c5;replace c6:=(b1.cell (p:=⟨_,_,none⟩) hg).trans c6;replace c7:=(b1.cell (p:=⟨_,_,none⟩) hg).trans c7;replace c8:=(b1.cell (p:=⟨_,_,none⟩) hg).trans c8;replace hg:=Nat.lt_of_lt_of_le hg b1.size;replace h1:=h1.below b1;replace h2:=h2.below b1;replace h3:=h3.below b1
         go_wp2_with fail
         refine (C1.out _ c2 c3 c4).mono ?_;rintro e w2 ⟨rfl,rfl⟩
         go_wp2_with fail
         refine (C2.out _ h2 c5).mono ?_;rintro e w3 ⟨rfl,m3,rfl⟩;replace bb0:=bb0.trans (below_drewN (Below.refl _ _) m3 |>.mono bb0.size);replace h1:=h1.drewN m3;replace h2:=h2.drewN m3;replace h3:=h3.drewN m3
         go_wp2_with fail
         refine (C3.out _ h3 c6 c7).mono ?_;rintro e w4 ⟨rfl,m4,rfl⟩;replace bb0:=bb0.trans (below_drewN (Below.refl _ _) m4 |>.mono bb0.size)
         go_wp2_with fail
         go_ret
         first | exact ⟨rfl,bb0⟩ | exact ⟨rfl,by simpa only [World.drewN_drewN] using bb0⟩
       · skip
         go_enter Tryz.func59,Tryz.ntmps59
         go_wp2_with fail
         refine (C0.out _ h1 hg c0 c1).mono ?_;rintro e w1 ⟨rfl,b1⟩;replace bb0:=bb0.trans (b1.mono bb0.size);replace c0:=(b1.cell (p:=⟨_,_,none⟩) hg).trans c0;replace c1:=(b1.cell (p:=⟨_,_,none⟩) hg).trans c1;replace c2:=(b1.cell (p:=⟨_,_,none⟩) hg).trans c2;replace c3:=(b1.cell (p:=⟨_,_,none⟩) hg).trans c3;replace c4:=(b1.cell (p:=⟨_,_,none⟩) hg).trans c4;replace c5:=(b1.cell (p:=⟨_,_,none⟩) hg).trans c5;replace c6:=(b1.cell (p:=⟨_,_,none⟩) hg).trans c6;replace c7:=(b1.cell (p:=⟨_,_,none⟩) hg).trans c7;replace c8:=(b1.cell (p:=⟨_,_,none⟩) hg).trans c8;replace hg:=Nat.lt_of_lt_of_le hg b1.size;replace h1:=h1.below b1;replace h2:=h2.below b1;replace h3:=h3.below b1
         go_wp2_with fail
         refine (C1.out _ c2 c3 c4).mono ?_;rintro e w2 ⟨rfl,rfl⟩
         go_wp2_with fail
         refine (C2.out _ h2 c5).mono ?_;rintro e w3 ⟨rfl,m3,rfl⟩;replace bb0:=bb0.trans (below_drewN (Below.refl _ _) m3 |>.mono bb0.size);replace h1:=h1.drewN m3;replace h2:=h2.drewN m3;replace h3:=h3.drewN m3
         go_wp2_with fail
         refine (C3.out _ h3 c6 c7).mono ?_;rintro e w4 ⟨rfl,m4,rfl⟩;replace bb0:=bb0.trans (below_drewN (Below.refl _ _) m4 |>.mono bb0.size);replace h1:=h1.drewN m4;replace h2:=h2.drewN m4;replace h3:=h3.drewN m4
         go_wp2_with fail
         refine (C4.out _ ).mono ?_;rintro e w5 ⟨rfl,rfl⟩
         go_wp2_with fail
         go_ret
         first | exact ⟨rfl,bb0⟩ | exact ⟨rfl,by simpa only [World.drewN_drewN] using bb0⟩
end Go.Proofs.YtalmeogjhmblhaaGreat

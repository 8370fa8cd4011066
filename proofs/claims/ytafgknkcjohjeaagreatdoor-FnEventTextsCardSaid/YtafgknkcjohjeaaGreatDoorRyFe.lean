/- The reference's elastic table and its least cost. Conditions: none. -/
import Derived.Test.YtafgknkcjohjeaaGreatDoorTke
import Derived.Test.YtafgknkcjohjeaaGreatDoorRzHe
import Derived.Test.YtafgknkcjohjeaaGreatDoorRwFe
import Derived.Test.YtafgknkcjohjeaaGreatDoorRyCe
namespace Go.Proofs.YtafgknkcjohjeaaGreatDoor
open Go Go.RowKit
theorem idx_mul {i m:Nat} (hi:i≤100) (hm:m≤100):IntKind.i64.wrap ((i:Int) * (m:Int))=((i * m:Nat):Int):=by
 have:i * m≤100 * 100:=Nat.mul_le_mul hi hm;rw [show ((i:Int) * (m:Int))=((i * m:Nat):Int) from by push_cast; rfl];exact IntWalk.i64_in _ (by omega)
theorem row_lt {i j n m:Nat} (hi:i < n) (hj:j < m):i * m+j < n * m:=by
 have:(i+1) * m≤n * m:=Nat.mul_le_mul_right m hi;rw [Nat.add_mul,Nat.one_mul] at this;omega
def GivesTabR (a b:List PFeat) (band:Int) (w:World) (e:Ending) (w':World):Prop :=
 ∃ g,e=.returned (.slice (some ⟨g,0,none⟩) (a.length * b.length) (a.length * b.length))∧Row w' g 2 (ints (a.length * b.length) (tabF a b band 1000000000 b.length (a.length * b.length)))∧Below w.heap.size w w'
set_option maxRecDepth 100000 in
set_option maxHeartbeats 8000000 in
theorem spec_l09Table_c {oa ob:Bool} {ea eb:TypeId} {a b:List PFeat} {va vb:Value} {F G:List Nat} {band:Int} (w:World) (ha:(pFeats ea).rep oa w a [va] F) (hb:(pFeats eb).rep ob w b [vb] G) (fa:∀ f∈a,featB f=true) (fb:∀ f∈b,featB f=true) (ha1:1≤a.length∧a.length≤72) (hb1:1≤b.length∧b.length≤72) (hbd:0≤band∧band≤72) :
 Calls Tryz.prog 136 #[va,vb,.int .i64 band] w (GivesTabR a b band w):=by
 obtain ⟨A,ca,rfl,-,-,-⟩:=pFeats_open ha;obtain ⟨B,cb,rfl,-,-,-⟩:=pFeats_open hb;have HA:=Lib.hid ha;have HB:=Lib.hid hb;have CC:=Lib.hid (fun (w:World) (i j:Nat) (hi:i < a.length) (hj:j < b.length)=>spec_l09Cost_c (ftAt a i) (ftAt b j) w (ftAt_ok fa i) (ftAt_ok fb j));have CM:=Lib.hid (fun (w:World) (x y:Int)=>minZ_c x y w);have CZ:=Lib.hid (fun (w:World) (n:Int) (h:-1000≤n)=>spec_l09Size_c n w (by omega));have LE:=Lib.hid (fun (i j:Nat) (hi:i≤100) (hj:j≤100)=>elC_le (band:=band) (far:=1000000000) fa fb (by decide) hi hj);have BE:=Lib.hid (fun (i j:Nat) (hi:i≤100) (hj:j≤100)=>beC_le (band:=band) (far:=1000000000) fa fb (by decide) hi hj);have SE:=Lib.hid (fun (i j:Nat) (hi:i≤100) (hj:j≤100) (h:¬ (i=0∧j=0))=>steps_eq (band:=band) (far:=1000000000) fa fb (by decide) hi hj h);have EE:=Lib.hid (fun (i j:Nat) (hi:i≤100) (hj:j≤100)=>elC_eq (band:=band) (far:=1000000000) fa fb hbd.1 (by decide) hi hj);have FA:=Lib.hid fa;have FB:=Lib.hid fb;obtain ⟨n,hn⟩:∃ n,a.length=n:=⟨_,rfl⟩
 obtain ⟨m,hm⟩:∃ m,b.length=m:=⟨_,rfl⟩
 rw [hn] at ha1 CC;rw [hm] at hb1 CC;obtain ⟨N,hN⟩:∃ N,n * m=N:=⟨_,rfl⟩
 have hNs:N≤72 * 72:=by rw [← hN]; exact Nat.mul_le_mul ha1.2 hb1.2
 have kN:IntKind.i64.wrap ((n:Int) * (m:Int))=(N:Int):=by rw [← hN]; exact idx_mul (by omega) (by omega)
 have hmk:=make_run (P:=Tryz.prog) (t:=65) (e:=2) (z:=.int .i64 0) (size:=1) (bytes:=8) Tryz.underlying65 (by kernel_rfl) N (N:Int) rfl (by omega) (by unfold maxLen; omega)
 show Calls Tryz.prog 136 #[.slice A a.length ca,.slice B b.length cb,.int .i64 band] w fun e w'=>∃ g,e=.returned (.slice (some ⟨g,0,none⟩) (a.length * b.length) (a.length * b.length))∧Row w' g 2 (ints (a.length * b.length) (tabF a b band 1000000000 b.length (a.length * b.length)))∧Below w.heap.size w w'
 rw [hn,hm,hN];have HN:=Lib.hid hN;have HLA:=Lib.hid hn;have HLB:=Lib.hid hm;clear ha hb fa fb hn hm hN
 go_enter Tryz.func136,Tryz.ntmps136
 go_wp2_with fail
 clear hmk kN
 go_loopw [10] (fun i wr=>∃ k:Nat,i=.int .i64 k∧k≤n∧Hid (Row wr w.heap.size 2 (ints N (tabF a b band 1000000000 m (k * m)))∧Below w.heap.size w wr)) (fun i _=>n - (intOf i).toNat)
 case atStart =>
  refine ⟨0,rfl,by omega,Lib.hid ⟨?_,(Below.refl _ _).alloc (Nat.le_refl _) _⟩⟩;have R:=Row.new w 2 (madeCells #[Value.int .i64 0] (N * 1));rw [madeCells_ints,tabF_zero (a:=a) (b:=b) (band:=band) (far:=1000000000) m N,Nat.mul_one] at R;rw [Nat.zero_mul];exact R
 case round =>
  obtain ⟨i,rfl,hi,all⟩:=hrel
  by_cases hlt:i < n
  · have gi:(i:Int) < (n:Int):=by omega
    have ki:=IntWalk.i64_in ((i:Int)+1) (by omega);have ALL:=Lib.hid all;clear all
    go_wp2_with fail
    obtain ⟨wo,hwo⟩:∃ x,x=wr:=⟨_,rfl⟩
    subst hwo
    go_loopw [11] (fun j wq=>∃ k:Nat,j=.int .i64 k∧k≤m∧Hid (Row wq w.heap.size 2 (ints N (tabF a b band 1000000000 m (i * m+k)))∧Below w.heap.size w wq)) (fun j _=>m - (intOf j).toNat)
    case atStart=>exact ⟨0,rfl,by omega,by rw [Nat.add_zero]; exact ALL.out⟩
    case round =>
     obtain ⟨j,rfl,hj,all⟩:=hrel
     by_cases hlj:j < m
     · obtain ⟨R0,bw⟩:=all.out
       have gj:(j:Int) < (m:Int):=by omega
       have kj:=IntWalk.i64_in ((j:Int)+1) (by omega);have hq:=row_lt hlt hlj;rw [HN.out] at hq;have kmul:=idx_mul (i:=i) (m:=m) (by omega) (by omega);obtain ⟨p,hp⟩:∃ p,i * m=p:=⟨_,rfl⟩
       have C0:=Lib.hid (fun (x y:Nat) (hx:x * m+y < p+j) (hy:y < m)=>show wr.cell? ⟨w.heap.size,x * m+y,none⟩=some (.int .i64 (elC a b band 1000000000 x y)) by
        rw [R0.cell,ints_get (by omega),tabF_get hy (by rw [hp]; exact hx)])
       have NX:=Lib.hid (fun (v:Int) (hv:v=elC a b band 1000000000 i j)=>tabF_next (N:=N) hlj hv);have RW:=Lib.hid R0;have BW:=Lib.hid bw;rw [hp] at kmul hq NX RW;have HP:=Lib.hid hp;have HI:=Lib.hid (And.intro hlt hlj);clear all R0 bw hp;generalize hii:(i:Int)=ii at *;generalize hjj:(j:Int)=jj at *;have HII:=Lib.hid hii;have HJJ:=Lib.hid hjj;have ii0:0≤ii:=by omega
       have jj0:0≤jj:=by omega
       have tii:ii.toNat=i:=by omega
       have tjj:jj.toNat=j:=by omega
       clear hii hjj
       go_upto_region 11 with fail
       go_cut [36] from 31 to 36 (fun s wx=>s=.bool (decide (i=0∧j=0))∧wr=wx)
       case first =>
        by_cases h0:i=0
        · have e1:(ii == 0)=true:=by have:=HII.out; rw [beq_iff_eq]; omega
          by_cases h1:j=0
          · have e2:(jj == 0)=true:=by have:=HJJ.out; rw [beq_iff_eq]; omega
            go_wp2_with fail
            go_meet
            case rel=>exact ⟨by rw [decide_eq_true ⟨h0,h1⟩],rfl⟩
          · have e2:(jj == 0)=false:=beq_false_of_ne (by have:=HJJ.out; omega)
            go_wp2_with fail
            go_meet
            case rel=>exact ⟨by rw [decide_eq_false (fun g=>h1 g.2)],rfl⟩
        · have e1:(ii == 0)=false:=beq_false_of_ne (by have:=HII.out; omega)
          go_wp2_with fail
          go_meet
          case rel=>exact ⟨by rw [decide_eq_false (fun g=>h0 g.1)],rfl⟩
       case rest =>
        obtain ⟨rfl,hwc⟩:=hcut;subst hwc
        go_upto_if 36 with fail
        go_cut [12] from 36 to 36 (fun s wx=>s=.int .i64 (if i=0∧j=0 then 0 else 1000000000)∧wr=wx)
        case first =>
         by_cases h0:i=0∧j=0
         · rw [decide_eq_true h0]
           go_wp2_with fail
           go_meet
           case rel=>exact ⟨by rw [if_pos h0],rfl⟩
         · rw [decide_eq_false h0]
           go_wp2_with fail
           go_meet
           case rel=>exact ⟨by rw [if_neg h0],rfl⟩
        case rest =>
         obtain ⟨rfl,hwc⟩:=hcut;subst hwc;generalize hs0:(if i=0∧j=0 then (0:Int) else 1000000000)=s0;have HS0:=Lib.hid hs0;clear hs0
         go_upto_region 13 with fail
         go_cut [42] from 37 to 42 (fun s wx=>s=.bool (decide (0 < i∧0 < j))∧wr=wx)
         case first =>
          by_cases h0:0 < i
          · have e1:decide (0 < ii)=true:=by have:=HII.out; rw [decide_eq_true_iff]; omega
            by_cases h1:0 < j
            · have e2:decide (0 < jj)=true:=by have:=HJJ.out; rw [decide_eq_true_iff]; omega
              go_wp2_with fail
              go_meet
              case rel=>exact ⟨by rw [decide_eq_true ⟨h0,h1⟩],rfl⟩
            · have e2:decide (0 < jj)=false:=by have:=HJJ.out; rw [decide_eq_false_iff_not]; omega
              go_wp2_with fail
              go_meet
              case rel=>exact ⟨by rw [decide_eq_false (fun g=>h1 g.2)],rfl⟩
          · have e1:decide (0 < ii)=false:=by have:=HII.out; rw [decide_eq_false_iff_not]; omega
            go_wp2_with fail
            go_meet
            case rel=>exact ⟨by rw [decide_eq_false (fun g=>h0 g.1)],rfl⟩
         case rest =>
          obtain ⟨rfl,hwc⟩:=hcut;subst hwc
          go_upto_if 42 with fail
          go_cut [12] from 42 to 54 (fun s wx=>s=.int .i64 (stepA (a:=a) (b:=b) (band:=band) (far:=1000000000) s0 i j)∧wr=wx)
          case first =>
           by_cases h0:0 < i∧0 < j
           · obtain ⟨x,rfl⟩:∃ x,i=x+1:=⟨i - 1,by omega⟩
             obtain ⟨y,rfl⟩:∃ y,j=y+1:=⟨j - 1,by omega⟩
             have hpx:(x+1) * m=x * m+m:=by rw [Nat.add_mul,Nat.one_mul]
             have c0:=C0.out x y (by have:=HP.out; omega) (by omega);have z1:IntKind.i64.wrap (ii - 1)=(x:Int):=(IntWalk.i64_in _ (by omega)).trans (by have:=HII.out; omega);have z2:=idx_mul (i:=x) (m:=m) (by omega) (by omega);obtain ⟨px,hpx'⟩:∃ p,x * m=p:=⟨_,rfl⟩
             rw [hpx'] at z2 c0 hpx;have hpx2:=HP.out;have z3:IntKind.i64.wrap ((px:Int)+jj)=((px+y:Nat):Int)+1:=(IntWalk.i64_in _ (by omega)).trans (by have:=HJJ.out; omega);obtain ⟨qx,hqx⟩:∃ q,px+y=q:=⟨_,rfl⟩
             rw [hqx] at z3 c0;have z4:IntKind.i64.wrap ((qx:Int)+1 - 1)=(qx:Int):=(IntWalk.i64_in _ (by omega)).trans (by omega);have z5:(qx:Int) < (N:Int):=by omega
             have z6:(0:Int)≤(qx:Int):=by omega
             have C:=Lib.hid (fun w=>CM.out w s0 (elC a b band 1000000000 x y));rw [decide_eq_true h0];have HX:=Lib.hid (show stepA (a:=a) (b:=b) (band:=band) (far:=1000000000) s0 (x+1) (y+1)=min s0 (elC a b band 1000000000 x y) from if_pos h0);clear h0 hpx hpx' hqx hpx2;generalize elC a b band 1000000000 x y=u at *
             go_wp2_with fail
             refine (C.out _).mono ?_;rintro e w1 ⟨rfl,rfl⟩
             go_wp2_with fail
             go_meet
             case rel=>exact ⟨by rw [HX.out],rfl⟩
           · rw [decide_eq_false h0]
             go_wp2_with fail
             go_meet
             case rel=>exact ⟨by rw [stepA,if_neg h0],rfl⟩
          case rest =>
           obtain ⟨rfl,hwc⟩:=hcut;subst hwc;generalize hs1:stepA (a:=a) (b:=b) (band:=band) (far:=1000000000) s0 i j=s1;have HS1:=Lib.hid hs1;clear hs1
           go_upto_if 56 with fail
           go_cut [12] from 55 to 67 (fun s wx=>s=.int .i64 (stepB (a:=a) (b:=b) (band:=band) (far:=1000000000) s1 i j)∧wr=wx)
           case first =>
            by_cases h0:0 < i
            · obtain ⟨x,rfl⟩:∃ x,i=x+1:=⟨i - 1,by omega⟩
              have hpx:(x+1) * m=x * m+m:=by rw [Nat.add_mul,Nat.one_mul]
              have e1:(0 < ii):=by have:=HII.out; omega
              have e1':decide (0 < ii)=true:=decide_eq_true e1;have c0:=C0.out x j (by have:=HP.out; omega) (by omega);have z1:IntKind.i64.wrap (ii - 1)=(x:Int):=(IntWalk.i64_in _ (by omega)).trans (by have:=HII.out; omega);have z2:=idx_mul (i:=x) (m:=m) (by omega) (by omega);obtain ⟨px,hpx'⟩:∃ p,x * m=p:=⟨_,rfl⟩
              rw [hpx'] at z2 c0 hpx;have hpx2:=HP.out;have z3:IntKind.i64.wrap ((px:Int)+jj)=((px+j:Nat):Int):=(IntWalk.i64_in _ (by omega)).trans (by have:=HJJ.out; omega);obtain ⟨qx,hqx⟩:∃ q,px+j=q:=⟨_,rfl⟩
              rw [hqx] at z3 c0;have z5:(qx:Int) < (N:Int):=by omega
              have z6:(0:Int)≤(qx:Int):=by omega
              have C:=Lib.hid (fun w=>CM.out w s1 (elC a b band 1000000000 x j));have HX:=Lib.hid (show stepB (a:=a) (b:=b) (band:=band) (far:=1000000000) s1 (x+1) j=min s1 (elC a b band 1000000000 x j) from if_pos h0);clear h0 hpx hpx' hqx hpx2;generalize elC a b band 1000000000 x j=u at *
              go_wp2_with fail
              refine (C.out _).mono ?_;rintro e w1 ⟨rfl,rfl⟩
              go_wp2_with fail
              go_meet
              case rel=>exact ⟨by rw [HX.out],rfl⟩
            · have e1:¬ (0 < ii):=by have:=HII.out; omega
              have e1':decide (0 < ii)=false:=decide_eq_false e1
              go_wp2_with fail
              go_meet
              case rel=>exact ⟨by rw [stepB,if_neg h0],rfl⟩
           case rest =>
            obtain ⟨rfl,hwc⟩:=hcut;subst hwc;generalize hs2:stepB (a:=a) (b:=b) (band:=band) (far:=1000000000) s1 i j=s2;have HS2:=Lib.hid hs2;clear hs2;have z3:IntKind.i64.wrap ((p:Int)+jj)=((p+j:Nat):Int):=(IntWalk.i64_in _ (by omega)).trans (by have:=HJJ.out; omega)
            go_upto_if 69 with fail
            go_cut [12] from 68 to 80 (fun s wx=>s=.int .i64 (stepC (a:=a) (b:=b) (band:=band) (far:=1000000000) s2 i j)∧wr=wx)
            case first =>
             by_cases h0:0 < j
             · obtain ⟨y,rfl⟩:∃ y,j=y+1:=⟨j - 1,by omega⟩
               have e1:(0 < jj):=by have:=HJJ.out; omega
               have e1':decide (0 < jj)=true:=decide_eq_true e1;have c0:=C0.out i y (by have:=HP.out; omega) (by omega);have hpx2:=HP.out;rw [hpx2] at c0;obtain ⟨qx,hqx⟩:∃ q,p+y=q:=⟨_,rfl⟩
               rw [show p+(y+1)=qx+1 from by omega] at z3;rw [hqx] at c0;have z4:IntKind.i64.wrap (((qx+1:Nat):Int) - 1)=(qx:Int):=(IntWalk.i64_in _ (by omega)).trans (by omega);generalize ((qx+1:Nat):Int)=qq at z3 z4;have z5:(qx:Int) < (N:Int):=by omega
               have z6:(0:Int)≤(qx:Int):=by omega
               have C:=Lib.hid (fun w=>CM.out w s2 (elC a b band 1000000000 i y));have HX:=Lib.hid (show stepC (a:=a) (b:=b) (band:=band) (far:=1000000000) s2 i (y+1)=min s2 (elC a b band 1000000000 i y) from if_pos h0);clear h0 hqx hpx2;generalize elC a b band 1000000000 i y=u at *
               go_wp2_with fail
               refine (C.out _).mono ?_;rintro e w1 ⟨rfl,rfl⟩
               go_wp2_with fail
               go_meet
               case rel=>exact ⟨by rw [HX.out],rfl⟩
             · have e1:¬ (0 < jj):=by have:=HJJ.out; omega
               have e1':decide (0 < jj)=false:=decide_eq_false e1
               go_wp2_with fail
               go_meet
               case rel=>exact ⟨by rw [stepC,if_neg h0],rfl⟩
            case rest =>
             obtain ⟨rfl,hwc⟩:=hcut;subst hwc
             have BC:stepC (a:=a) (b:=b) (band:=band) (far:=1000000000) s2 i j=beC a b band 1000000000 i j:=by
              rw [← HS2.out,← HS1.out,← HS0.out]
              by_cases h0:i=0∧j=0
              · obtain ⟨rfl,rfl⟩:=h0
                rw [if_pos ⟨rfl,rfl⟩,steps_zero,beC_zero]
              · rw [if_neg h0,SE.out i j (by omega) (by omega) h0]
             rw [BC];have hEE:=EE.out i j (by omega) (by omega);have hBE:=BE.out i j (by omega) (by omega);have NXV:=Lib.hid (fun v hv=>NX.out v hv);generalize beC a b band 1000000000 i j=be at hEE hBE ⊢;have HEE:=Lib.hid hEE;have zd:IntKind.i64.wrap (ii - jj)=ii - jj:=IntWalk.i64_in _ (by have:=HII.out; have:=HJJ.out; omega);have hab:absZ ((i:Int) - (j:Int))=absZ (ii - jj):=by rw [HII.out,HJJ.out]
             rw [hab] at HEE;have CA:=Lib.hid (fun w=>CZ.out w (ii - jj) (by have:=HII.out; have:=HJJ.out; omega));generalize absZ (ii - jj)=ab at CA HEE;clear BC HS0 HS1 HS2 SE EE BE LE C0 CM CZ hEE hab NX;have hq':=hq;obtain ⟨q,hqd⟩:∃ q,p+j=q:=⟨_,rfl⟩
             rw [hqd] at z3 hq' NXV RW;have z5:(q:Int) < (N:Int):=by omega
             have z6:(0:Int)≤(q:Int):=by omega
             obtain ⟨⟨v0,hv0⟩,hf0⟩:=RW.out.can (i:=q) (by rw [ints_len]; exact hq');have FIN:=Lib.hid (fun (wz:World) (v:Int) (hv:v=elC a b band 1000000000 i j) (hr:Row wz w.heap.size 2 ((ints N (tabF a b band 1000000000 m q)).set q (.int .i64 v)))=>(show Row wz w.heap.size 2 (ints N (tabF a b band 1000000000 m (q+1))) by rw [← NXV.out v hv,← ints_set]; exact hr));clear NXV
             by_cases hfar:be=1000000000
             · have e1:(be == 1000000000)=true:=by rw [hfar]; rfl
               have hv:(1000000000:Int)=elC a b band 1000000000 i j:=by rw [HEE.out,if_pos (.inr hfar)]
               have HV:=Lib.hid hv;clear hfar HEE hv CA CC
               go_wp2_with fail
               have R2:=FIN.out _ 1000000000 HV.out (RW.out.set q (.int .i64 1000000000));have B2:=BW.out.setCell (p:=⟨w.heap.size,q,none⟩) (Nat.le_refl _) (.int .i64 1000000000);exact ⟨⟨j+1,by rw [show ((j+1:Nat):Int)=jj+1 from by have:=HJJ.out; omega],by omega,Lib.hid ⟨by rw [HP.out,← Nat.add_assoc,hqd]; exact R2,B2⟩⟩,by simp [intOf]; omega⟩
             · have e1:(be == 1000000000)=false:=beq_false_of_ne hfar
               by_cases hbd2:band < ab
               · have e2:decide (band < ab)=true:=decide_eq_true hbd2
                 have hv:(1000000000:Int)=elC a b band 1000000000 i j:=by rw [HEE.out,if_pos (.inl hbd2)]
                 have HV:=Lib.hid hv;clear hfar HEE hv CC
                 go_wp2_with fail
                 refine (CA.out _).mono ?_;rintro e w1 ⟨rfl,rfl⟩
                 go_wp2_with fail
                 have R2:=FIN.out _ 1000000000 HV.out (RW.out.set q (.int .i64 1000000000));have B2:=BW.out.setCell (p:=⟨w.heap.size,q,none⟩) (Nat.le_refl _) (.int .i64 1000000000);exact ⟨⟨j+1,by rw [show ((j+1:Nat):Int)=jj+1 from by have:=HJJ.out; omega],by omega,Lib.hid ⟨by rw [HP.out,← Nat.add_assoc,hqd]; exact R2,B2⟩⟩,by simp [intOf]; omega⟩
               · have e2:decide (band < ab)=false:=decide_eq_false hbd2
                 have hv:be+costZ (ftAt a i) (ftAt b j)=elC a b band 1000000000 i j:=by rw [HEE.out,if_neg (fun h=>h.elim hbd2 hfar)]
                 have HV:=Lib.hid hv;have hcs:=cst_small FA.out FB.out i j;obtain ⟨hltI,hltJ⟩:=HI.out;have hfa:ftAt a i=a[i]'(by have:=HLA.out; omega):=by simp [ftAt,List.getD_eq_getElem?_getD,List.getElem?_eq_getElem (show i < a.length by have:=HLA.out; omega)]
                 have hfb:ftAt b j=b[j]'(by have:=HLB.out; omega):=by simp [ftAt,List.getD_eq_getElem?_getD,List.getElem?_eq_getElem (show j < b.length by have:=HLB.out; omega)]
                 have C:=Lib.hid (fun w=>CC.out w i j hltI hltJ);obtain ⟨A',ca',he,-,-,hra⟩:=pFeats_open (HA.out.below BW.out);simp only [Value.slice.injEq,HLA.out] at he;obtain ⟨hA1,-,hA2⟩:=he;subst hA1;subst hA2;obtain ⟨B',cb',he,-,-,hrb⟩:=pFeats_open (HB.out.below BW.out);simp only [Value.slice.injEq,HLB.out] at he;obtain ⟨hB1,-,hB2⟩:=he;subst hB1;subst hB2;obtain ⟨ga,oa,rfl,hga,hgaF,x0,x1,x2,-⟩:=hra i (by have:=HLA.out; omega);obtain ⟨gb,ob,rfl,hgb,hgbF,y0,y1,y2,-⟩:=hrb j (by have:=HLB.out; omega);rw [← hfa] at x0 x1 x2;rw [← hfb] at y0 y1 y2;have hga0:ga < w.heap.size:=HA.out.blocks _ hgaF;have hgb0:gb < w.heap.size:=HB.out.blocks _ hgbF;generalize ftAt a i=fi at *;generalize ftAt b j=fj at *;have ka:=IntWalk.i64_in (be+costZ fi fj) (by omega);clear hfar HEE hv CC hra hrb hgaF hgbF hfa hfb FA FB HA HB hcs hltI hltJ
                 go_wp2_with fail
                 refine (CA.out _).mono ?_;rintro e w1 ⟨rfl,rfl⟩
                 go_upto_region 21 with fail
                 have hS:(fun w':World=>w'.cell? ⟨ga,oa+i * 3,none⟩=some (.int .i64 fi.x)∧w'.cell? ⟨ga,oa+i * 3+1,none⟩=some (.int .i64 fi.y)∧w'.cell? ⟨ga,oa+i * 3+2,none⟩=some (.int .i64 fi.d)∧w'.cell? ⟨gb,ob+j * 3,none⟩=some (.int .i64 fj.x)∧w'.cell? ⟨gb,ob+j * 3+1,none⟩=some (.int .i64 fj.y)∧w'.cell? ⟨gb,ob+j * 3+2,none⟩=some (.int .i64 fj.d)) w1.drew:=⟨x0,x1,x2,y0,y1,y2⟩
                 refine wp_region_held_drew (S:=(fun w':World=>w'.cell? ⟨ga,oa+i * 3,none⟩=some (.int .i64 fi.x)∧w'.cell? ⟨ga,oa+i * 3+1,none⟩=some (.int .i64 fi.y)∧w'.cell? ⟨ga,oa+i * 3+2,none⟩=some (.int .i64 fi.d)∧w'.cell? ⟨gb,ob+j * 3,none⟩=some (.int .i64 fj.x)∧w'.cell? ⟨gb,ob+j * 3+1,none⟩=some (.int .i64 fj.y)∧w'.cell? ⟨gb,ob+j * 3+2,none⟩=some (.int .i64 fj.d))) (by kernel_rfl) hS (fun _=>?_);replace RW:=Lib.hid RW.out.drew;replace BW:=Lib.hid BW.out.drew;have hsz:=RW.out.lt;clear x0 x1 x2 y0 y1 y2 hv0 hf0 CA;generalize w1.drew=we at RW BW hS hsz ⊢;refine tJ 0 hS ?_;refine tJ 1 hS ?_;refine tJ 2 hS ?_;refine tJ 3 hS ?_;refine tJ 4 hS ?_;refine tJ 5 hS ?_;refine tJ 6 hS ?_;refine tJ 7 hS ?_;refine tJ 8 hS ?_;refine tJ 9 hS ?_;refine tJ 10 hS ?_;refine tJ 11 hS ?_;refine tJ 12 hS ?_;refine tJ 13 hS ?_;refine tJ 14 hS ?_;refine rJ 15 fun K hK=>?_
                 refine step_call 140 #[.tmp 108,.tmp 112] _ rfl rfl #[.agg #[.int .i64 fi.x,.int .i64 fi.y,.int .i64 fi.d],.agg #[.int .i64 fj.x,.int .i64 fj.y,.int .i64 fj.d]] Tryz.call140 (by go_simp) (C.out we) ?_;rintro e w2 ⟨rfl,b2⟩;refine ⟨_,rfl,?_⟩;have la:ga < we.heap.size:=by omega
                 have lb:gb < we.heap.size:=by omega
                 replace hS:(fun w':World=>w'.cell? ⟨ga,oa+i * 3,none⟩=some (.int .i64 fi.x)∧w'.cell? ⟨ga,oa+i * 3+1,none⟩=some (.int .i64 fi.y)∧w'.cell? ⟨ga,oa+i * 3+2,none⟩=some (.int .i64 fi.d)∧w'.cell? ⟨gb,ob+j * 3,none⟩=some (.int .i64 fj.x)∧w'.cell? ⟨gb,ob+j * 3+1,none⟩=some (.int .i64 fj.y)∧w'.cell? ⟨gb,ob+j * 3+2,none⟩=some (.int .i64 fj.d)) w2:=⟨(b2.cell (p:=⟨ga,_,none⟩) la).trans hS.1,(b2.cell (p:=⟨ga,_,none⟩) la).trans hS.2.1,(b2.cell (p:=⟨ga,_,none⟩) la).trans hS.2.2.1,(b2.cell (p:=⟨gb,_,none⟩) lb).trans hS.2.2.2.1,(b2.cell (p:=⟨gb,_,none⟩) lb).trans hS.2.2.2.2.1,(b2.cell (p:=⟨gb,_,none⟩) lb).trans hS.2.2.2.2.2⟩
                 replace RW:=Lib.hid (RW.out.later b2);replace BW:=Lib.hid (BW.out.trans (b2.mono BW.out.size));refine bJ hK hS ?_;clear hK K;simp only [Act.put,pA,pB,pC];clear b2;refine tJ 16 hS ?_;refine tJ 17 hS ?_;obtain ⟨⟨v0,hv0⟩,hf0⟩:=RW.out.can (i:=q) (by rw [ints_len]; exact hq');refine rJ 18 fun K hK=>?_
                 go_simp
                 replace hS:(fun w':World=>w'.cell? ⟨ga,oa+i * 3,none⟩=some (.int .i64 fi.x)∧w'.cell? ⟨ga,oa+i * 3+1,none⟩=some (.int .i64 fi.y)∧w'.cell? ⟨ga,oa+i * 3+2,none⟩=some (.int .i64 fi.d)∧w'.cell? ⟨gb,ob+j * 3,none⟩=some (.int .i64 fj.x)∧w'.cell? ⟨gb,ob+j * 3+1,none⟩=some (.int .i64 fj.y)∧w'.cell? ⟨gb,ob+j * 3+2,none⟩=some (.int .i64 fj.d)) (w2.setCell ⟨w.heap.size,q,none⟩ (.int .i64 (be+costZ fi fj))):=by
                  have far:∀ {g i:Nat} {u:Value},g < w.heap.size→w2.cell? ⟨g,i,none⟩=some u→(w2.setCell ⟨w.heap.size,q,none⟩ (.int .i64 (be+costZ fi fj))).cell? ⟨g,i,none⟩=some u:=fun hg hc=>(World.cell?_of_block (Below.heap_setCell _ ⟨w.heap.size,q,none⟩ _ _ (Nat.ne_of_lt hg))).trans hc
                  exact ⟨far hga0 hS.1,far hga0 hS.2.1,far hga0 hS.2.2.1,far hgb0 hS.2.2.2.1,far hgb0 hS.2.2.2.2.1,far hgb0 hS.2.2.2.2.2⟩
                 refine bJ hK hS ?_;clear hK K hS;refine wpAnyH_done (by kernel_rfl) ?_ _
                 go_wp2_with fail
                 have R2:=FIN.out _ _ HV.out (RW.out.set q (.int .i64 (be+costZ fi fj)));have B2:=BW.out.setCell (p:=⟨w.heap.size,q,none⟩) (Nat.le_refl _) (.int .i64 (be+costZ fi fj));exact ⟨⟨j+1,by rw [show ((j+1:Nat):Int)=jj+1 from by have:=HJJ.out; omega],by omega,Lib.hid ⟨by rw [HP.out,← Nat.add_assoc,hqd]; exact R2,B2⟩⟩,by simp [intOf]; omega⟩
     · obtain rfl:j=m:=by omega
       have gj:¬ (j:Int) < (j:Int):=by omega
       have ALL2:=Lib.hid all.out;clear all
       go_wp2_with fail
       go_roundw
       case rel=>exact ⟨i+1,by go_num,by omega,Lib.hid ⟨by rw [Nat.add_mul,Nat.one_mul]; exact ALL2.out.1,ALL2.out.2⟩⟩
       case measure=>simp [intOf]; omega
  · obtain rfl:i=n:=by omega
    have gi:¬ (i:Int) < (i:Int):=by omega
    have ALL2:=Lib.hid all.out;clear all
    go_wp2_with fail
    go_ret;exact ⟨_,rfl,by rw [← HN.out]; have:=ALL2.out.1; rw [← HN.out] at this; exact this,ALL2.out.2⟩
end Go.Proofs.YtafgknkcjohjeaaGreatDoor

/- The least cost of a way with a text, in the reference. Conditions: none. -/
import Derived.Test.YtafgknkcjohjeaaGreatDoorTke
import Derived.Test.YtafgknkcjohjeaaGreatDoorRzLe
namespace Go.Proofs.YtafgknkcjohjeaaGreatDoor
open Go Go.RowKit
theorem row_zeros (w:World) (m:Nat):Row (w.alloc (.cells (madeCells #[.int .i64 0] (m * int64.size)) 2)) w.heap.size 2 (List.replicate m (.int .i64 0)):=by
 have h:=Row.new w 2 (madeCells #[.int .i64 0] (m * int64.size));have e:=madeCells_toList [Value.int .i64 0] m (by simp)
 have e2:(List.replicate m [Value.int .i64 0]).flatten=List.replicate m (.int .i64 0):=by
  induction m with
  | zero=>rfl
  | succ m ih=>rw [List.replicate_succ,List.flatten_cons,ih (Row.new w _ _) (madeCells_toList _ _ (by simp)),List.replicate_succ]; rfl
 rw [e2] at e;exact e ▸ h
theorem tabT_none (N n:Nat):List.replicate (N * n) (Value.int .i64 (-1))=tabT (fun _ _=>none) N n:=by
 apply List.ext_getElem?;intro i;rw [tabT,List.getElem?_map,List.getElem?_replicate]
 by_cases h:i < N * n
 · rw [if_pos h,List.getElem?_range h]; rfl
 · rw [if_neg h,List.getElem?_eq_none (by simpa using h)]; rfl
set_option maxRecDepth 100000 in
set_option maxHeartbeats 8000000 in
theorem spec_l15TextCost_c {o:Bool} {ee:TypeId} {es:List LEdge} {t:ByteArray} {N:Nat} {A:Option Addr} {c gL oL:Nat} {F:List Nat} (w:World) (lL:gL < w.heap.size) (c0:w.cell? ⟨gL,oL,none⟩=some (.int .i64 (N:Nat))) (c1:w.cell? ⟨gL,oL+1,none⟩=some (.slice A es.length c)) (h:(pEdge.slice ee).rep o w es [.slice A es.length c] F) (hN:1≤N∧N≤1000) (ht:t.size≤1000) (hes:es.length≤100000) (hd:∀ e∈es,e.src < e.dst∧e.dst < N∧0≤e.cost∧e.cost≤100000) :
 Calls Tryz.prog 87 #[.pointer (some ⟨gL,oL,none⟩),.string t] w fun e w'=>e=.returned (.int .i64 (encM (lcE es (letterAt t) t.size (N - 1))))∧Below w.heap.size w w':=by
 obtain ⟨n,hn⟩:∃ n:Nat,n=t.size+1:=⟨_,rfl⟩
 obtain ⟨m,hm⟩:∃ m:Nat,m=N * n:=⟨_,rfl⟩
 have hm0:0 < m:=by rw [hm]; exact Nat.mul_pos (by omega) (by omega)
 have hm1:m≤1001000:=by rw [hm]; have:N * n≤1000 * 1001:=Nat.mul_le_mul hN.2 (by omega); omega
 have z0:IntKind.i64.wrap ((t.size:Int)+1)=(n:Int):=(IntWalk.i64_in _ (by omega)).trans (by omega);have z1:IntKind.i64.wrap ((N:Int) * (n:Int))=(m:Int):=by rw [← Int.natCast_mul,← hm]; exact IntWalk.i64_in _ (by omega)
 have HX:=Lib.hid (fun (w':World) (b:Below w.heap.size w w')=>show w'.cell? ⟨gL,oL,none⟩=some (.int .i64 (N:Nat))∧w'.cell? ⟨gL,oL+1,none⟩=some (.slice A es.length c) from ⟨(b.cell (p:=⟨gL,oL,none⟩) lL).trans c0,(b.cell (p:=⟨gL,oL+1,none⟩) lL).trans c1⟩);have mk:=fun w=>make_run (P:=Tryz.prog) (t:=65) (e:=2) rfl infoZ m (m:Int) rfl (by omega) (by unfold maxLen; omega) w
 have H:=Lib.hid h;have HD:=Lib.hid hd;have HM:=Lib.hid hm;have HN:=Lib.hid hn;clear h hd c1 hm hn
 go_enter Tryz.func87,Tryz.ntmps87
 go_upto_region 3 with fail
 have R0:=row_zeros w m;have b0:Below w.heap.size w (w.alloc (.cells (madeCells #[.int .i64 0] (m * int64.size)) 2)):=(Below.refl _ _).alloc (Nat.le_refl _) _;generalize w.alloc (.cells (madeCells #[.int .i64 0] (m * int64.size)) 2)=w0 at R0 b0 ⊢;have HR0:=Lib.hid R0;have B0:=Lib.hid b0;clear R0 b0 mk c0
 go_wp2_with fail
 go_loopw [26] (fun i wr=>∃ (k:Nat),i=.int .i64 k∧k≤m∧Hid (Row wr w.heap.size 2 (List.replicate k (.int .i64 (-1))++List.replicate (m - k) (.int .i64 0))∧Below w.heap.size w wr)) (fun i _=>m - (intOf i).toNat)
 case atStart=>exact ⟨0,rfl,by omega,Lib.hid ⟨by simpa using HR0.out,B0.out⟩⟩
 case round =>
  obtain ⟨k,rfl,hk,all⟩:=hrel;have ALL:=Lib.hid all.out;clear all
  by_cases hlt:k < m
  · have gk:(k:Int) < (m:Int):=by omega
    have gk0:(0:Int)≤(k:Int):=by omega
    have kw:=IntWalk.i64_in ((k:Int)+1) (by omega);obtain ⟨u0,hu0⟩:=(ALL.out.1.canJ (i:=k) (j:=0) (by simp) (by simp; omega)).1;have vF:=ALL.out.1.frozen;have RP:=Lib.hid (ALL.out.1.put (i:=k) (j:=0) (by simp) (.int .i64 (-1)))
    have HN1:=Lib.hid (show List.replicate k (Value.int .i64 (-1))++(List.replicate (m - k) (Value.int .i64 0)).set 0 (.int .i64 (-1))=List.replicate (k+1) (.int .i64 (-1))++List.replicate (m - (k+1)) (.int .i64 0) by
     rw [show m - k=(m - (k+1))+1 by omega,List.replicate_succ,List.set_cons_zero,List.replicate_succ',List.append_assoc]; rfl)
    have BF:=Lib.hid (ALL.out.2.setCell (p:=⟨w.heap.size,k,none⟩) (Nat.le_refl _) (.int .i64 (-1)))
    go_wp2_with fail
    exact ⟨⟨k+1,by go_num,by omega,Lib.hid ⟨by rw [← HN1.out]; exact RP.out,BF.out⟩⟩,by simp [intOf]; omega⟩
  · obtain rfl:m=k:=by omega
    have gk:¬ (m:Int) < (m:Int):=by omega
    have R1:=ALL.out.1;rw [Nat.sub_self,List.replicate_zero,List.append_nil,HM.out,tabT_none] at R1;have R2:=Lib.hid (R1.set 0 (.int .i64 0))
    have hT0:=tabT_set (T:=fun _ _=>none) (S:=cellT es (letterAt t) []) (N:=N) (n:=n) (v:=0) (k:=0) (by have:=HN.out; omega) (x:=some 0) rfl (fun v' k' h=>by
     cases k' with
     | zero=>rw [cellT,if_neg (fun e=>h ⟨e,rfl⟩)]
     | succ k'=>rfl)
    rw [Nat.zero_mul,Nat.zero_add] at hT0;have R3:=Lib.hid (show Row (wr.setCell ⟨w.heap.size,0,none⟩ (.int .i64 0)) w.heap.size 2 (tabT (cellT es (letterAt t) (fromE es 0)) N n) from by rw [show fromE es 0=[] by simp [fromE],← hT0]; exact R2.out);have B3:=Lib.hid (ALL.out.2.setCell (p:=⟨w.heap.size,0,none⟩) (Nat.le_refl _) (.int .i64 0));obtain ⟨u0,hu0⟩:=(R1.can (i:=0) (by rw [tabT_len,← HM.out]; omega)).1;have vF:=R1.frozen;have gm:(0:Int) < (m:Int):=by omega
    clear R1 R2 hT0
    go_upto_region 9 with fail
    generalize wr.setCell ⟨w.heap.size,0,none⟩ (.int .i64 0)=wa at R3 B3 ⊢;clear hu0 vF ALL HR0 B0
    go_wp2_with fail
    go_loopw [8] (fun s wr=>∃ (u:Nat),s=.int .i64 u∧u≤N∧Hid (Row wr w.heap.size 2 (tabT (cellT es (letterAt t) (fromE es u)) N n)∧Below w.heap.size w wr)) (fun i _=>N - (intOf i).toNat)
    case atStart=>exact ⟨0,rfl,by omega,Lib.hid ⟨R3.out,B3.out⟩⟩
    case round =>
     obtain ⟨u,rfl,hu,all⟩:=hrel;have ALL:=Lib.hid all.out;clear all;have x0:=(HX.out wr ALL.out.2).1
     by_cases hlt:u < N
     · have g1:decide (u < N)=true:=decide_eq_true hlt
       have gu:(u:Int) < (N:Int):=by omega
       have uw:=IntWalk.i64_in ((u:Int)+1) (by omega);obtain ⟨un,hun⟩:∃ x:Nat,x=u * n:=⟨_,rfl⟩
       have hunm:un≤m:=by rw [hun,HM.out]; exact Nat.mul_le_mul_right _ hu
       have zu:IntKind.i64.wrap ((u:Int) * (n:Int))=(un:Int):=by rw [← Int.natCast_mul,← hun]; exact IntWalk.i64_in _ (by omega)
       have HUN:=Lib.hid hun;clear hun
       go_wp2_with fail
       go_loopw [9] (fun s wr=>∃ (i:Nat),s=.int .i64 i∧i≤es.length∧Hid (Row wr w.heap.size 2 (tabT (cellT es (letterAt t) (fromE es u++fromK es u i)) N n)∧Below w.heap.size w wr)) (fun i _=>es.length - (intOf i).toNat)
       case atStart=>exact ⟨0,rfl,by omega,Lib.hid ⟨by rw [fromK_zero,List.append_nil]; exact ALL.out.1,ALL.out.2⟩⟩
       case round =>
        obtain ⟨i,rfl,hi,all⟩:=hrel;have ALL2:=Lib.hid all.out;clear all;have x1:=(HX.out wr ALL2.out.2).2
        by_cases hil:i < es.length
        · have gi:(i:Int) < (es.length:Int):=by omega
          have gi0:(0:Int)≤(i:Int):=by omega
          have iw:=IntWalk.i64_in ((i:Int)+1) (by omega);obtain ⟨A',c',he,-,-,hr⟩:=pEdges_open H.out;cases he;obtain ⟨be,oe,rfl,hbe,-,e0,e1,e2,e3,-⟩:=hr i hil;have hde:=HD.out _ (List.getElem_mem hil);have HFK:=Lib.hid (fromK_succ (u:=u) hil);have HMEM:=Lib.hid (List.getElem_mem hil);generalize es[i]=ed at e0 e1 e2 e3 hde HFK HMEM;have HE:=Lib.hid (fun (w':World) (b:Below w.heap.size w w')=>show w'.cell? ⟨be,oe+i * 4,none⟩=some (.int .i64 (ed.src:Nat))∧w'.cell? ⟨be,oe+i * 4+1,none⟩=some (.int .i64 (ed.dst:Nat))∧w'.cell? ⟨be,oe+i * 4+2,none⟩=some (.string ed.lab)∧w'.cell? ⟨be,oe+i * 4+3,none⟩=some (.int .i64 ed.cost) from ⟨(b.cell (p:=⟨be,_,none⟩) hbe).trans e0,(b.cell (p:=⟨be,_,none⟩) hbe).trans e1,(b.cell (p:=⟨be,_,none⟩) hbe).trans e2,(b.cell (p:=⟨be,_,none⟩) hbe).trans e3⟩);clear hr e0 e1 e2 e3
          go_wp2_with fail
          go_loopw [11] (fun s wr=>∃ (k:Nat),s=.int .i64 k∧k≤t.size∧Hid (Row wr w.heap.size 2 (tabT (midT es (letterAt t) (fromE es u++fromK es u i) ed k) N n)∧Below w.heap.size w wr∧(ed.src=u∨k=0))) (fun i _=>t.size - (intOf i).toNat)
          case atStart=>exact ⟨0,rfl,by omega,Lib.hid ⟨by rw [tabT_congr (S:=cellT es (letterAt t) (fromE es u++fromK es u i)) (fun v j _ _=>midT_zero v j)]; exact ALL2.out.1,ALL2.out.2,.inr rfl⟩⟩
          case round =>
           obtain ⟨k,rfl,hk,all⟩:=hrel;have ALL3:=Lib.hid all.out;clear all;obtain ⟨f0,f1,f2,f3⟩:=HE.out wr ALL3.out.2.1;obtain ⟨k1,hk1⟩:∃ x:Nat,x=k+1:=⟨_,rfl⟩
           have zk:IntKind.i64.wrap ((k:Int)+1)=(k1:Int):=(IntWalk.i64_in _ (by omega)).trans (by omega)
           by_cases hkn:k1 < n
           · have g2:decide (k1 < n)=true:=decide_eq_true hkn
             have g3:decide ((k1:Int) < (n:Int))=true:=decide_eq_true (by omega)
             by_cases hsrc:ed.src=u
             · have g4:decide (ed.src=u)=true:=decide_eq_true hsrc
               have g5:decide ((ed.src:Int)=(u:Int))=true:=decide_eq_true (by omega);have hkt:k1≤t.size:=by have:=HN.out; omega
               obtain ⟨xa,hxa⟩:∃ x:Nat,x=un+k:=⟨_,rfl⟩
               have hxam:xa < m:=by rw [hxa,HUN.out,HM.out]; exact at_small hlt (by omega)
               have za:IntKind.i64.wrap ((un:Int)+(k:Int))=(xa:Int):=(IntWalk.i64_in _ (by omega)).trans (by omega);have ga0:(0:Int)≤(xa:Int):=by omega
               have ga1:(xa:Int) < (m:Int):=by omega
               have hdu:ed.dst≠u:=by omega
               have hFd:∀ e∈fromK es u i,e.dst≠u:=fun e he=>by have h1:=fromK_mem he; have h2:=HD.out e h1.1; omega
               have hca:=ALL3.out.1.cell' (i:=xa) (by rw [hxa,HUN.out]; exact tabT_get _ hlt (by omega));rw [midT_from (fun e he=>(HD.out e he).1) hFd hdu k] at hca;have HST:=Lib.hid (fun v j=>midT_succ (es:=es) (tx:=letterAt t) (L:=fromE es u++fromK es u i) (e:=ed) k v j);have HSM:=Lib.hid (fun x (h:lcE es (letterAt t) k u=some x)=>lcE_small es (letterAt t) (fun e he=>(HD.out e he).2.2) k u x h);have hKb:(k:Int) * 100000≤100000000:=by omega
               have HKB:=Lib.hid hKb;have HPOS:=Lib.hid (fun v j x (h:midT es (letterAt t) (fromE es u++fromK es u i) ed k v j=some x)=>midT_pos (K:=100000) (fun e he=>(HD.out e he).2.2) (fun e he=>(List.mem_append.1 he).elim (fun h=>fromE_mem h) (fun h=>(fromK_mem h).1)) HMEM.out h)
               have HNX:=Lib.hid (fun (hh:lcE es (letterAt t) k u=none∨¬ ed.lab=letterAt t k)=>(show tabT (midT es (letterAt t) (fromE es u++fromK es u i) ed k) N n=tabT (midT es (letterAt t) (fromE es u++fromK es u i) ed (k+1)) N n from tabT_congr (fun v j _ _=>by
                rw [HST.out v j,hsrc]
                split
                · rename_i h2
                  rcases hh with h3 | h3
                  · rw [h3,h2.1.1,h2.1.2]; exact (minO_none _).symm
                  · exact absurd h2.2 h3
                · rfl)))
               have gk0:(0:Int)≤(k:Int):=by omega
               have gk1:(k:Int)≤(k1:Int):=by omega
               have gk2:(k1:Int)≤(t.size:Int):=by omega
               have HXA:=Lib.hid hxa;have HK1:=Lib.hid hk1;clear hxa hdu hFd hKb hk1;have HSRC:=Lib.hid hsrc;cases hlc:lcE es (letterAt t) k u with
               | none =>
                 rw [hlc] at hca;have RES:=Lib.hid (HNX.out (.inl hlc) ▸ ALL3.out.1);replace hca:wr.cell? ⟨w.heap.size,xa,none⟩=some (.int .i64 (-1)):=hca;have g6:decide ((-1:Int) < 0)=true:=rfl
                 go_upto_region 20 with fail
                 go_quiet (fail)
                 replace RES:=Lib.hid (RES.out.drewN nq);have BQ:=Lib.hid (below_drewN ALL3.out.2.1 nq)
                 go_wp2_with fail
                 have hk1':=HK1.out;exact ⟨⟨k+1,by rw [HK1.out],by omega,Lib.hid ⟨RES.out,BQ.out,.inl HSRC.out⟩⟩,by simp [intOf]; omega⟩
               | some cv =>
                 rw [hlc] at hca;replace hca:wr.cell? ⟨w.heap.size,xa,none⟩=some (.int .i64 cv):=hca;have hcv:=HSM.out cv hlc;have g6:decide (cv < 0)=false:=decide_eq_false (by omega);have HLT:letterAt t k=t.extract k k1:=by rw [HK1.out]; rfl
                 by_cases hlab:ed.lab=letterAt t k
                 · have gs1:=(str_eqB (a:=t.extract k k1) (b:=ed.lab) (by rw [hlab,HLT])).1
                   have gs2:=(str_eqB (a:=t.extract k k1) (b:=ed.lab) (by rw [hlab,HLT])).2;obtain ⟨dn,hdn⟩:∃ x:Nat,x=ed.dst * n:=⟨_,rfl⟩
                   have hdnm:dn≤m:=by rw [hdn,HM.out]; exact Nat.mul_le_mul_right _ (by omega)
                   obtain ⟨xb,hxb⟩:∃ x:Nat,x=dn+k1:=⟨_,rfl⟩
                   have hxbm:xb < m:=by rw [hxb,hdn,HM.out]; exact at_small hde.2.1 hkn
                   have zd:IntKind.i64.wrap ((ed.dst:Int) * (n:Int))=(dn:Int):=by rw [← Int.natCast_mul,← hdn]; exact IntWalk.i64_in _ (by omega)
                   obtain ⟨xk,hxk⟩:∃ x:Nat,x=dn+k:=⟨_,rfl⟩
                   have hk1':=HK1.out;have ze:IntKind.i64.wrap ((dn:Int)+(k:Int))=(xk:Int):=(IntWalk.i64_in _ (by omega)).trans (by omega);have zf:IntKind.i64.wrap ((xk:Int)+1)=(xb:Int):=(IntWalk.i64_in _ (by omega)).trans (by omega);have gb0:(0:Int)≤(xb:Int):=by omega
                   have gb1:(xb:Int) < (m:Int):=by omega
                   have hcb:=ALL3.out.1.cell' (i:=xb) (by rw [hxb,hdn]; exact tabT_get _ hde.2.1 hkn);have HXB:=Lib.hid (show xb=ed.dst * n+k1 by rw [hxb,hdn]);have zg:IntKind.i64.wrap (cv+ed.cost)=cv+ed.cost:=IntWalk.i64_in _ (by have:=HKB.out; omega);clear hdn hxb hxk hk1' HLT
                   have HSE:=Lib.hid (show ∀ v j,midT es (letterAt t) (fromE es u++fromK es u i) ed (k+1) v j=if v=ed.dst∧j=k1 then minO (midT es (letterAt t) (fromE es u++fromK es u i) ed k ed.dst k1) (some (cv+ed.cost)) else midT es (letterAt t) (fromE es u++fromK es u i) ed k v j from fun v j=>by
                    rw [HST.out v j,hsrc,hlc,HK1.out]
                    by_cases h:v=ed.dst∧j=k+1
                    · rw [if_pos ⟨h,hlab⟩,if_pos h]; rfl
                    · rw [if_neg (fun h'=>h h'.1),if_neg h])
                   have HSET:=Lib.hid (fun (h:minO (midT es (letterAt t) (fromE es u++fromK es u i) ed k ed.dst k1) (some (cv+ed.cost))=some (cv+ed.cost))=>(show (tabT (midT es (letterAt t) (fromE es u++fromK es u i) ed k) N n).set xb (.int .i64 (cv+ed.cost))=tabT (midT es (letterAt t) (fromE es u++fromK es u i) ed (k+1)) N n from by
                    rw [HXB.out];exact tabT_set (x:=some (cv+ed.cost)) hkn (by rw [HSE.out,if_pos ⟨rfl,rfl⟩,h]) (fun v j hn=>by rw [HSE.out,if_neg hn])))
                   have HSTAY:=Lib.hid (fun (h:minO (midT es (letterAt t) (fromE es u++fromK es u i) ed k ed.dst k1) (some (cv+ed.cost))=midT es (letterAt t) (fromE es u++fromK es u i) ed k ed.dst k1)=>(show tabT (midT es (letterAt t) (fromE es u++fromK es u i) ed k) N n=tabT (midT es (letterAt t) (fromE es u++fromK es u i) ed (k+1)) N n from
                    tabT_congr (fun v j _ _=>by
                     rw [HSE.out]
                     split
                     · rename_i h2; rw [h,h2.1,h2.2]
                     · rfl)))
                   clear hlab HST HNX
                   go_upto_region 20 with fail
                   go_quiet (fail)
                   obtain ⟨m9,rfl⟩:∃ n:Nat,n=nq:=⟨_,rfl⟩
                   have RQ:=Lib.hid (ALL3.out.1.drewN m9);have BQ:=Lib.hid (below_drewN ALL3.out.2.1 m9);replace hcb:(wr.drewN m9).cell? ⟨w.heap.size,xb,none⟩=_:=hcb;clear f0 f1 f2 f3 hca gs1 gs2 ALL3;generalize World.drewN wr m9=wq at RQ BQ hcb ⊢;obtain ⟨f0,f1,f2,f3⟩:=HE.out wq BQ.out;have hP:=HPOS.out ed.dst k1;generalize hod:midT es (letterAt t) (fromE es u++fromK es u i) ed k ed.dst k1=od at hcb hP HSET HSTAY;have HST2:=Lib.hid (fun (h:minO od (some (cv+ed.cost))=some (cv+ed.cost))=>(show Row (wq.drew.setCell ⟨w.heap.size,xb,none⟩ (.int .i64 (cv+ed.cost))) w.heap.size 2 (tabT (midT es (letterAt t) (fromE es u++fromK es u i) ed (k+1)) N n) from HSET.out h ▸ RQ.out.drew.set xb _));have HST3:=Lib.hid (fun (h:minO od (some (cv+ed.cost))=od)=>(show Row wq w.heap.size 2 (tabT (midT es (letterAt t) (fromE es u++fromK es u i) ed (k+1)) N n) from HSTAY.out h ▸ RQ.out));clear hod HSET HSTAY HSE;cases od with
                   | none =>
                     replace hcb:wq.cell? ⟨w.heap.size,xb,none⟩=some (.int .i64 (-1)):=hcb;have HFIN:=Lib.hid (HST2.out rfl);have g7:decide ((-1:Int) < 0)=true:=rfl;clear HST2 HST3 hP
                     go_upto_region 23 with fail
                     have hS:(fun w':World=>w'.cell? ⟨be,oe+i * 4+1,none⟩=some (.int .i64 (ed.dst:Nat))∧w'.cell? ⟨be,oe+i * 4+3,none⟩=some (.int .i64 ed.cost)) wq.drew:=⟨f1,f3⟩
                     refine wp_region_held_drew (S:=(fun w':World=>w'.cell? ⟨be,oe+i * 4+1,none⟩=some (.int .i64 (ed.dst:Nat))∧w'.cell? ⟨be,oe+i * 4+3,none⟩=some (.int .i64 ed.cost))) (by kernel_rfl) hS (fun _=>?_);refine tJ 0 hS ?_;refine tJ 1 hS ?_;refine tJ 2 hS ?_;refine tJ 3 hS ?_;refine tJ 4 hS ?_;refine tJ 5 hS ?_;refine tJ 6 hS ?_;refine tJ 7 hS ?_;refine tJ 8 hS ?_;refine tJ 9 hS ?_;refine tJ 10 hS ?_;refine tJ 11 hS ?_;refine tJ 12 hS ?_;refine tJ 13 hS ?_;refine tJ 14 hS ?_;refine tJ 15 hS ?_;refine tJ 16 hS ?_;have v0:=hcb;have vF:=RQ.out.frozen;have hcb2:wq.drew.cell? ⟨w.heap.size,xb,none⟩=_:=hcb;have vF2:=RQ.out.drew.frozen;refine rJ 17 fun K hK=>?_
                     go_simp
                     have BF:=Lib.hid (BQ.out.drew.setCell (p:=⟨w.heap.size,xb,none⟩) (Nat.le_refl _) (.int .i64 (cv+ed.cost)));replace hS:=(HE.out _ BF.out).2.1;have hS3:=(HE.out _ BF.out).2.2.2;refine bJ hK ⟨hS,hS3⟩ ?_;clear hK K hS hS3 v0 vF hcb2 vF2;refine wpAnyH_done (by kernel_rfl) ?_ _
                     go_wp2_with fail
                     have hk1':=HK1.out;exact ⟨⟨k+1,by rw [HK1.out],by omega,Lib.hid ⟨HFIN.out,BF.out,.inl HSRC.out⟩⟩,by simp [intOf]; omega⟩
                   | some ov =>
                     replace hcb:wq.cell? ⟨w.heap.size,xb,none⟩=some (.int .i64 ov):=hcb;have hov:=hP ov rfl;have g7:decide (ov < 0)=false:=decide_eq_false (by omega)
                     by_cases hless:cv+ed.cost < ov
                     · have g8:decide (cv+ed.cost < ov)=true:=decide_eq_true hless
                       have HFIN:=Lib.hid (HST2.out (by show some (min ov (cv+ed.cost))=_; rw [Int.min_eq_right (by omega)]));clear HST2 HST3 hP
                       go_upto_region 23 with fail
                       have hS:(fun w':World=>w'.cell? ⟨be,oe+i * 4+1,none⟩=some (.int .i64 (ed.dst:Nat))∧w'.cell? ⟨be,oe+i * 4+3,none⟩=some (.int .i64 ed.cost)) wq.drew:=⟨f1,f3⟩
                       refine wp_region_held_drew (S:=(fun w':World=>w'.cell? ⟨be,oe+i * 4+1,none⟩=some (.int .i64 (ed.dst:Nat))∧w'.cell? ⟨be,oe+i * 4+3,none⟩=some (.int .i64 ed.cost))) (by kernel_rfl) hS (fun _=>?_);refine tJ 0 hS ?_;refine tJ 1 hS ?_;refine tJ 2 hS ?_;refine tJ 3 hS ?_;refine tJ 4 hS ?_;refine tJ 5 hS ?_;refine tJ 6 hS ?_;refine tJ 7 hS ?_;refine tJ 8 hS ?_;refine tJ 9 hS ?_;refine tJ 10 hS ?_;refine tJ 11 hS ?_;refine tJ 12 hS ?_;refine tJ 13 hS ?_;refine tJ 14 hS ?_;refine tJ 15 hS ?_;refine tJ 16 hS ?_;have v0:=hcb;have vF:=RQ.out.frozen;have hcb2:wq.drew.cell? ⟨w.heap.size,xb,none⟩=_:=hcb;have vF2:=RQ.out.drew.frozen;refine rJ 17 fun K hK=>?_
                       go_simp
                       have BF:=Lib.hid (BQ.out.drew.setCell (p:=⟨w.heap.size,xb,none⟩) (Nat.le_refl _) (.int .i64 (cv+ed.cost)));replace hS:=(HE.out _ BF.out).2.1;have hS3:=(HE.out _ BF.out).2.2.2;refine bJ hK ⟨hS,hS3⟩ ?_;clear hK K hS hS3 v0 vF hcb2 vF2;refine wpAnyH_done (by kernel_rfl) ?_ _
                       go_wp2_with fail
                       have hk1':=HK1.out;exact ⟨⟨k+1,by rw [HK1.out],by omega,Lib.hid ⟨HFIN.out,BF.out,.inl HSRC.out⟩⟩,by simp [intOf]; omega⟩
                     · have g8:decide (cv+ed.cost < ov)=false:=decide_eq_false hless
                       have HFIN:=Lib.hid (HST3.out (by show some (min ov (cv+ed.cost))=_; rw [Int.min_eq_left (by omega)]));clear HST2 HST3 hP
                       go_wp2_with fail
                       have hk1':=HK1.out;exact ⟨⟨k+1,by rw [HK1.out],by omega,Lib.hid ⟨HFIN.out,BQ.out,.inl HSRC.out⟩⟩,by simp [intOf]; omega⟩
                 · have gs1:=(str_neB (a:=t.extract k k1) (b:=ed.lab) (fun h=>hlab (by rw [HLT,h]))).1
                   have gs2:=(str_neB (a:=t.extract k k1) (b:=ed.lab) (fun h=>hlab (by rw [HLT,h]))).2;have RES:=Lib.hid (HNX.out (.inr hlab) ▸ ALL3.out.1);clear hlab HLT
                   go_upto_region 20 with fail
                   go_quiet (fail)
                   replace RES:=Lib.hid (RES.out.drewN nq);have BQ:=Lib.hid (below_drewN ALL3.out.2.1 nq)
                   go_wp2_with fail
                   have hk1':=HK1.out;exact ⟨⟨k+1,by rw [HK1.out],by omega,Lib.hid ⟨RES.out,BQ.out,.inl HSRC.out⟩⟩,by simp [intOf]; omega⟩
             · have g4:decide (ed.src=u)=false:=decide_eq_false hsrc
               have g5:decide ((ed.src:Int)=(u:Int))=false:=decide_eq_false (by omega);have hk0:k=0:=ALL3.out.2.2.resolve_left hsrc
               have RES:=Lib.hid (show Row wr w.heap.size 2 (tabT (cellT es (letterAt t) (fromE es u++fromK es u (i+1))) N n) from by
                rw [HFK.out,if_neg hsrc,← tabT_congr (T:=midT es (letterAt t) (fromE es u++fromK es u i) ed k) (fun v j _ _=>by rw [hk0]; exact midT_zero v j)]; exact ALL3.out.1)
               clear hk0
               go_wp2_with fail
               exact ⟨⟨i+1,by go_num,by omega,Lib.hid ⟨RES.out,ALL3.out.2.1⟩⟩,by simp [intOf]; omega⟩
           · have g2:decide (k1 < n)=false:=decide_eq_false hkn
             have g3:decide ((k1:Int) < (n:Int))=false:=decide_eq_false (by omega);have hkt:k=t.size:=by have:=HN.out; omega
             have RES:=Lib.hid (show Row wr w.heap.size 2 (tabT (cellT es (letterAt t) (fromE es u++fromK es u (i+1))) N n) from by
              rcases ALL3.out.2.2 with hs | h0
              · rw [HFK.out,if_pos hs,← List.append_assoc,← tabT_congr (T:=midT es (letterAt t) (fromE es u++fromK es u i) ed k) (fun v j _ hj=>midT_all (by have:=HN.out; omega))]; exact ALL3.out.1
              · have hn1:n=1:=by have:=HN.out; omega
                rw [← tabT_congr (T:=midT es (letterAt t) (fromE es u++fromK es u i) ed k) (fun v j _ hj=>by
                 obtain rfl:j=0:=by omega
                 rw [h0,midT_zero]; rfl)]
                exact ALL3.out.1)
             clear hkt
             go_wp2_with fail
             exact ⟨⟨i+1,by go_num,by omega,Lib.hid ⟨RES.out,ALL3.out.2.1⟩⟩,by simp [intOf]; omega⟩
        · obtain rfl:i=es.length:=by omega
          have gi:¬ (es.length:Int) < (es.length:Int):=by omega
          go_wp2_with fail
          exact ⟨⟨u+1,by go_num,by omega,Lib.hid ⟨by rw [← fromK_all]; exact ALL2.out.1,ALL2.out.2⟩⟩,by simp [intOf]; omega⟩
     · obtain rfl:u=N:=by omega
       have g1:decide (u < u)=false:=decide_eq_false (by omega);have gu:¬ (u:Int) < (u:Int):=by omega
       obtain ⟨x9,hx9⟩:∃ x:Nat,x=m - 1:=⟨_,rfl⟩
       have z9:IntKind.i64.wrap ((m:Int) - 1)=(x9:Int):=(IntWalk.i64_in _ (by omega)).trans (by omega);have gx0:(0:Int)≤(x9:Int):=by omega
       have gx1:(x9:Int) < (m:Int):=by omega
       have hx9':x9=(u - 1) * n+t.size:=by
        have h1:=HM.out;have h2:=HN.out;have h3:u * n=(u - 1) * n+n:=by rw [← Nat.succ_mul]; congr 1; omega
        omega
       have hcell:=ALL.out.1.cell' (i:=x9) (by rw [hx9']; exact tabT_get _ (by omega) (by have:=HN.out; omega));rw [cellT_all (fun e he=>by have:=HD.out e he; omega)] at hcell;clear hx9' hx9
       go_wp2_with fail
       go_ret;exact ⟨rfl,ALL.out.2⟩
end Go.Proofs.YtafgknkcjohjeaaGreatDoor

/- The box of a stroke. Conditions: none. -/
import Derived.Test.YtafgknkcjohjeaaGreatDoorRwFe
import Derived.BigQuiet
import Derived.Test.YtafgknkcjohjeaaGreatDoorTke
namespace Go.Proofs.YtafgknkcjohjeaaGreatDoor
open Go Go.RowKit
set_option maxHeartbeats 8000000
set_option maxRecDepth 100000
def boxK (s:PStroke) (k:Nat):BoxZ:=(s.take k).foldl (fun b p=>joinZ b (ptBox p)) (ptBox (pt s 0))
theorem boxK_all (s:PStroke):boxK s s.length=boxOfZ s:=by rw [boxK,List.take_length]; rfl
theorem boxK_one {s:PStroke} (h:1≤s.length):boxK s 1=ptBox (pt s 0):=by
 cases s with
 | nil=>simp at h
 | cons p r=>exact joinZ_self _
theorem boxK_succ {s:PStroke} {k:Nat} (h:k < s.length):boxK s (k+1)=joinZ (boxK s k) (ptBox s[k]):=by
 rw [boxK,boxK,List.take_succ_eq_append_getElem h,List.foldl_append];rfl
def boxL (b:BoxZ):List Value:=[.int .i64 b.x1,.int .i64 b.y1,.int .i64 b.x2,.int .i64 b.y2]
theorem spec_l02BoxOf_c {ob:Bool} {e:TypeId} {s:PStroke} {A:Option Addr} {c gB oB:Nat} {F:List Nat} (w:World) (gl:gB < w.heap.size) (hcell:w.cell? ⟨gB,oB,none⟩=some (.slice A s.length c)) (h:(pPoints e).rep ob w s [.slice A s.length c] F) (hl1:1≤s.length) (hl60:s.length≤1048576) :
 Calls Tryz.prog 89 #[.pointer (some ⟨gB,oB,none⟩)] w fun e w'=>e=.returned (boxVZ (boxOfZ s))∧Below w.heap.size w w':=by
 obtain ⟨A',c',he,-,-,hr⟩:=pPoints_open h;cases he;obtain ⟨bp,op,rfl,hbp,-,p0,p1,p2,-⟩:=hr 0 hl1;simp only [Nat.zero_mul,Nat.add_zero] at p0 p1 p2;have g0:(0:Int) < (s.length:Int):=by omega
 have hp0:pt s 0=s[0]:=pt_get hl1;have H:=Lib.hid h;have GL:=Lib.hid gl;clear hr h;have x0:(w.alloc (.cells #[.int .i64 0,.int .i64 0,.int .i64 0,.int .i64 0] 133)).cell? ⟨gB,oB,none⟩=some (.slice (some ⟨bp,op,none⟩) s.length c):=(World.cell?_alloc_past (w:=w) _ _ _ gl).trans hcell;have y0:(w.alloc (.cells #[.int .i64 0,.int .i64 0,.int .i64 0,.int .i64 0] 133)).cell? ⟨bp,op,none⟩=some (.int .i64 s[0].x):=(World.cell?_alloc_past (w:=w) _ _ _ hbp).trans p0;have y1:(w.alloc (.cells #[.int .i64 0,.int .i64 0,.int .i64 0,.int .i64 0] 133)).cell? ⟨bp,op+1,none⟩=some (.int .i64 s[0].y):=(World.cell?_alloc_past (w:=w) _ _ _ hbp).trans p1;have y2:(w.alloc (.cells #[.int .i64 0,.int .i64 0,.int .i64 0,.int .i64 0] 133)).cell? ⟨bp,op+2,none⟩=some (.int .i64 s[0].t):=(World.cell?_alloc_past (w:=w) _ _ _ hbp).trans p2;have R0:=((Row.new w 133 #[.int .i64 0,.int .i64 0,.int .i64 0,.int .i64 0]).alloc (.cells #[.int .i64 s[0].x,.int .i64 s[0].y,.int .i64 s[0].t] 85)).alloc (.cells #[.int .i64 s[0].x,.int .i64 s[0].y,.int .i64 s[0].x,.int .i64 s[0].y] 133);have R2:=Row.new ((w.alloc (.cells #[.int .i64 0,.int .i64 0,.int .i64 0,.int .i64 0] 133)).alloc (.cells #[.int .i64 s[0].x,.int .i64 s[0].y,.int .i64 s[0].t] 85)) 133 #[.int .i64 s[0].x,.int .i64 s[0].y,.int .i64 s[0].x,.int .i64 s[0].y];simp only [World.size_alloc] at R2;have bb:Below w.heap.size w (((w.alloc (.cells #[.int .i64 0,.int .i64 0,.int .i64 0,.int .i64 0] 133)).alloc (.cells #[.int .i64 s[0].x,.int .i64 s[0].y,.int .i64 s[0].t] 85)).alloc (.cells #[.int .i64 s[0].x,.int .i64 s[0].y,.int .i64 s[0].x,.int .i64 s[0].y] 133)):=(((Below.refl _ _).alloc (Nat.le_refl _) _).alloc (by simp) _).alloc (by simp; omega) _;have ST:=Lib.hid (And.intro R0 (And.intro R2 bb));have HC:=Lib.hid hcell;have HBP:=Lib.hid hbp;clear R0 R2 bb hcell gl hbp
 go_enter Tryz.func89,Tryz.ntmps89
 go_wp2_with fail
 clear x0 y0 y1 y2 p0 p1 p2
 go_loopw [5] (fun i wr=>∃ k:Nat,i=.int .i64 k∧1≤k∧k≤s.length∧Hid (Row wr w.heap.size 133 [.int .i64 0,.int .i64 0,.int .i64 0,.int .i64 0]∧Row wr (w.heap.size+1+1) 133 (boxL (boxK s k))∧Below w.heap.size w wr)) (fun i _=>s.length - (intOf i).toNat)
 case atStart=>exact ⟨1,rfl,by omega,hl1,by rw [boxK_one hl1,hp0]; exact ST⟩
 case round =>
  obtain ⟨k,rfl,hk1,hk,all⟩:=hrel;obtain ⟨R0,R2,hb⟩:=all.out;have hbs:=R2.lt;have x0:=(hb.cell (p:=⟨gB,oB,none⟩) GL.out).trans HC.out;clear all ST;generalize hbk:boxK s k=bk at R2;have c0:=R2.c0;have c1:=R2.c1;have c2:=R2.c2;have c3:=R2.c3
  by_cases hlt:k < s.length
  · obtain ⟨A',c',he,-,-,hr⟩:=pPoints_open (H.out.below hb)
    cases he;obtain ⟨bp',op',e8,hbq,-,p0,p1,p2,-⟩:=hr k hlt;cases e8;have gk:(k:Int) < (s.length:Int):=by omega
    have kw:=IntWalk.i64_in ((k:Int)+1) (by omega);have hn:boxK s (k+1)=joinZ bk ⟨s[k].x,s[k].y,s[k].x,s[k].y⟩:=by rw [boxK_succ hlt,hbk]; rfl
    have HN:=Lib.hid hn;have HB:=Lib.hid hb;have CJ:=Lib.hid (fun w=>spec_joinZ_c bk ⟨s[k].x,s[k].y,s[k].x,s[k].y⟩ w);dsimp only at CJ;clear hr hn hb hbk hp0 g0 H;have S0:=R0.alloc (.cells #[.int .i64 s[k].x,.int .i64 s[k].y,.int .i64 s[k].t] 85);have S2:=R2.alloc (.cells #[.int .i64 s[k].x,.int .i64 s[k].y,.int .i64 s[k].t] 85);have bb:=Lib.hid (HB.out.alloc HB.out.size (.cells #[.int .i64 s[k].x,.int .i64 s[k].y,.int .i64 s[k].t] 85));clear R0 R2
    go_wp2_with fail
    refine (CJ.out _).mono ?_;rintro e w2 ⟨rfl,b2⟩;unfold boxVZ;replace S0:=S0.later b2;replace S2:=S2.later b2;have bb:=Lib.hid (bb.out.trans (b2.mono bb.out.size));clear b2 c0 c1 c2 c3 x0 p0 p1 p2;have v0:=S2.c0;have v1:=S2.c1;have v2:=S2.c2;have v3:=S2.c3;have vF:=S2.frozen;generalize joinZ bk ⟨s[k].x,s[k].y,s[k].x,s[k].y⟩=nb at *
    go_wp2_with fail
    have T2:=(((S2.set 0 (.int .i64 nb.x1)).set 1 (.int .i64 nb.y1)).set 2 (.int .i64 nb.x2)).set 3 (.int .i64 nb.y2);have T0:=(((S0.far (p:=⟨w.heap.size+1+1,0,none⟩) (by show w.heap.size≠w.heap.size+1+1; omega) (.int .i64 nb.x1)).far (p:=⟨w.heap.size+1+1,1,none⟩) (by show w.heap.size≠w.heap.size+1+1; omega) (.int .i64 nb.y1)).far (p:=⟨w.heap.size+1+1,2,none⟩) (by show w.heap.size≠w.heap.size+1+1; omega) (.int .i64 nb.x2)).far (p:=⟨w.heap.size+1+1,3,none⟩) (by show w.heap.size≠w.heap.size+1+1; omega) (.int .i64 nb.y2);have TB:=(((bb.out.setCell (p:=⟨w.heap.size+1+1,0,none⟩) (by show w.heap.size≤w.heap.size+1+1; omega) (.int .i64 nb.x1)).setCell (p:=⟨w.heap.size+1+1,1,none⟩) (by show w.heap.size≤w.heap.size+1+1; omega) (.int .i64 nb.y1)).setCell (p:=⟨w.heap.size+1+1,2,none⟩) (by show w.heap.size≤w.heap.size+1+1; omega) (.int .i64 nb.x2)).setCell (p:=⟨w.heap.size+1+1,3,none⟩) (by show w.heap.size≤w.heap.size+1+1; omega) (.int .i64 nb.y2);refine ⟨⟨k+1,by go_num,by omega,by omega,Lib.hid ⟨T0,?_,TB⟩⟩,by simp [intOf]; omega⟩;rw [HN.out];exact T2
  · have hke:k=s.length:=by omega
    subst hke;rw [boxK_all] at hbk;have gk:¬ (s.length:Int) < (s.length:Int):=by omega
    have v0:=R0.c0;have v1:=R0.c1;have v2:=R0.c2;have v3:=R0.c3;have vF:=R0.frozen;have T0:=(((R0.set 0 (.int .i64 bk.x1)).set 1 (.int .i64 bk.y1)).set 2 (.int .i64 bk.x2)).set 3 (.int .i64 bk.y2);have TB:=(((hb.setCell (p:=⟨w.heap.size,0,none⟩) (Nat.le_refl _) (.int .i64 bk.x1)).setCell (p:=⟨w.heap.size,1,none⟩) (Nat.le_refl _) (.int .i64 bk.y1)).setCell (p:=⟨w.heap.size,2,none⟩) (Nat.le_refl _) (.int .i64 bk.x2)).setCell (p:=⟨w.heap.size,3,none⟩) (Nat.le_refl _) (.int .i64 bk.y2);have e0:=T0.c0;have e1:=T0.c1;have e2:=T0.c2;have e3:=T0.c3;have HBK:=Lib.hid hbk;clear hbk hb H hp0 T0
    go_wp2_with fail
    rw [HBK.out];refine bodyPost_ret (v:=boxVZ bk) (by simp only [results,Tryz.results89]; go_simp; rfl) rfl ⟨rfl,TB⟩
theorem boxOfZ_small {s:PStroke} (hs:strokeB s=true):BoxInZ (boxOfZ s):=by
 obtain ⟨hl60,hl1,hpt⟩:=stroke_pts hs
 have hp:∀ p∈s,InZ (ptBox p) ⟨0,0,4095,4095⟩:=by
  intro p hp;obtain ⟨j,hj,rfl⟩:=List.mem_iff_getElem.1 hp;have:=(hpt j hj).1;simp only [pointB,inR,Bool.and_eq_true,decide_eq_true_eq] at this;simp only [InZ,ptBox];omega
 have h0:=boxOfZ_pt (s:=s) (j:=0) hl1;have hin:InZ (boxOfZ s) ⟨0,0,4095,4095⟩:=foldZ_least _ _ s _ (by rw [pt_get hl1]; exact hp _ (List.getElem_mem _)) hp;simp only [InZ,ptBox] at h0 hin;unfold BoxInZ;omega
theorem spec_l14Dot_c {ob:Bool} {e:TypeId} {s:PStroke} {A:Option Addr} {c gB oB:Nat} {F:List Nat} (w:World) (gl:gB < w.heap.size) (hcell:w.cell? ⟨gB,oB,none⟩=some (.slice A s.length c)) (h:(pPoints e).rep ob w s [.slice A s.length c] F) (hs:strokeB s=true) :
 Calls Tryz.prog 134 #[.pointer (some ⟨gB,oB,none⟩)] w fun e w'=>e=.returned (.bool (isDotZ s))∧Below w.heap.size w w':=by
 obtain ⟨hl60,hl1,hpt⟩:=stroke_pts hs;have hbx:=boxOfZ_small hs;have CB:=Lib.hid (spec_l02BoxOf_c w gl hcell h hl1 (by omega));have hz:isDotZ s=(decide ((boxOfZ s).x2 - (boxOfZ s).x1≤160) && decide ((boxOfZ s).y2 - (boxOfZ s).y1≤160)):=rfl;rw [hz];unfold boxVZ at CB;generalize boxOfZ s=b at *;obtain ⟨h1,h2,h3,h4,h5,h6⟩:=hbx;have k1:=IntWalk.i64_in (b.x2 - b.x1) (by omega);have k2:=IntWalk.i64_in (b.y2 - b.y1) (by omega);clear h hcell hz hpt h1 h2 h3 h4 h5 h6 hs;rcases hd:decide (b.x2 - b.x1≤160) with _ | _
 all_goals
  go_enter Tryz.func134,Tryz.ntmps134
  go_wp2_with fail
  refine CB.out.mono ?_;rintro e w1 ⟨rfl,b1⟩;have bb:=b1.alloc b1.size (.cells #[.int .i64 b.x1,.int .i64 b.y1,.int .i64 b.x2,.int .i64 b.y2] 133)
  go_wp2_with fail
  go_ret;exact ⟨ret_boolI (by simp),bb⟩
theorem arc_prod {s:PStroke} (hs:strokeB s=true) {i:Nat} (hi:i < s.length) {m:Int} (h0:0≤m) (h1:m≤1000):0≤arcZ s i * m∧arcZ s i * m≤5559660000:=by
 have hl:=(stroke_pts hs).1;have ha:=arcZ_small hs i hi;exact ⟨Int.mul_nonneg ha.1 h0,Int.le_trans (Int.mul_le_mul (show arcZ s i≤5559660 by omega) h1 h0 (by omega)) (by omega)⟩
theorem hit_none {s:PStroke} {part parts:Int} {k:Nat} (hk:k=s.length) (h:∀ i,i < k→hitZ s part parts i=false):spotZ s part parts=((pt s 0).x,(pt s 0).y):=by
 have:(List.range s.length).find? (hitZ s part parts)=none:=List.find?_eq_none.2 fun x hx=>by
  rw [h x (by rw [hk]; exact List.mem_range.1 hx)]; simp
 rw [spotZ,this]
theorem hit_some {s:PStroke} {part parts:Int} {k:Nat} (hk:k < s.length) (h:∀ i,i < k→hitZ s part parts i=false) (hh:hitZ s part parts k=true):spotZ s part parts=placeZ s part parts k:=by
 have:(List.range s.length).find? (hitZ s part parts)=some k:=List.find?_range_eq_some.2 ⟨hh,List.mem_range.2 hk,fun j hj=>by rw [h j hj]; rfl⟩;rw [spotZ,this]
theorem hit_small {s:PStroke} {part parts:Int} {k:Nat} (hs:strokeB s=true) (h0:0≤part) (h1:part≤1000) (h2:1≤parts) (h3:parts≤1000) (hk:k+1 < s.length) (h:∀ i,i < k+1→hitZ s part parts i=false) (hh:hitZ s part parts (k+1)=true) :
 0 < arcZ s (k+1) - arcZ s k∧arcZ s (k+1) - arcZ s k≤92661∧0 < (arcZ s (k+1) - arcZ s k) * parts∧(arcZ s (k+1) - arcZ s k) * parts≤92661000∧0≤arcZ s (s.length - 1) * part - arcZ s k * parts∧arcZ s (s.length - 1) * part - arcZ s k * parts≤(arcZ s (k+1) - arcZ s k) * parts:=by
 have hb:=before_hit (s:=s) (part:=part) (parts:=parts) (arc_prod hs (by omega) h0 h1).1 k (fun i hi=>h i (by omega));rw [hitZ,Bool.and_eq_true,Bool.and_eq_true,decide_eq_true_iff,decide_eq_true_iff,decide_eq_true_iff,Nat.add_sub_cancel] at hh;obtain ⟨q1,q2,q3⟩:=hh;have hm:=arcZ_mono (s:=s) k
 have hl:arcZ s (k+1) - arcZ s k≤92661:=by
  obtain ⟨-,-,hpt⟩:=stroke_pts hs;have:=lenZ_small (hpt k (by omega)).1 (hpt (k+1) hk).1;rw [(hpt k (by omega)).2,(hpt (k+1) hk).2] at this;rw [arcZ]; omega
 have hp:(arcZ s (k+1) - arcZ s k) * parts≤92661 * 1000:=Int.mul_le_mul hl h3 (by omega) (by omega);have hpos:0 < (arcZ s (k+1) - arcZ s k) * parts:=Int.mul_pos (by omega) (by omega);refine ⟨by omega,hl,hpos,by omega,by omega,?_⟩;rw [Int.sub_mul];omega
theorem mul_small {d r:Int} (hd:-4095≤d∧d≤4095) (hr:0≤r∧r≤92661000):-1152921504606846976≤d * r∧d * r≤1152921504606846976:=by
 have h1:d * r≤4095 * 92661000:=Int.le_trans (Int.mul_le_mul_of_nonneg_right hd.2 hr.1) (Int.mul_le_mul_of_nonneg_left hr.2 (by omega))
 have h2:-(4095 * 92661000)≤d * r:=by
  have:-d * r≤4095 * 92661000:=Int.le_trans (Int.mul_le_mul_of_nonneg_right (by omega) hr.1) (Int.mul_le_mul_of_nonneg_left hr.2 (by omega));rw [Int.neg_mul] at this;omega
 omega
theorem spec_l06At_c {ob oa:Bool} {e:TypeId} {s:PStroke} {A:Option Addr} {c gB oB:Nat} {F Fa:List Nat} {va:Value} {part parts:Int} (w:World) (gl:gB < w.heap.size) (hcell:w.cell? ⟨gB,oB,none⟩=some (.slice A s.length c)) (h:(pPoints e).rep ob w s [.slice A s.length c] F) (ha:(nums 2).rep oa w (arcs s s.length) [va] Fa) (hs:strokeB s=true) (hp:0≤part∧part≤1000) (hq:1≤parts∧parts≤1000) :
 Calls Tryz.prog 118 #[.pointer (some ⟨gB,oB,none⟩),va,.int .i64 part,.int .i64 parts] w fun e w'=>e=.returned (.agg #[.int .i64 (spotZ s part parts).1,.int .i64 (spotZ s part parts).2])∧Below w.heap.size w w':=by
 obtain ⟨hl60,hl1,hpt⟩:=stroke_pts hs;obtain ⟨m,hm⟩:∃ m,s.length=m+1:=⟨s.length - 1,by omega⟩
 obtain ⟨Au,uc,rfl,-,-,hu⟩:=nums_open ha;obtain ⟨ub,uo,rfl,hub,-,um,-⟩:=hu m (by rw [arcs_len]; omega);rw [arcs_get] at um;rw [arcs_len];have HA:=Lib.hid ha;have H:=Lib.hid h;have GL:=Lib.hid gl;have HC:=Lib.hid hcell;have HUB:=Lib.hid hub;have kl:IntKind.i64.wrap ((s.length:Int) - 1)=(m:Int):=(IntWalk.i64_in _ (by omega)).trans (by omega);have gm:(m:Int) < (s.length:Int):=by omega
 have gm0:(0:Int)≤(m:Int):=by omega
 have hap:=arc_prod hs (i:=m) (by omega) hp.1 hp.2;obtain ⟨G,hG⟩:∃ G,arcZ s m * part=G:=⟨_,rfl⟩
 rw [hG] at hap;have kG:IntKind.i64.wrap (arcZ s m * part)=G:=by rw [hG]; exact IntWalk.i64_in _ (by omega)
 have hGl:arcZ s (s.length - 1) * part=G:=by rw [hm,Nat.add_sub_cancel]; exact hG
 have R0:=Row.new w 179 #[.int .i64 0,.int .i64 0];have bb:Below w.heap.size w (w.alloc (.cells #[.int .i64 0,.int .i64 0] 179)):=(Below.refl _ _).alloc (Nat.le_refl _) _;have ST:=Lib.hid (And.intro R0 bb);have HM:=Lib.hid hm;have HP:=Lib.hid hp;have HQ:=Lib.hid hq;have HPT:=Lib.hid hpt;have HGL:=Lib.hid hGl;have HAP:=Lib.hid hap;clear R0 bb hu ha h gl hcell hm hp hq hpt hGl hG hap
 go_enter Tryz.func118,Tryz.ntmps118
 go_wp2_with fail
 clear um kl gm gm0 kG hub
 go_loopw [10] (fun i wr=>∃ k:Nat,i=.int .i64 k∧1≤k∧k≤s.length∧Hid (Row wr w.heap.size 179 [.int .i64 0,.int .i64 0]∧Below w.heap.size w wr∧∀ i,i < k→hitZ s part parts i=false)) (fun i _=>s.length - (intOf i).toNat)
 case atStart=>exact ⟨1,rfl,by omega,hl1,Lib.hid ⟨ST.out.1,ST.out.2,fun i hi=>by rw [show i=0 by omega]; rfl⟩⟩
 case round =>
  obtain ⟨k,rfl,hk1,hk,all⟩:=hrel;obtain ⟨R0,hb,hno⟩:=all.out;have hsz:=R0.lt;have x0:=(hb.cell (p:=⟨gB,oB,none⟩) GL.out).trans HC.out;have hgB:=Nat.lt_of_lt_of_le GL.out hb.size;clear all ST
  by_cases hlt:k < s.length
  · obtain ⟨k1,rfl⟩:∃ k1,k=k1+1:=⟨k - 1,by omega⟩
    obtain ⟨A',c',he,-,-,hu⟩:=nums_open (HA.out.below hb);simp only [Value.slice.injEq,arcs_len] at he;obtain ⟨hA1,-,hA2⟩:=he;obtain ⟨ub',uo',e8,hub,-,u0,-⟩:=hu k1 (by rw [arcs_len]; omega);obtain ⟨ub'',uo'',e9,-,-,u1,-⟩:=hu (k1+1) (by rw [arcs_len]; omega);subst hA1;subst hA2;cases e8;cases e9;rw [arcs_get] at u0 u1
    have hn1:hitZ s part parts (k1+1)=(decide (arcZ s (k1+1)≠arcZ s k1) && decide (G≤arcZ s (k1+1) * parts)):=by
     rw [hitZ,HGL.out,Nat.add_sub_cancel,show decide (0 < k1+1)=true by simp,Bool.true_and]
    have nx:hitZ s part parts (k1+1)=false→∀ i,i < k1+1+1→hitZ s part parts i=false:=fun hf i hi=>by
     by_cases hik:i=k1+1
     · rw [hik]; exact hf
     · exact hno i (by omega)
    have hsm:=hit_small hs HP.out.1 HP.out.2 HQ.out.1 HQ.out.2 hlt hno;have hsp:=hit_some hlt hno;rw [HGL.out] at hsm;have R1:=Lib.hid (fun n=>And.intro (R0.drewN n) (below_drewN hb n));have hpr:=arc_prod hs hlt (m:=parts) (by have:=HQ.out; omega) HQ.out.2;have hpr0:=arc_prod hs (i:=k1) (by omega) (m:=parts) (by have:=HQ.out; omega) HQ.out.2;have kP:=IntWalk.i64_in (arcZ s (k1+1) * parts) (by omega);have kP0:=IntWalk.i64_in (arcZ s k1 * parts) (by omega);have HPR:=Lib.hid (And.intro hpr hpr0);have kw:=IntWalk.i64_in (((k1+1:Nat):Int)+1) (by omega);have km:IntKind.i64.wrap (((k1+1:Nat):Int) - 1)=(k1:Int):=by rw [IntWalk.i64_in _ (by omega)]; omega
    have g1:((k1+1:Nat):Int) < (s.length:Int):=by omega
    have g2:(k1:Int) < (s.length:Int):=by omega
    have g3:(0:Int)≤(k1:Int):=by omega
    have HN1:=Lib.hid hn1;have NX:=Lib.hid nx;have HSM:=Lib.hid hsm;have HSP:=Lib.hid hsp;have HB:=Lib.hid hb;clear hu nx hsm hsp hno hn1 hb hpr hpr0 R0;generalize hkk:((k1+1:Nat):Int)=kk at kw km g1 ⊢;have gk:kk.toNat=k1+1:=by omega
    have g5:0≤kk:=by omega
    have HKK:=Lib.hid hkk;clear hkk
    by_cases hz:arcZ s (k1+1)=arcZ s k1
    · have hf:hitZ s part parts (k1+1)=false:=by rw [HN1.out]; simp [hz]
      have HF:=Lib.hid (NX.out hf);rw [hz] at u1;clear hf hz HN1 NX HSM HSP kP
      go_wp2_with fail
      go_quiet (fail)
      go_wp2_with fail
      obtain ⟨q1,q2⟩:=R1.out nq;refine ⟨⟨k1+1+1,?_,by omega,by omega,Lib.hid ⟨q1,q2,HF.out⟩⟩,?_⟩
      · rw [← HKK.out]; go_num
      · rw [← HKK.out]; simp [intOf]; omega
    · by_cases hgp:arcZ s (k1+1) * parts < G
      · have hf:hitZ s part parts (k1+1)=false:=by rw [HN1.out]; simp; omega
        have HF:=Lib.hid (NX.out hf);clear hf HN1 NX HSM HSP
        go_wp2_with fail
        go_quiet (fail)
        go_wp2_with fail
        obtain ⟨q1,q2⟩:=R1.out nq;refine ⟨⟨k1+1+1,?_,by omega,by omega,Lib.hid ⟨q1,q2,HF.out⟩⟩,?_⟩
        · rw [← HKK.out]; go_num
        · rw [← HKK.out]; simp [intOf]; omega
      · have hf:hitZ s part parts (k1+1)=true:=by rw [HN1.out]; simp; omega
        obtain ⟨m1,m2,m3,m4,m5,m6⟩:=HSM.out hf;have hsp:=HSP.out hf;have hin:=spotZ_in (s:=s) (part:=part) (parts:=parts) (xl:=0) (xh:=4095) (yl:=0) (yh:=4095) hs HP.out.1 (by have:=HQ.out; omega) (fun j hj=>by have:=(HPT.out j hj).1; rw [(HPT.out j hj).2] at this; simp only [pointB,inR,Bool.and_eq_true,decide_eq_true_eq] at this; omega) (fun j hj=>by have:=(HPT.out j hj).1; rw [(HPT.out j hj).2] at this; simp only [pointB,inR,Bool.and_eq_true,decide_eq_true_eq] at this; omega);rw [hsp,placeZ] at hin;rw [placeZ] at hsp;simp only [Nat.add_sub_cancel] at hsp hin;rw [HGL.out,← (HPT.out k1 (by omega)).2,← (HPT.out (k1+1) hlt).2] at hsp hin;have pa:=(HPT.out k1 (by omega)).1;have pb:=(HPT.out (k1+1) hlt).1;simp only [pointB,inR,Bool.and_eq_true,decide_eq_true_eq] at pa pb;obtain ⟨rs,hrs⟩:∃ r,G - arcZ s k1 * parts=r:=⟨_,rfl⟩
        obtain ⟨al,hal⟩:∃ r,(arcZ s (k1+1) - arcZ s k1) * parts=r:=⟨_,rfl⟩
        rw [hrs,hal] at hsp hin;rw [hal] at m3 m4 m6;rw [hrs] at m5 m6;obtain ⟨b1,b2⟩:=mul_small (d:=s[k1+1].x - s[k1].x) (r:=rs) (by omega) (by omega);obtain ⟨b3,b4⟩:=mul_small (d:=s[k1+1].y - s[k1].y) (r:=rs) (by omega) (by omega);have CX:=Lib.hid (fun w=>spec_l05Near_c ((s[k1+1].x - s[k1].x) * rs) al w m3 (by omega) (by omega));have CY:=Lib.hid (fun w=>spec_l05Near_c ((s[k1+1].y - s[k1].y) * rs) al w m3 (by omega) (by omega));have z1:IntKind.i64.wrap (G - arcZ s k1 * parts)=rs:=by rw [hrs]; exact IntWalk.i64_in _ (by omega)
        have z2:=IntWalk.i64_in (arcZ s (k1+1) - arcZ s k1) (by omega);have z3:IntKind.i64.wrap ((arcZ s (k1+1) - arcZ s k1) * parts)=al:=by rw [hal]; exact IntWalk.i64_in _ (by omega)
        have z4:=IntWalk.i64_in (s[k1+1].x - s[k1].x) (by omega);have z5:=IntWalk.i64_in (s[k1+1].y - s[k1].y) (by omega);have z6:=IntWalk.i64_in ((s[k1+1].x - s[k1].x) * rs) (by omega);have z7:=IntWalk.i64_in ((s[k1+1].y - s[k1].y) * rs) (by omega);have z8:=IntWalk.i64_in (s[k1].x+nearZ ((s[k1+1].x - s[k1].x) * rs) al) (by omega);have z9:=IntWalk.i64_in (s[k1].y+nearZ ((s[k1+1].y - s[k1].y) * rs) al) (by omega);obtain ⟨A',c',he,-,-,hr⟩:=pPoints_open (H.out.below HB.out);cases he;obtain ⟨bp,op,rfl,hbp,-,p0,p1,p2,-⟩:=hr k1 (by omega);obtain ⟨bp',op',e8,-,-,q0,q1,q2,-⟩:=hr (k1+1) hlt;cases e8;have g6:¬ kk=(s.length:Int):=by omega
        have HSP2:=Lib.hid hsp;have hd:decide (arcZ s (k1+1) * parts < G)=false:=by simp; omega
        clear hgp;clear hr hf hsp hin hrs hal m1 m2 m3 m4 m5 m6 pa pb b1 b2 b3 b4 HN1 NX HSM HSP HPT HGL HAP HM HP HQ HPR H
        go_wp2_with fail
        go_quiet (fail)
        obtain ⟨m9,rfl⟩:∃ n:Nat,n=nq:=⟨_,rfl⟩
        obtain ⟨S0,sb⟩:=R1.out m9;replace x0:(wr.drewN m9).cell? _=_:=x0;replace u0:(wr.drewN m9).cell? _=_:=u0;replace u1:(wr.drewN m9).cell? _=_:=u1;replace p0:(wr.drewN m9).cell? _=_:=p0;replace p1:(wr.drewN m9).cell? _=_:=p1;replace p2:(wr.drewN m9).cell? _=_:=p2;replace q0:(wr.drewN m9).cell? _=_:=q0;replace q1:(wr.drewN m9).cell? _=_:=q1;replace q2:(wr.drewN m9).cell? _=_:=q2;replace hub:ub < (wr.drewN m9).heap.size:=hub;replace hbp:bp < (wr.drewN m9).heap.size:=hbp;replace hgB:gB < (wr.drewN m9).heap.size:=hgB;clear R1 hsz HB;generalize wr.drewN m9=wd at *;have RA:=(Row.new wd 85 #[.int .i64 s[k1].x,.int .i64 s[k1].y,.int .i64 s[k1].t]).alloc (.cells #[.int .i64 s[k1+1].x,.int .i64 s[k1+1].y,.int .i64 s[k1+1].t] 85);have RB:=Row.new (wd.alloc (.cells #[.int .i64 s[k1].x,.int .i64 s[k1].y,.int .i64 s[k1].t] 85)) 85 #[.int .i64 s[k1+1].x,.int .i64 s[k1+1].y,.int .i64 s[k1+1].t];simp only [World.size_alloc] at RB;have RR:=(S0.alloc (.cells #[.int .i64 s[k1].x,.int .i64 s[k1].y,.int .i64 s[k1].t] 85)).alloc (.cells #[.int .i64 s[k1+1].x,.int .i64 s[k1+1].y,.int .i64 s[k1+1].t] 85);have hRl:=S0.lt;have BB:=(sb.alloc sb.size (.cells #[.int .i64 s[k1].x,.int .i64 s[k1].y,.int .i64 s[k1].t] 85)).alloc (by simp; omega) (.cells #[.int .i64 s[k1+1].x,.int .i64 s[k1+1].y,.int .i64 s[k1+1].t] 85);clear S0 sb
        go_wp2_with fail
        go_quiet (fail)
        obtain ⟨m8,rfl⟩:∃ n:Nat,n=nq:=⟨_,rfl⟩
        replace RA:=RA.drewN m8;replace RB:=RB.drewN m8;replace RR:=RR.drewN m8;replace BB:=below_drewN BB m8;clear x0 u0 u1 p0 p1 p2 q0 q1 q2
        go_upto_region 11 with fail
        replace RA:=RA.drew;replace RB:=RB.drew;replace RR:=RR.drew;replace BB:=BB.drew;have hS:=And.intro (RA.c0) (And.intro (RA.c1) (And.intro (RB.c0) (RB.c1)));refine wp_region_held_drew (S:=(fun w':World=>w'.cell? ⟨wd.heap.size,0,none⟩=some (.int .i64 s[k1].x)∧w'.cell? ⟨wd.heap.size,1,none⟩=some (.int .i64 s[k1].y)∧w'.cell? ⟨wd.heap.size+1,0,none⟩=some (.int .i64 s[k1+1].x)∧w'.cell? ⟨wd.heap.size+1,1,none⟩=some (.int .i64 s[k1+1].y))) (by kernel_rfl) hS (fun _=>?_);generalize World.drew _=we at RA RB RR BB hS ⊢;refine tJ 0 hS ?_;refine tJ 1 hS ?_;refine tJ 2 hS ?_;refine tJ 3 hS ?_;refine tJ 4 hS ?_;refine tJ 5 hS ?_;refine tJ 6 hS ?_;refine tJ 7 hS ?_;refine tJ 8 hS ?_;refine tJ 9 hS ?_;refine tJ 12 hS ?_;refine tJ 13 hS ?_;refine tJ 14 hS ?_;refine tJ 15 hS ?_;refine tJ 16 hS ?_;refine tJ 17 hS ?_;refine tJ 18 hS ?_;refine tJ 19 hS ?_;refine tJ 20 hS ?_;refine tJ 21 hS ?_;refine tC (i:=10) 121 #[Go.Operand.tmp 106,Go.Operand.tmp 107] #[.int .i64 ((s[k1+1].x - s[k1].x) * rs),.int .i64 al] Tryz.call121 CX.out hS ?_;simp only [Act.put,pA,pB,pC];refine tC (i:=22) 121 #[Go.Operand.tmp 118,Go.Operand.tmp 119] #[.int .i64 ((s[k1+1].y - s[k1].y) * rs),.int .i64 al] Tryz.call121 CY.out hS ?_;simp only [Act.put,pA,pB,pC];refine tJ 11 hS ?_;refine tJ 23 hS ?_;refine tJ 24 hS ?_;generalize s[k1].x+nearZ ((s[k1+1].x - s[k1].x) * rs) al=nx at *;generalize s[k1].y+nearZ ((s[k1+1].y - s[k1].y) * rs) al=ny at *;have RR':=(RR.set 0 (.int .i64 nx)).set 1 (.int .i64 ny);have v0:=RR.c0;have v1:=RR.c1;have vF:=RR.frozen
        have far:∀ {g i:Nat} {u:Value},g≠w.heap.size→we.cell? ⟨g,i,none⟩=some u→((we.setCell ⟨w.heap.size,0,none⟩ (.int .i64 nx)).setCell ⟨w.heap.size,1,none⟩ (.int .i64 ny)).cell? ⟨g,i,none⟩=some u:=fun hg hc =>
         (World.cell?_of_block ((Below.heap_setCell _ ⟨w.heap.size,1,none⟩ _ _ hg).trans (Below.heap_setCell _ ⟨w.heap.size,0,none⟩ _ _ hg))).trans hc
        have bb2:=(BB.setCell (p:=⟨w.heap.size,0,none⟩) (by show w.heap.size≤w.heap.size; omega) (.int .i64 nx)).setCell (p:=⟨w.heap.size,1,none⟩) (by show w.heap.size≤w.heap.size; omega) (.int .i64 ny);have hS2:=And.intro (far (by omega) hS.1) (And.intro (far (by omega) hS.2.1) (And.intro (far (by omega) hS.2.2.1) (far (by omega) hS.2.2.2)));refine rJ 25 fun K hK=>?_
        clear hS
        go_simp
        refine bJ hK hS2 ?_;clear hK K hS2 far v0 v1 vF;refine wpAnyH_done (by kernel_rfl) ?_ _;have e0:=RR'.c0;have e3:=RR'.c1
        go_wp2_with fail
        rw [HSP2.out];refine bodyPost_ret (v:=.agg #[.int .i64 nx,.int .i64 ny]) (by simp only [results,Tryz.results118]; go_simp) rfl ⟨rfl,bb2⟩
  · have hke:k=s.length:=by omega
    subst hke;obtain ⟨A',c',he,-,-,hr⟩:=pPoints_open (H.out.below hb);cases he;obtain ⟨bp,op,rfl,hbp,-,p0,p1,p2,-⟩:=hr 0 hl1;simp only [Nat.zero_mul,Nat.add_zero] at p0 p1 p2;have gk:¬ (s.length:Int) < (s.length:Int):=by omega
    have g0:(0:Int) < (s.length:Int):=by omega
    have hsp:=hit_none rfl hno;rw [pt_get hl1] at hsp;have HSP:=Lib.hid hsp;have R1:=Lib.hid (fun n=>And.intro (R0.drewN n) (below_drewN hb n));clear hr hno H hsp hb R0 hlt HPT HGL HAP HM HP HQ hk hk1 HA HC GL
    go_wp2_with fail
    go_quiet (fail)
    obtain ⟨m9,rfl⟩:∃ n:Nat,n=nq:=⟨_,rfl⟩
    obtain ⟨S0,sb⟩:=R1.out m9;replace x0:(wr.drewN m9).cell? _=_:=x0;replace p0:(wr.drewN m9).cell? _=_:=p0;replace p1:(wr.drewN m9).cell? _=_:=p1;replace p2:(wr.drewN m9).cell? _=_:=p2;clear R1 hsz hgB hbp;generalize wr.drewN m9=wd at *
    go_wp2_with fail
    refine (spec_l06Spot_c s[0] _).mono ?_;rintro e w2 ⟨rfl,b2⟩;replace S0:=S0.later b2;replace sb:=sb.trans (b2.mono sb.size);have v0:=S0.c0;have v1:=S0.c1;have vF:=S0.frozen;have T0:=(S0.set 0 (.int .i64 s[0].x)).set 1 (.int .i64 s[0].y);have TB:=(sb.setCell (p:=⟨w.heap.size,0,none⟩) (Nat.le_refl _) (.int .i64 s[0].x)).setCell (p:=⟨w.heap.size,1,none⟩) (Nat.le_refl _) (.int .i64 s[0].y);have e0:=T0.c0;have e1:=T0.c1;clear x0 p0 p1 p2 b2 sb S0 T0
    go_wp2_with fail
    rw [HSP.out];refine bodyPost_ret (v:=.agg #[.int .i64 s[0].x,.int .i64 s[0].y]) (by simp only [results,Tryz.results118]; go_simp) rfl ⟨rfl,TB⟩
end Go.Proofs.YtafgknkcjohjeaaGreatDoor

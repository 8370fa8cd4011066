/- Places in the normal square. Conditions: none. -/
import Derived.Test.YtafgknkcjohjeaaGreatDoorTke
import Derived.Test.YtafgknkcjohjeaaGreatDoorRwDe
import Derived.Test.YtafgknkcjohjeaaGreatDoorRcLate
import Derived.Test.YtafgknkcjohjeaaGreatDoorTyFeate
namespace Go.Proofs.YtafgknkcjohjeaaGreatDoor
open Go Go.RowKit
set_option maxHeartbeats 8000000
set_option maxRecDepth 100000
def BoxInZ (b:BoxZ):Prop:=0≤b.x1∧b.x1≤b.x2∧b.x2≤4095∧0≤b.y1∧b.y1≤b.y2∧b.y2≤4095
theorem maxZ_c (a b:Int) (w:World):Calls Tryz.prog 59 #[.int .i64 a,.int .i64 b] w fun e w'=>e=.returned (.int .i64 (max a b))∧w'=w:=by
 by_cases h:b < a
 · go_enter Tryz.func59,Tryz.ntmps59
   go_wp2_with fail
   go_ret;exact ⟨congrArg (fun x=>Ending.returned (.int .i64 x)) (by omega),rfl⟩
 · go_enter Tryz.func59,Tryz.ntmps59
   go_wp2_with fail
   go_ret;exact ⟨congrArg (fun x=>Ending.returned (.int .i64 x)) (by omega),rfl⟩
theorem spec_l07Side_c (b:BoxZ) (w:World) (hb:BoxInZ b) :
 Calls Tryz.prog 120 #[.agg #[.int .i64 b.x1,.int .i64 b.y1,.int .i64 b.x2,.int .i64 b.y2]] w fun e w'=>e=.returned (.int .i64 (sideZ b))∧Below w.heap.size w w':=by
 obtain ⟨h1,h2,h3,h4,h5,h6⟩:=hb;have k1:=IntWalk.i64_in (b.x2 - b.x1) (by omega);have k2:=IntWalk.i64_in (b.y2 - b.y1) (by omega);have bb:Below w.heap.size w (w.alloc (.cells #[.int .i64 b.x1,.int .i64 b.y1,.int .i64 b.x2,.int .i64 b.y2] 133)):=(Below.refl _ _).alloc (Nat.le_refl _) _;unfold sideZ;clear h1 h2 h3 h4 h5 h6
 go_enter Tryz.func120,Tryz.ntmps120
 go_wp2_with fail
 refine (maxZ_c _ _ _).mono ?_;rintro e w1 ⟨rfl,rfl⟩
 go_wp2_with fail
 refine (maxZ_c _ _ _).mono ?_;rintro e w1 ⟨rfl,rfl⟩
 go_wp2_with fail
 go_ret;exact ⟨congrArg (fun x=>Ending.returned (.int .i64 x)) (by omega),bb⟩
theorem spec_l07Normal_c (p:Int × Int) (b:BoxZ) (w:World) (hb:BoxInZ b) (hx:b.x1≤p.1∧p.1≤b.x2) (hy:b.y1≤p.2∧p.2≤b.y2) :
 Calls Tryz.prog 93 #[.agg #[.int .i64 p.1,.int .i64 p.2],.agg #[.int .i64 b.x1,.int .i64 b.y1,.int .i64 b.x2,.int .i64 b.y2]] w fun e w'=>e=.returned (.agg #[.int .i64 (normZ p b).1,.int .i64 (normZ p b).2])∧Below w.heap.size w w':=by
 obtain ⟨h1,h2,h3,h4,h5,h6⟩:=hb;obtain ⟨px,py⟩:=p;dsimp only at hx hy ⊢;have CS:=Lib.hid (spec_l07Side_c b (((w.alloc (.cells #[.int .i64 px,.int .i64 py] 179)).alloc (.cells #[.int .i64 b.x1,.int .i64 b.y1,.int .i64 b.x2,.int .i64 b.y2] 133)).alloc (.cells #[.int .i64 0,.int .i64 0] 179)) ⟨h1,h2,h3,h4,h5,h6⟩);have R2:=((Row.new w 179 #[.int .i64 px,.int .i64 py]).alloc (.cells #[.int .i64 b.x1,.int .i64 b.y1,.int .i64 b.x2,.int .i64 b.y2] 133)).alloc (.cells #[.int .i64 0,.int .i64 0] 179);have R3:=(Row.new (w.alloc (.cells #[.int .i64 px,.int .i64 py] 179)) 133 #[.int .i64 b.x1,.int .i64 b.y1,.int .i64 b.x2,.int .i64 b.y2]).alloc (.cells #[.int .i64 0,.int .i64 0] 179);have R4:=Row.new ((w.alloc (.cells #[.int .i64 px,.int .i64 py] 179)).alloc (.cells #[.int .i64 b.x1,.int .i64 b.y1,.int .i64 b.x2,.int .i64 b.y2] 133)) 179 #[.int .i64 0,.int .i64 0];simp only [World.size_alloc] at R3 R4;have bb:Below w.heap.size w (((w.alloc (.cells #[.int .i64 px,.int .i64 py] 179)).alloc (.cells #[.int .i64 b.x1,.int .i64 b.y1,.int .i64 b.x2,.int .i64 b.y2] 133)).alloc (.cells #[.int .i64 0,.int .i64 0] 179)):=(((Below.refl _ _).alloc (Nat.le_refl _) _).alloc (by simp) _).alloc (by simp; omega) _;have hn:normZ (px,py) b=((255 - (b.x2 - b.x1) * 255 / sideZ b) / 2+nearZ ((px - b.x1) * 255) (sideZ b),(255 - (b.y2 - b.y1) * 255 / sideZ b) / 2+nearZ ((py - b.y1) * 255) (sideZ b)):=rfl;rw [hn];have hs0:1≤sideZ b∧sideZ b≤4095∧b.x2 - b.x1≤sideZ b∧b.y2 - b.y1≤sideZ b:=by unfold sideZ; omega
 have n1:=norm_one (w:=b.x2 - b.x1) (m:=px - b.x1) (side:=sideZ b) (by omega) (by omega) (by omega) (by omega);have n2:=norm_one (w:=b.y2 - b.y1) (m:=py - b.y1) (side:=sideZ b) (by omega) (by omega) (by omega) (by omega)
 have m1:∀ d:Int,0≤d→d≤sideZ b→0≤d * 255 / sideZ b∧d * 255 / sideZ b≤255:=fun d hd0 hd1 =>
  ⟨Int.ediv_nonneg (by omega) (by omega),Int.ediv_le_of_le_mul (by omega) (by omega)⟩
 have CN:=Lib.hid (fun n w (hn:-1152921504606846976≤n∧n≤1152921504606846976)=>spec_l05Near_c n (sideZ b) w (by omega) hn (by omega));generalize sideZ b=sd at *;have q1:=m1 (b.x2 - b.x1) (by omega) (by omega);have q2:=m1 (b.y2 - b.y1) (by omega) (by omega);have a1:=IntWalk.i64_in (b.x2 - b.x1) (by omega);have a2:=IntWalk.i64_in (b.y2 - b.y1) (by omega);have a3:=IntWalk.i64_in ((b.x2 - b.x1) * 255) (by omega);have a4:=IntWalk.i64_in ((b.y2 - b.y1) * 255) (by omega);have a5:((b.x2 - b.x1) * 255).tdiv sd=(b.x2 - b.x1) * 255 / sd:=Int.tdiv_eq_ediv_of_nonneg (by omega);have a6:((b.y2 - b.y1) * 255).tdiv sd=(b.y2 - b.y1) * 255 / sd:=Int.tdiv_eq_ediv_of_nonneg (by omega);have a7:(px - b.x1:Int) * 255≤1152921504606846976∧-1152921504606846976≤(px - b.x1) * 255:=by omega
 have a8:(py - b.y1:Int) * 255≤1152921504606846976∧-1152921504606846976≤(py - b.y1) * 255:=by omega
 have b1:=IntWalk.i64_in (px - b.x1) (by omega);have b2:=IntWalk.i64_in (py - b.y1) (by omega);have b3:=IntWalk.i64_in ((px - b.x1) * 255) (by omega);have b4:=IntWalk.i64_in ((py - b.y1) * 255) (by omega);have CX:=Lib.hid (fun w=>CN.out ((px - b.x1) * 255) w (by omega));have CY:=Lib.hid (fun w=>CN.out ((py - b.y1) * 255) w (by omega));have c1:=IntWalk.i64_in ((b.x2 - b.x1) * 255 / sd) (by omega);have c2:=IntWalk.i64_in ((b.y2 - b.y1) * 255 / sd) (by omega);generalize (b.x2 - b.x1) * 255 / sd=qx at *;generalize (b.y2 - b.y1) * 255 / sd=qy at *;have c3:=IntWalk.i64_in (255 - qx) (by omega);have c4:=IntWalk.i64_in (255 - qy) (by omega);have c5:(255 - qx).tdiv 2=(255 - qx) / 2:=Int.tdiv_eq_ediv_of_nonneg (by omega);have c6:(255 - qy).tdiv 2=(255 - qy) / 2:=Int.tdiv_eq_ediv_of_nonneg (by omega);have c7:=IntWalk.i64_in ((255 - qx) / 2) (by omega);have c8:=IntWalk.i64_in ((255 - qy) / 2) (by omega);have d1:=IntWalk.i64_in ((255 - qx) / 2+nearZ ((px - b.x1) * 255) sd) (by omega);have d2:=IntWalk.i64_in ((255 - qy) / 2+nearZ ((py - b.y1) * 255) sd) (by omega);have e1:(sd == 0)=false:=by simp; omega
 have e2:¬ sd=0:=by omega
 generalize nearZ ((px - b.x1) * 255) sd=zx at *;generalize nearZ ((py - b.y1) * 255) sd=zy at *;clear n1 n2 m1 q1 q2 hn h1 h2 h3 h4 h5 h6 hx hy CN hs0 a7 a8
 go_enter Tryz.func93,Tryz.ntmps93
 go_wp2_with fail
 refine CS.out.mono ?_;rintro e w1 ⟨rfl,bw⟩;replace R3:=R3.later bw;have f0:=R3.c0;have f1:=R3.c1;have f2:=R3.c2;have f3:=R3.c3
 go_upto_region 4 with fail
 clear f0 f1 f2 f3;replace R2:=(R2.later bw).drew;replace R3:=R3.drew;replace R4:=(R4.later bw).drew;replace bb:=(bb.trans (bw.mono bb.size)).drew;clear CS bw;have hS:(fun w':World=>w'.cell? ⟨w.heap.size,0,none⟩=some (.int .i64 px)∧w'.cell? ⟨w.heap.size,1,none⟩=some (.int .i64 py)∧w'.cell? ⟨w.heap.size+1,0,none⟩=some (.int .i64 b.x1)∧w'.cell? ⟨w.heap.size+1,1,none⟩=some (.int .i64 b.y1)) w1.drew:=⟨R2.c0,R2.c1,R3.c0,R3.c1⟩
 dsimp only at hS;refine wp_region_held_drew (S:=(fun w':World=>w'.cell? ⟨w.heap.size,0,none⟩=some (.int .i64 px)∧w'.cell? ⟨w.heap.size,1,none⟩=some (.int .i64 py)∧w'.cell? ⟨w.heap.size+1,0,none⟩=some (.int .i64 b.x1)∧w'.cell? ⟨w.heap.size+1,1,none⟩=some (.int .i64 b.y1))) (by kernel_rfl) hS (fun _=>?_);generalize w1.drew=w2 at R2 R3 R4 bb hS ⊢;refine tJ 0 hS ?_;refine tJ 1 hS ?_;refine tJ 2 hS ?_;refine tJ 3 hS ?_;refine tJ 4 hS ?_;refine tJ 5 hS ?_;refine tJ 6 hS ?_;refine tJ 7 hS ?_;refine tJ 10 hS ?_;refine tJ 11 hS ?_;refine tJ 12 hS ?_;refine tJ 13 hS ?_;refine tJ 14 hS ?_;refine tJ 15 hS ?_;refine tJ 16 hS ?_;refine tJ 17 hS ?_;refine tC (i:=8) 121 #[Go.Operand.tmp 36,Go.Operand.tmp 37] #[.int .i64 ((px - b.x1) * 255),.int .i64 sd] Tryz.call121 CX.out hS ?_;simp only [Act.put,pA,pB,pC];refine tC (i:=18) 121 #[Go.Operand.tmp 46,Go.Operand.tmp 47] #[.int .i64 ((py - b.y1) * 255),.int .i64 sd] Tryz.call121 CY.out hS ?_;simp only [Act.put,pA,pB,pC];refine tJ 9 hS ?_;refine tJ 19 hS ?_;refine tJ 20 hS ?_;have R4':=(R4.set 0 (.int .i64 ((255 - qx) / 2+zx))).set 1 (.int .i64 ((255 - qy) / 2+zy));have v0:=R4.c0;have v1:=R4.c1;have vF:=R4.frozen
 have far:∀ {g i:Nat} {u:Value},g≠w.heap.size+1+1→w2.cell? ⟨g,i,none⟩=some u→((w2.setCell ⟨w.heap.size+1+1,0,none⟩ (.int .i64 ((255 - qx) / 2+zx))).setCell ⟨w.heap.size+1+1,1,none⟩ (.int .i64 ((255 - qy) / 2+zy))).cell? ⟨g,i,none⟩=some u:=fun hg hc =>
  (World.cell?_of_block ((Below.heap_setCell _ ⟨w.heap.size+1+1,1,none⟩ _ _ hg).trans (Below.heap_setCell _ ⟨w.heap.size+1+1,0,none⟩ _ _ hg))).trans hc
 have bb2:=(bb.setCell (p:=⟨w.heap.size+1+1,0,none⟩) (by show w.heap.size≤w.heap.size+1+1; omega) (.int .i64 ((255 - qx) / 2+zx))).setCell (p:=⟨w.heap.size+1+1,1,none⟩) (by show w.heap.size≤w.heap.size+1+1; omega) (.int .i64 ((255 - qy) / 2+zy));have hS2:=And.intro (far (by omega) hS.1) (And.intro (far (by omega) hS.2.1) (And.intro (far (by omega) hS.2.2.1) (far (by omega) hS.2.2.2)));refine rJ 21 fun K hK=>?_
 clear hS
 go_simp
 refine bJ hK hS2 ?_;clear hK K hS2 far v0 v1 vF;refine wpAnyH_done (by kernel_rfl) ?_ _;have e0:=R4'.c0;have e3:=R4'.c1
 go_wp2_with fail
 refine bodyPost_ret (v:=.agg #[.int .i64 ((255 - qx) / 2+zx),.int .i64 ((255 - qy) / 2+zy)]) (by simp only [results,Tryz.results93]; go_simp) rfl ⟨rfl,bb2⟩
theorem spec_l05Size_c (n:Int) (w:World) (hn:-9223372036854775807≤n):Calls Tryz.prog 119 #[.int .i64 n] w fun e w'=>e=.returned (.int .i64 (absZ n))∧w'=w:=by
 by_cases h:n < 0
 · have he:absZ n=-n:=by unfold absZ; rw [if_pos h]
   have k:=IntWalk.i64_in (-n) (by omega);rw [he]
   go_enter Tryz.func119,Tryz.ntmps119
   go_wp2_with fail
   go_ret;exact ⟨rfl,rfl⟩
 · have he:absZ n=n:=by unfold absZ; rw [if_neg h]
   rw [he]
   go_enter Tryz.func119,Tryz.ntmps119
   go_wp2_with fail
   go_ret;exact ⟨rfl,rfl⟩
theorem dir_cases {dx dy A X Y:Int} (hA:(absZ dx+absZ dy) * (absZ dx+absZ dy)=A) (hX:2 * absZ dx * absZ dx=X) (hY:2 * absZ dy * absZ dy=Y) :
 (A≤X∧0 < dx∧dirZ dx dy=0)∨(A≤X∧¬ 0 < dx∧dirZ dx dy=4)∨(¬ A≤X∧A≤Y∧0 < dy∧dirZ dx dy=2)∨(¬ A≤X∧A≤Y∧¬ 0 < dy∧dirZ dx dy=6) ∨
   (¬ A≤X∧¬ A≤Y∧0 < dx∧0 < dy∧dirZ dx dy=1)∨(¬ A≤X∧¬ A≤Y∧dx < 0∧0 < dy∧dirZ dx dy=3)∨(¬ A≤X∧¬ A≤Y∧dx < 0∧dy < 0∧dirZ dx dy=5)∨(¬ A≤X∧¬ A≤Y∧0 < dx∧dy < 0∧dirZ dx dy=7):=by
 have hd:=dir_left (dx:=dx) (dy:=dy);unfold dirZ;rw [hA,hX,hY] at *
 by_cases h1:A≤X
 · by_cases h3:0 < dx
   · left; exact ⟨h1,h3,by rw [if_pos h1,if_pos h3]⟩
   · right; left; exact ⟨h1,h3,by rw [if_pos h1,if_neg h3]⟩
 · by_cases h2:A≤Y
   · by_cases h3:0 < dy
     · right; right; left; exact ⟨h1,h2,h3,by rw [if_neg h1,if_pos h2,if_pos h3]⟩
     · right; right; right; left; exact ⟨h1,h2,h3,by rw [if_neg h1,if_pos h2,if_neg h3]⟩
   · obtain ⟨n1,n2⟩:=hd h1 h2
     right; right; right; right
     rcases Int.lt_or_gt_of_ne n1 with p | p <;> rcases Int.lt_or_gt_of_ne n2 with q | q
     · right; right; left; refine ⟨h1,h2,p,q,?_⟩; rw [if_neg h1,if_neg h2]; (repeat' split) <;> omega
     · right; left; refine ⟨h1,h2,p,q,?_⟩; rw [if_neg h1,if_neg h2]; (repeat' split) <;> omega
     · right; right; right; refine ⟨h1,h2,p,q,?_⟩; rw [if_neg h1,if_neg h2]; (repeat' split) <;> omega
     · left; refine ⟨h1,h2,p,q,?_⟩; rw [if_neg h1,if_neg h2]; (repeat' split) <;> omega
theorem spec_l05Sector_c (dx dy:Int) (w:World) (hx:-5000≤dx∧dx≤5000) (hy:-5000≤dy∧dy≤5000) :
 Calls Tryz.prog 92 #[.int .i64 dx,.int .i64 dy] w fun e w'=>e=.returned (.int .i64 (dirZ dx dy))∧w'=w:=by
 have C1:=Lib.hid (fun w=>spec_l05Size_c dx w (by omega));have C2:=Lib.hid (fun w=>spec_l05Size_c dy w (by omega));have a1:0≤absZ dx∧absZ dx≤5000:=by unfold absZ; split <;> omega
 have a2:0≤absZ dy∧absZ dy≤5000:=by unfold absZ; split <;> omega
 obtain ⟨A,hA⟩:∃ A,(absZ dx+absZ dy) * (absZ dx+absZ dy)=A:=⟨_,rfl⟩
 obtain ⟨X,hX⟩:∃ X,2 * absZ dx * absZ dx=X:=⟨_,rfl⟩
 obtain ⟨Y,hY⟩:∃ Y,2 * absZ dy * absZ dy=Y:=⟨_,rfl⟩
 have hD:=dir_cases hA hX hY;generalize dirZ dx dy=D at hD ⊢;generalize absZ dx=ax at *;generalize absZ dy=ay at *
 have bA:0≤A∧A≤100000000:=by
  rw [← hA]; exact ⟨Int.mul_nonneg (by omega) (by omega),Int.le_trans (Int.mul_le_mul (show ax+ay≤10000 by omega) (show ax+ay≤10000 by omega) (by omega) (by omega)) (by omega)⟩
 have bX:0≤X∧X≤50000000:=by
  rw [← hX]; exact ⟨Int.mul_nonneg (by omega) (by omega),Int.le_trans (Int.mul_le_mul (show 2 * ax≤10000 by omega) (show ax≤5000 by omega) (by omega) (by omega)) (by omega)⟩
 have bY:0≤Y∧Y≤50000000:=by
  rw [← hY]; exact ⟨Int.mul_nonneg (by omega) (by omega),Int.le_trans (Int.mul_le_mul (show 2 * ay≤10000 by omega) (show ay≤5000 by omega) (by omega) (by omega)) (by omega)⟩
 have k1:=IntWalk.i64_in (ax+ay) (by omega);have k2:IntKind.i64.wrap ((ax+ay) * (ax+ay))=A:=by rw [hA]; exact IntWalk.i64_in _ (by omega)
 have k3:=IntWalk.i64_in (2 * ax) (by omega);have k4:=IntWalk.i64_in (2 * ay) (by omega);have k5:IntKind.i64.wrap (2 * ax * ax)=X:=by rw [hX]; exact IntWalk.i64_in _ (by omega)
 have k6:IntKind.i64.wrap (2 * ay * ay)=Y:=by rw [hY]; exact IntWalk.i64_in _ (by omega)
 clear hA hX hY bA bX bY hx hy a1 a2;rcases hD with ⟨h1,h2,hD⟩ | ⟨h1,h2,hD⟩ | ⟨h1,h2,h3,hD⟩ | ⟨h1,h2,h3,hD⟩ | ⟨h1,h2,h3,h4,hD⟩ | ⟨h1,h2,h3,h4,hD⟩ | ⟨h1,h2,h3,h4,hD⟩ | ⟨h1,h2,h3,h4,hD⟩
 all_goals
  subst hD
  (try (have hn1:¬ 0 < dx:=by omega))
  (try (have hn2:¬ 0 < dy:=by omega))
  (try (have hn3:¬ dx < 0:=by omega))
  go_enter Tryz.func92,Tryz.ntmps92
  go_wp2_with fail
  refine (C1.out _).mono ?_;rintro e w1 ⟨rfl,rfl⟩
  go_wp2_with fail
  refine (C2.out _).mono ?_;rintro e w1 ⟨rfl,rfl⟩
  go_wp2_with fail
  go_ret;exact ⟨rfl,rfl⟩
theorem minZ_c (a b:Int) (w:World):Calls Tryz.prog 25 #[.int .i64 a,.int .i64 b] w fun e w'=>e=.returned (.int .i64 (min a b))∧w'=w:=by
 by_cases h:a < b
 · go_enter Tryz.func25,Tryz.ntmps25
   go_wp2_with fail
   go_ret;exact ⟨congrArg (fun x=>Ending.returned (.int .i64 x)) (by omega),rfl⟩
 · go_enter Tryz.func25,Tryz.ntmps25
   go_wp2_with fail
   go_ret;exact ⟨congrArg (fun x=>Ending.returned (.int .i64 x)) (by omega),rfl⟩
theorem spec_l09Size_c (n:Int) (w:World) (hn:-9223372036854775807≤n):Calls Tryz.prog 139 #[.int .i64 n] w fun e w'=>e=.returned (.int .i64 (absZ n))∧w'=w:=by
 by_cases h:n < 0
 · have he:absZ n=-n:=by unfold absZ; rw [if_pos h]
   have k:=IntWalk.i64_in (-n) (by omega);rw [he]
   go_enter Tryz.func139,Tryz.ntmps139
   go_wp2_with fail
   go_ret;exact ⟨rfl,rfl⟩
 · have he:absZ n=n:=by unfold absZ; rw [if_neg h]
   rw [he]
   go_enter Tryz.func139,Tryz.ntmps139
   go_wp2_with fail
   go_ret;exact ⟨rfl,rfl⟩
theorem spec_l09Cost_c (a b:PFeat) (w:World) (ha:featB a=true) (hb:featB b=true) :
 Calls Tryz.prog 140 #[.agg #[.int .i64 a.x,.int .i64 a.y,.int .i64 a.d],.agg #[.int .i64 b.x,.int .i64 b.y,.int .i64 b.d]] w fun e w'=>e=.returned (.int .i64 (costZ a b))∧Below w.heap.size w w':=by
 obtain ⟨ax,ay,ad⟩:=a;obtain ⟨bx,by',bd⟩:=b;simp only [featB,inR,Bool.and_eq_true,decide_eq_true_eq] at ha hb;have hc:costZ ⟨ax,ay,ad⟩ ⟨bx,by',bd⟩=absZ (ax - bx)+absZ (ay - by')+16 * min (absZ (ad - bd)) (8 - absZ (ad - bd)):=rfl;rw [hc];clear hc;have CD:=Lib.hid (fun w=>spec_l09Size_c (ad - bd) w (by omega));have CX:=Lib.hid (fun w=>spec_l09Size_c (ax - bx) w (by omega));have CY:=Lib.hid (fun w=>spec_l09Size_c (ay - by') w (by omega));have q1:0≤absZ (ax - bx)∧absZ (ax - bx)≤255:=by unfold absZ; split <;> omega
 have q2:0≤absZ (ay - by')∧absZ (ay - by')≤255:=by unfold absZ; split <;> omega
 have q3:0≤absZ (ad - bd)∧absZ (ad - bd)≤7:=by unfold absZ; split <;> omega
 have k1:=IntWalk.i64_in (ax - bx) (by omega);have k2:=IntWalk.i64_in (ay - by') (by omega);have k3:=IntWalk.i64_in (ad - bd) (by omega);generalize absZ (ax - bx)=u at *;generalize absZ (ay - by')=v at *;generalize absZ (ad - bd)=t at *;obtain ⟨m,hm⟩:∃ m,min t (8 - t)=m:=⟨_,rfl⟩
 have k4:=IntWalk.i64_in (u+v) (by omega);have k5:=IntWalk.i64_in (8 - t) (by omega);have k6:=IntWalk.i64_in (16 * m) (by omega);have k7:=IntWalk.i64_in (u+v+16 * m) (by omega);have CM:=Lib.hid (fun w=>minZ_c t (8 - t) w);rw [hm] at CM ⊢;have R1:=(Row.new w 182 #[.int .i64 ax,.int .i64 ay,.int .i64 ad]).alloc (.cells #[.int .i64 bx,.int .i64 by',.int .i64 bd] 182);have R2:=Row.new (w.alloc (.cells #[.int .i64 ax,.int .i64 ay,.int .i64 ad] 182)) 182 #[.int .i64 bx,.int .i64 by',.int .i64 bd];simp only [World.size_alloc] at R2;have bb:Below w.heap.size w ((w.alloc (.cells #[.int .i64 ax,.int .i64 ay,.int .i64 ad] 182)).alloc (.cells #[.int .i64 bx,.int .i64 by',.int .i64 bd] 182)):=((Below.refl _ _).alloc (Nat.le_refl _) _).alloc (by simp) _;clear ha hb q1 q2 q3
 go_enter Tryz.func140,Tryz.ntmps140
 go_wp2_with fail
 refine (CD.out _).mono ?_;rintro e w1 ⟨rfl,rfl⟩
 go_upto_region 2 with fail
 replace R1:=R1.drew;replace R2:=R2.drew;replace bb:=bb.drew;have hS:=And.intro (R1.c0) (And.intro (R1.c1) (And.intro (R2.c0) (R2.c1)));refine wp_region_held_drew (S:=(fun w':World=>w'.cell? ⟨w.heap.size,0,none⟩=some (.int .i64 ax)∧w'.cell? ⟨w.heap.size,1,none⟩=some (.int .i64 ay)∧w'.cell? ⟨w.heap.size+1,0,none⟩=some (.int .i64 bx)∧w'.cell? ⟨w.heap.size+1,1,none⟩=some (.int .i64 by'))) (by kernel_rfl) hS (fun _=>?_);generalize World.drew _=w2 at R1 R2 bb hS ⊢;refine tJ 0 hS ?_;refine tJ 1 hS ?_;refine tJ 2 hS ?_;refine tJ 3 hS ?_;refine tJ 4 hS ?_;refine tJ 6 hS ?_;refine tJ 7 hS ?_;refine tJ 8 hS ?_;refine tJ 9 hS ?_;refine tJ 10 hS ?_;refine tC (i:=5) 139 #[Go.Operand.tmp 16] #[.int .i64 (ax - bx)] Tryz.call139 CX.out hS ?_;simp only [Act.put,pA,pB,pC];refine tC (i:=11) 139 #[Go.Operand.tmp 22] #[.int .i64 (ay - by')] Tryz.call139 CY.out hS ?_;simp only [Act.put,pA,pB,pC];refine tJ 13 hS ?_;refine tJ 14 hS ?_;refine tJ 15 hS ?_;refine tC (i:=16) 25 #[Go.Operand.tmp 25,Go.Operand.tmp 27] #[.int .i64 t,.int .i64 (8 - t)] Tryz.call25 CM.out hS ?_;simp only [Act.put,pA,pB,pC];refine tJ 12 hS ?_;refine tJ 17 hS ?_;refine tJ 18 hS ?_;refine rJ 19 fun K hK=>?_
 go_simp
 refine bJ hK hS ?_;clear hK K hS;refine wpAnyH_done (by kernel_rfl) ?_ _
 go_wp2_with fail
 go_ret;exact ⟨rfl,bb⟩
theorem spec_l06Spot_c (a:PPoint) (w:World):Calls Tryz.prog 132 #[.agg #[.int .i64 a.x,.int .i64 a.y,.int .i64 a.t]] w fun e w'=>e=.returned (.agg #[.int .i64 a.x,.int .i64 a.y])∧Below w.heap.size w w':=by
 have bb:Below w.heap.size w (((w.alloc (.cells #[.int .i64 a.x,.int .i64 a.y,.int .i64 a.t] 85)).alloc (.cells #[.int .i64 a.x,.int .i64 a.y] 179))):=((Below.refl _ _).alloc (Nat.le_refl _) _).alloc (by simp) _
 go_enter Tryz.func132,Tryz.ntmps132
 go_wp2_with fail
 refine bodyPost_ret (v:=.agg #[.int .i64 a.x,.int .i64 a.y]) (by simp only [results,Tryz.results132]; go_simp) rfl ⟨rfl,bb⟩
def bandZ (band n m:Int):Bool:=inR band 0 72 && decide (absZ (n - m)≤band)
theorem spec_l10Band_c (band n m:Int) (w:World) (hn:0≤n∧n≤1000000) (hm:0≤m∧m≤1000000) :
 Calls Tryz.prog 135 #[.int .i64 n,.int .i64 m,.int .i64 band] w fun e w'=>e=.returned (.bool (bandZ band n m))∧w'=w:=by
 have CI:=Lib.hid (fun w=>spec_inR_c band 0 72 w);have CA:=Lib.hid (fun w=>spec_l09Size_c (n - m) w (by omega));have k1:=IntWalk.i64_in (n - m) (by omega);have hz:bandZ band n m=(inR band 0 72 && decide (absZ (n - m)≤band)):=rfl;rw [hz];clear hz hn hm;generalize inR band 0 72=b at *;generalize absZ (n - m)=u at *;cases b
 all_goals
  go_enter Tryz.func135,Tryz.ntmps135
  go_wp2_with (first | (go_at_call_of 28 (Value.int .i64 band); refine (CI.out _).mono ?_; rintro e w1 ⟨rfl,rfl⟩) | (go_at_call_of 139 (Value.int .i64 (n - m)); refine (CA.out _).mono ?_; rintro e w1 ⟨rfl,rfl⟩))
  go_ret;exact ⟨ret_boolI (by simp),rfl⟩
def boxVZ (b:BoxZ):Value:=.agg #[.int .i64 b.x1,.int .i64 b.y1,.int .i64 b.x2,.int .i64 b.y2]
theorem spec_joinZ_c (a b:BoxZ) (w:World) :
 Calls Tryz.prog 90 #[.agg #[.int .i64 a.x1,.int .i64 a.y1,.int .i64 a.x2,.int .i64 a.y2],.agg #[.int .i64 b.x1,.int .i64 b.y1,.int .i64 b.x2,.int .i64 b.y2]] w fun e w'=>e=.returned (boxVZ (joinZ a b))∧Below w.heap.size w w':=by
 go_enter Tryz.func90,Tryz.ntmps90
 go_wp2_with fail
 have RA:=(((Row.new w 133 #[.int .i64 a.x1,.int .i64 a.y1,.int .i64 a.x2,.int .i64 a.y2]).alloc (.cells #[.int .i64 b.x1,.int .i64 b.y1,.int .i64 b.x2,.int .i64 b.y2] 133)).alloc (.cells #[.int .i64 0,.int .i64 0,.int .i64 0,.int .i64 0] 133)).drew;have RB:=((Row.new (w.alloc (.cells #[.int .i64 a.x1,.int .i64 a.y1,.int .i64 a.x2,.int .i64 a.y2] 133)) 133 #[.int .i64 b.x1,.int .i64 b.y1,.int .i64 b.x2,.int .i64 b.y2]).alloc (.cells #[.int .i64 0,.int .i64 0,.int .i64 0,.int .i64 0] 133)).drew;rw [show (w.alloc (.cells #[.int .i64 a.x1,.int .i64 a.y1,.int .i64 a.x2,.int .i64 a.y2] 133)).heap.size=w.heap.size+1 by simp] at RB
 have hS:(fun w'=>w'.cell? ⟨w.heap.size,0,none⟩=some (.int .i64 a.x1)∧w'.cell? ⟨w.heap.size,1,none⟩=some (.int .i64 a.y1)∧w'.cell? ⟨w.heap.size,2,none⟩=some (.int .i64 a.x2)∧w'.cell? ⟨w.heap.size,3,none⟩=some (.int .i64 a.y2)∧w'.cell? ⟨w.heap.size+1,0,none⟩=some (.int .i64 b.x1)∧w'.cell? ⟨w.heap.size+1,1,none⟩=some (.int .i64 b.y1)∧w'.cell? ⟨w.heap.size+1,2,none⟩=some (.int .i64 b.x2)∧w'.cell? ⟨w.heap.size+1,3,none⟩=some (.int .i64 b.y2)) (((w.alloc (.cells #[.int .i64 a.x1,.int .i64 a.y1,.int .i64 a.x2,.int .i64 a.y2] 133)).alloc (.cells #[.int .i64 b.x1,.int .i64 b.y1,.int .i64 b.x2,.int .i64 b.y2] 133)).alloc (.cells #[.int .i64 0,.int .i64 0,.int .i64 0,.int .i64 0] 133)).drew :=
  ⟨RA.c0,RA.c1,RA.c2,RA.c3,RB.c0,RB.c1,RB.c2,RB.c3⟩
 dsimp only at hS;refine wp_region_held_drew (S:=(fun w'=>w'.cell? ⟨w.heap.size,0,none⟩=some (.int .i64 a.x1)∧w'.cell? ⟨w.heap.size,1,none⟩=some (.int .i64 a.y1)∧w'.cell? ⟨w.heap.size,2,none⟩=some (.int .i64 a.x2)∧w'.cell? ⟨w.heap.size,3,none⟩=some (.int .i64 a.y2)∧w'.cell? ⟨w.heap.size+1,0,none⟩=some (.int .i64 b.x1)∧w'.cell? ⟨w.heap.size+1,1,none⟩=some (.int .i64 b.y1)∧w'.cell? ⟨w.heap.size+1,2,none⟩=some (.int .i64 b.x2)∧w'.cell? ⟨w.heap.size+1,3,none⟩=some (.int .i64 b.y2))) (by kernel_rfl) hS (fun _=>?_);refine tJ 0 hS ?_;refine tJ 1 hS ?_;refine tJ 2 hS ?_;refine tJ 3 hS ?_;refine tC (i:=4) 25 #[Go.Operand.tmp 6,Go.Operand.tmp 8] #[.int .i64 a.x1,.int .i64 b.x1] Tryz.call25 (minZ_c _ _) hS ?_;simp only [Act.put,pA,pB,pC];refine tJ 5 hS ?_;refine tJ 6 hS ?_;refine tJ 7 hS ?_;refine tJ 8 hS ?_;refine tC (i:=9) 25 #[Go.Operand.tmp 11,Go.Operand.tmp 13] #[.int .i64 a.y1,.int .i64 b.y1] Tryz.call25 (minZ_c _ _) hS ?_;simp only [Act.put,pA,pB,pC];refine tJ 10 hS ?_;refine tJ 11 hS ?_;refine tJ 12 hS ?_;refine tJ 13 hS ?_;refine tC (i:=14) 59 #[Go.Operand.tmp 16,Go.Operand.tmp 18] #[.int .i64 a.x2,.int .i64 b.x2] Tryz.call59 (maxZ_c _ _) hS ?_;simp only [Act.put,pA,pB,pC];refine tJ 15 hS ?_;refine tJ 16 hS ?_;refine tJ 17 hS ?_;refine tJ 18 hS ?_;refine tC (i:=19) 59 #[Go.Operand.tmp 21,Go.Operand.tmp 23] #[.int .i64 a.y2,.int .i64 b.y2] Tryz.call59 (maxZ_c _ _) hS ?_;simp only [Act.put,pA,pB,pC];refine tJ 20 hS ?_;refine rJ 21 fun K hK=>?_
 go_simp
 have RA2:=(((Row.new w 133 #[.int .i64 a.x1,.int .i64 a.y1,.int .i64 a.x2,.int .i64 a.y2]).alloc (.cells #[.int .i64 b.x1,.int .i64 b.y1,.int .i64 b.x2,.int .i64 b.y2] 133)).alloc (.cells #[.int .i64 (min a.x1 b.x1),.int .i64 (min a.y1 b.y1),.int .i64 (max a.x2 b.x2),.int .i64 (max a.y2 b.y2)] 133)).drew;have RB2:=((Row.new (w.alloc (.cells #[.int .i64 a.x1,.int .i64 a.y1,.int .i64 a.x2,.int .i64 a.y2] 133)) 133 #[.int .i64 b.x1,.int .i64 b.y1,.int .i64 b.x2,.int .i64 b.y2]).alloc (.cells #[.int .i64 (min a.x1 b.x1),.int .i64 (min a.y1 b.y1),.int .i64 (max a.x2 b.x2),.int .i64 (max a.y2 b.y2)] 133)).drew;rw [show (w.alloc (.cells #[.int .i64 a.x1,.int .i64 a.y1,.int .i64 a.x2,.int .i64 a.y2] 133)).heap.size=w.heap.size+1 by simp] at RB2;refine hK.out _ _ ?_ (fun _=>?_)
 · exact ⟨RA2.c0,RA2.c1,RA2.c2,RA2.c3,RB2.c0,RB2.c1,RB2.c2,RB2.c3⟩
 clear hK K;refine wpAnyH_done (by kernel_rfl) ?_ _
 go_wp2_with fail
 refine bodyPost_ret (v:=boxVZ (joinZ a b)) (by simp [results,Tryz.results90,go_sem,boxVZ,joinZ]) rfl ⟨rfl,?_⟩;exact ((((Below.refl _ _).alloc (Nat.le_refl _) _).alloc (by simp) _).alloc (by simp; omega) _).drew
end Go.Proofs.YtafgknkcjohjeaaGreatDoor

/- The orders of hypotheses, edges and found words, in the program. Conditions: none. -/
import Derived.Test.YtalmeogjhmblhaaGreatTkw
import Derived.Test.YtalmeogjhmblhaaGreatRyAw
import Derived.Test.YtalmeogjhmblhaaGreatRyTw
import Derived.Shelf.SlSortCmp.WholeK
import Derived.Test.YtalmeogjhmblhaaGreatLibw
import Derived.Test.YtalmeogjhmblhaaGreatProg
namespace Go.Proofs.YtalmeogjhmblhaaGreat
open Go Go.RowKit
set_option maxHeartbeats 8000000
set_option maxRecDepth 100000
def cfHyp (x y:HypZ):Int:=orL [cmpI (x.cost) (y.cost),cmpF x.label y.label]
theorem impl_compareHyps_c (x y:HypZ) (w:World):Calls Tryz.prog 231 #[.agg #[.string x.label,.int .i64 x.cost],.agg #[.string y.label,.int .i64 y.cost]] w fun e w'=>e=.returned (.int .i64 (cfHyp x y))∧Grw w w':=by
 obtain ⟨a0,a1⟩:=x;obtain ⟨b0,b1⟩:=y
 show _
 dsimp only [cfHyp];have HC0:=Lib.hid (Compare_i64_c (a1) (b1));generalize cmpI (a1) (b1)=r0 at HC0 ⊢;have HC1:=Lib.hid (Compare_c a0 b0);generalize cmpF a0 b0=r1 at HC1 ⊢;obtain ⟨r,hr⟩:∃ r,orL [r0,r1]=r:=⟨_,rfl⟩
 rw [hr];have HR:=Lib.hid hr;clear hr;have GW:=Lib.hid (((Grw.refl w).alloc (.cells #[.string a0,.int .i64 a1] 204)).alloc (.cells #[.string b0,.int .i64 b1] 204));have R1:=(Row.new w 204 #[.string a0,.int .i64 a1]).alloc (.cells #[.string b0,.int .i64 b1] 204);have R2:=Row.new (w.alloc (.cells #[.string a0,.int .i64 a1] 204)) 204 #[.string b0,.int .i64 b1];rw [World.size_alloc] at R2
 go_enter Tryz.func231,Tryz.ntmps231
 go_wp2_with fail
 generalize (w.alloc (.cells #[.string a0,.int .i64 a1] 204)).alloc (.cells #[.string b0,.int .i64 b1] 204)=w2 at *;have hS:(fun w':World=>w'.cell? ⟨w.heap.size,0,none⟩=some (.string a0)∧w'.cell? ⟨w.heap.size,1,none⟩=some (.int .i64 a1)∧w'.cell? ⟨w.heap.size+1,0,none⟩=some (.string b0)∧w'.cell? ⟨w.heap.size+1,1,none⟩=some (.int .i64 b1)) w2.drew:=⟨R1.c0,R1.c1,R2.c0,R2.c1⟩
 refine wp_region_held_drew (S:=fun w':World=>w'.cell? ⟨w.heap.size,0,none⟩=some (.string a0)∧w'.cell? ⟨w.heap.size,1,none⟩=some (.int .i64 a1)∧w'.cell? ⟨w.heap.size+1,0,none⟩=some (.string b0)∧w'.cell? ⟨w.heap.size+1,1,none⟩=some (.int .i64 b1)) (by kernel_rfl) hS (fun _=>?_);refine tJ 0 hS ?_;refine tJ 1 hS ?_;refine tJ 2 hS ?_;refine tJ 3 hS ?_;refine tC (i:=4) 199 #[Go.Operand.tmp 6,Go.Operand.tmp 8] #[.int .i64 (a1),.int .i64 (b1)] Tryz.call199 (fun w=>HC0.out w) hS ?_;simp only [Act.put,pA,pB,pC];refine tJ 5 hS ?_;refine tJ 6 hS ?_;refine tJ 7 hS ?_;refine tJ 8 hS ?_;refine tC (i:=9) 200 #[Go.Operand.tmp 11,Go.Operand.tmp 13] #[.string a0,.string b0] Tryz.call200 (fun w=>HC1.out w) hS ?_;simp only [Act.put,pA,pB,pC];refine rJ 10 fun K hK=>?_
 go_simp
 have R3:=Row.new w2.drew 3 #[.int .i64 r0,.int .i64 r1];have GW3:=Lib.hid (GW.out.drew.alloc (.cells #[.int .i64 r0,.int .i64 r1] 3));replace hS:(fun w':World=>w'.cell? ⟨w.heap.size,0,none⟩=some (.string a0)∧w'.cell? ⟨w.heap.size,1,none⟩=some (.int .i64 a1)∧w'.cell? ⟨w.heap.size+1,0,none⟩=some (.string b0)∧w'.cell? ⟨w.heap.size+1,1,none⟩=some (.int .i64 b1)) (w2.drew.alloc (.cells #[.int .i64 r0,.int .i64 r1] 3)):=⟨((R1.drew).alloc (.cells #[.int .i64 r0,.int .i64 r1] 3)).c0,((R1.drew).alloc (.cells #[.int .i64 r0,.int .i64 r1] 3)).c1,((R2.drew).alloc (.cells #[.int .i64 r0,.int .i64 r1] 3)).c0,((R2.drew).alloc (.cells #[.int .i64 r0,.int .i64 r1] 3)).c1⟩
 refine hK.out _ _ hS (fun _=>?_);clear hK K;have RO:=OrL_c [r0,r1] _ R3 (by simp);rw [HR.out] at RO;refine rJ 11 fun K hK=>?_
 refine step_call 198 #[.tmp 15] _ rfl rfl #[.slice (some ⟨w2.heap.size,0,none⟩) 2 2] Tryz.call198 (by go_simp) RO ?_;rintro e w1 ⟨rfl,rfl⟩;refine ⟨_,rfl,?_⟩;refine bJ hK hS ?_;clear hK K;simp only [Act.put,pA,pB,pC];refine tJ 12 hS ?_;refine wpAnyH_done (by kernel_rfl) ?_ _
 go_wp2_with fail
 go_ret;exact ⟨rfl,GW3.out⟩
def cfEdge (x y:LEdge):Int:=orL [cmpI ((x.src:Nat):Int) ((y.src:Nat):Int),cmpI ((x.dst:Nat):Int) ((y.dst:Nat):Int),cmpF x.lab y.lab]
theorem impl_compareEdges_c (x y:LEdge) (w:World):Calls Tryz.prog 145 #[.agg #[.int .i64 (x.src:Nat),.int .i64 (x.dst:Nat),.string x.lab,.int .i64 x.cost],.agg #[.int .i64 (y.src:Nat),.int .i64 (y.dst:Nat),.string y.lab,.int .i64 y.cost]] w fun e w'=>e=.returned (.int .i64 (cfEdge x y))∧Grw w w':=by
 obtain ⟨a0,a1,a2,a3⟩:=x;obtain ⟨b0,b1,b2,b3⟩:=y
 show _
 dsimp only [cfEdge];have HC0:=Lib.hid (Compare_i64_c ((a0:Nat):Int) ((b0:Nat):Int));generalize cmpI ((a0:Nat):Int) ((b0:Nat):Int)=r0 at HC0 ⊢;have HC1:=Lib.hid (Compare_i64_c ((a1:Nat):Int) ((b1:Nat):Int));generalize cmpI ((a1:Nat):Int) ((b1:Nat):Int)=r1 at HC1 ⊢;have HC2:=Lib.hid (Compare_c a2 b2);generalize cmpF a2 b2=r2 at HC2 ⊢;obtain ⟨r,hr⟩:∃ r,orL [r0,r1,r2]=r:=⟨_,rfl⟩
 rw [hr];have HR:=Lib.hid hr;clear hr;have GW:=Lib.hid (((Grw.refl w).alloc (.cells #[.int .i64 (a0:Nat),.int .i64 (a1:Nat),.string a2,.int .i64 a3] 206)).alloc (.cells #[.int .i64 (b0:Nat),.int .i64 (b1:Nat),.string b2,.int .i64 b3] 206));have R1:=(Row.new w 206 #[.int .i64 (a0:Nat),.int .i64 (a1:Nat),.string a2,.int .i64 a3]).alloc (.cells #[.int .i64 (b0:Nat),.int .i64 (b1:Nat),.string b2,.int .i64 b3] 206);have R2:=Row.new (w.alloc (.cells #[.int .i64 (a0:Nat),.int .i64 (a1:Nat),.string a2,.int .i64 a3] 206)) 206 #[.int .i64 (b0:Nat),.int .i64 (b1:Nat),.string b2,.int .i64 b3];rw [World.size_alloc] at R2
 go_enter Tryz.func145,Tryz.ntmps145
 go_wp2_with fail
 generalize (w.alloc (.cells #[.int .i64 (a0:Nat),.int .i64 (a1:Nat),.string a2,.int .i64 a3] 206)).alloc (.cells #[.int .i64 (b0:Nat),.int .i64 (b1:Nat),.string b2,.int .i64 b3] 206)=w2 at *;have hS:(fun w':World=>w'.cell? ⟨w.heap.size,0,none⟩=some (.int .i64 (a0:Nat))∧w'.cell? ⟨w.heap.size,1,none⟩=some (.int .i64 (a1:Nat))∧w'.cell? ⟨w.heap.size,2,none⟩=some (.string a2)∧w'.cell? ⟨w.heap.size+1,0,none⟩=some (.int .i64 (b0:Nat))∧w'.cell? ⟨w.heap.size+1,1,none⟩=some (.int .i64 (b1:Nat))∧w'.cell? ⟨w.heap.size+1,2,none⟩=some (.string b2)) w2.drew:=⟨R1.c0,R1.c1,R1.c2,R2.c0,R2.c1,R2.c2⟩
 refine wp_region_held_drew (S:=fun w':World=>w'.cell? ⟨w.heap.size,0,none⟩=some (.int .i64 (a0:Nat))∧w'.cell? ⟨w.heap.size,1,none⟩=some (.int .i64 (a1:Nat))∧w'.cell? ⟨w.heap.size,2,none⟩=some (.string a2)∧w'.cell? ⟨w.heap.size+1,0,none⟩=some (.int .i64 (b0:Nat))∧w'.cell? ⟨w.heap.size+1,1,none⟩=some (.int .i64 (b1:Nat))∧w'.cell? ⟨w.heap.size+1,2,none⟩=some (.string b2)) (by kernel_rfl) hS (fun _=>?_);refine tJ 0 hS ?_;refine tJ 1 hS ?_;refine tJ 2 hS ?_;refine tJ 3 hS ?_;refine tC (i:=4) 199 #[Go.Operand.tmp 6,Go.Operand.tmp 8] #[.int .i64 ((a0:Nat):Int),.int .i64 ((b0:Nat):Int)] Tryz.call199 (fun w=>HC0.out w) hS ?_;simp only [Act.put,pA,pB,pC];refine tJ 5 hS ?_;refine tJ 6 hS ?_;refine tJ 7 hS ?_;refine tJ 8 hS ?_;refine tC (i:=9) 199 #[Go.Operand.tmp 11,Go.Operand.tmp 13] #[.int .i64 ((a1:Nat):Int),.int .i64 ((b1:Nat):Int)] Tryz.call199 (fun w=>HC1.out w) hS ?_;simp only [Act.put,pA,pB,pC];refine tJ 10 hS ?_;refine tJ 11 hS ?_;refine tJ 12 hS ?_;refine tJ 13 hS ?_;refine tC (i:=14) 200 #[Go.Operand.tmp 16,Go.Operand.tmp 18] #[.string a2,.string b2] Tryz.call200 (fun w=>HC2.out w) hS ?_;simp only [Act.put,pA,pB,pC];refine rJ 15 fun K hK=>?_
 go_simp
 have R3:=Row.new w2.drew 3 #[.int .i64 r0,.int .i64 r1,.int .i64 r2];have GW3:=Lib.hid (GW.out.drew.alloc (.cells #[.int .i64 r0,.int .i64 r1,.int .i64 r2] 3));replace hS:(fun w':World=>w'.cell? ⟨w.heap.size,0,none⟩=some (.int .i64 (a0:Nat))∧w'.cell? ⟨w.heap.size,1,none⟩=some (.int .i64 (a1:Nat))∧w'.cell? ⟨w.heap.size,2,none⟩=some (.string a2)∧w'.cell? ⟨w.heap.size+1,0,none⟩=some (.int .i64 (b0:Nat))∧w'.cell? ⟨w.heap.size+1,1,none⟩=some (.int .i64 (b1:Nat))∧w'.cell? ⟨w.heap.size+1,2,none⟩=some (.string b2)) (w2.drew.alloc (.cells #[.int .i64 r0,.int .i64 r1,.int .i64 r2] 3)):=⟨((R1.drew).alloc (.cells #[.int .i64 r0,.int .i64 r1,.int .i64 r2] 3)).c0,((R1.drew).alloc (.cells #[.int .i64 r0,.int .i64 r1,.int .i64 r2] 3)).c1,((R1.drew).alloc (.cells #[.int .i64 r0,.int .i64 r1,.int .i64 r2] 3)).c2,((R2.drew).alloc (.cells #[.int .i64 r0,.int .i64 r1,.int .i64 r2] 3)).c0,((R2.drew).alloc (.cells #[.int .i64 r0,.int .i64 r1,.int .i64 r2] 3)).c1,((R2.drew).alloc (.cells #[.int .i64 r0,.int .i64 r1,.int .i64 r2] 3)).c2⟩
 refine hK.out _ _ hS (fun _=>?_);clear hK K;have RO:=OrL_c [r0,r1,r2] _ R3 (by simp);rw [HR.out] at RO;refine rJ 16 fun K hK=>?_
 refine step_call 198 #[.tmp 20] _ rfl rfl #[.slice (some ⟨w2.heap.size,0,none⟩) 3 3] Tryz.call198 (by go_simp) RO ?_;rintro e w1 ⟨rfl,rfl⟩;refine ⟨_,rfl,?_⟩;refine bJ hK hS ?_;clear hK K;simp only [Act.put,pA,pB,pC];refine tJ 17 hS ?_;refine wpAnyH_done (by kernel_rfl) ?_ _
 go_wp2_with fail
 go_ret;exact ⟨rfl,GW3.out⟩
def cfFound (x y:FoundZ):Int:=orL [cmpI (IntKind.i64.wrap (x.path+x.own)) (IntKind.i64.wrap (y.path+y.own)),cmpI ((x.word.size:Nat):Int) ((y.word.size:Nat):Int),cmpF x.word y.word]
theorem impl_compareFound_c (x y:FoundZ) (w:World):Calls Tryz.prog 148 #[.agg #[.string x.word,.int .i64 x.path,.int .i64 x.own],.agg #[.string y.word,.int .i64 y.path,.int .i64 y.own]] w fun e w'=>e=.returned (.int .i64 (cfFound x y))∧Grw w w':=by
 obtain ⟨a0,a1,a2⟩:=x;obtain ⟨b0,b1,b2⟩:=y
 show _
 dsimp only [cfFound];obtain ⟨pa0,ha0⟩:∃ p,(IntKind.i64.wrap (a1+a2))=p:=⟨_,rfl⟩
 obtain ⟨pb0,hb0⟩:∃ p,(IntKind.i64.wrap (b1+b2))=p:=⟨_,rfl⟩
 rw [ha0,hb0];have HC0:=Lib.hid (Compare_i64_c pa0 pb0);generalize cmpI pa0 pb0=r0 at HC0 ⊢;have HC1:=Lib.hid (Compare_int_c ((a0.size:Nat):Int) ((b0.size:Nat):Int));generalize cmpI ((a0.size:Nat):Int) ((b0.size:Nat):Int)=r1 at HC1 ⊢;have HC2:=Lib.hid (Compare_c a0 b0);generalize cmpF a0 b0=r2 at HC2 ⊢;obtain ⟨r,hr⟩:∃ r,orL [r0,r1,r2]=r:=⟨_,rfl⟩
 rw [hr];have HR:=Lib.hid hr;clear hr;have GW:=Lib.hid (((Grw.refl w).alloc (.cells #[.string a0,.int .i64 a1,.int .i64 a2] 143)).alloc (.cells #[.string b0,.int .i64 b1,.int .i64 b2] 143));have R1:=(Row.new w 143 #[.string a0,.int .i64 a1,.int .i64 a2]).alloc (.cells #[.string b0,.int .i64 b1,.int .i64 b2] 143);have R2:=Row.new (w.alloc (.cells #[.string a0,.int .i64 a1,.int .i64 a2] 143)) 143 #[.string b0,.int .i64 b1,.int .i64 b2];rw [World.size_alloc] at R2
 go_enter Tryz.func148,Tryz.ntmps148
 go_wp2_with fail
 generalize (w.alloc (.cells #[.string a0,.int .i64 a1,.int .i64 a2] 143)).alloc (.cells #[.string b0,.int .i64 b1,.int .i64 b2] 143)=w2 at *;have hS:(fun w':World=>w'.cell? ⟨w.heap.size,0,none⟩=some (.string a0)∧w'.cell? ⟨w.heap.size,1,none⟩=some (.int .i64 a1)∧w'.cell? ⟨w.heap.size,2,none⟩=some (.int .i64 a2)∧w'.cell? ⟨w.heap.size+1,0,none⟩=some (.string b0)∧w'.cell? ⟨w.heap.size+1,1,none⟩=some (.int .i64 b1)∧w'.cell? ⟨w.heap.size+1,2,none⟩=some (.int .i64 b2)) w2.drew:=⟨R1.c0,R1.c1,R1.c2,R2.c0,R2.c1,R2.c2⟩
 refine wp_region_held_drew (S:=fun w':World=>w'.cell? ⟨w.heap.size,0,none⟩=some (.string a0)∧w'.cell? ⟨w.heap.size,1,none⟩=some (.int .i64 a1)∧w'.cell? ⟨w.heap.size,2,none⟩=some (.int .i64 a2)∧w'.cell? ⟨w.heap.size+1,0,none⟩=some (.string b0)∧w'.cell? ⟨w.heap.size+1,1,none⟩=some (.int .i64 b1)∧w'.cell? ⟨w.heap.size+1,2,none⟩=some (.int .i64 b2)) (by kernel_rfl) hS (fun _=>?_);refine tJ 0 hS ?_;refine tJ 1 hS ?_;refine tJ 2 hS ?_;refine tJ 3 hS ?_;refine tJ 4 hS ?_;refine tJ 5 hS ?_;refine tJ 6 hS ?_;refine tJ 7 hS ?_;refine tJ 8 hS ?_;refine tJ 9 hS ?_;refine tC (i:=10) 199 #[Go.Operand.tmp 9,Go.Operand.tmp 14] #[.int .i64 pa0,.int .i64 pb0] Tryz.call199 (fun w=>HC0.out w) hS ?_;simp only [Act.put,pA,pB,pC];refine tJ 11 hS ?_;refine tJ 12 hS ?_;refine tJ 13 hS ?_;refine tJ 14 hS ?_;refine tJ 15 hS ?_;refine tJ 16 hS ?_;refine tC (i:=17) 202 #[Go.Operand.tmp 18,Go.Operand.tmp 21] #[.int .i64 ((a0.size:Nat):Int),.int .i64 ((b0.size:Nat):Int)] Tryz.call202 (fun w=>HC1.out w) hS ?_;simp only [Act.put,pA,pB,pC];refine tJ 18 hS ?_;refine tJ 19 hS ?_;refine tJ 20 hS ?_;refine tJ 21 hS ?_;refine tC (i:=22) 200 #[Go.Operand.tmp 24,Go.Operand.tmp 26] #[.string a0,.string b0] Tryz.call200 (fun w=>HC2.out w) hS ?_;simp only [Act.put,pA,pB,pC];refine rJ 23 fun K hK=>?_
 go_simp
 have R3:=Row.new w2.drew 3 #[.int .i64 r0,.int .i64 r1,.int .i64 r2];have GW3:=Lib.hid (GW.out.drew.alloc (.cells #[.int .i64 r0,.int .i64 r1,.int .i64 r2] 3));replace hS:(fun w':World=>w'.cell? ⟨w.heap.size,0,none⟩=some (.string a0)∧w'.cell? ⟨w.heap.size,1,none⟩=some (.int .i64 a1)∧w'.cell? ⟨w.heap.size,2,none⟩=some (.int .i64 a2)∧w'.cell? ⟨w.heap.size+1,0,none⟩=some (.string b0)∧w'.cell? ⟨w.heap.size+1,1,none⟩=some (.int .i64 b1)∧w'.cell? ⟨w.heap.size+1,2,none⟩=some (.int .i64 b2)) (w2.drew.alloc (.cells #[.int .i64 r0,.int .i64 r1,.int .i64 r2] 3)):=⟨((R1.drew).alloc (.cells #[.int .i64 r0,.int .i64 r1,.int .i64 r2] 3)).c0,((R1.drew).alloc (.cells #[.int .i64 r0,.int .i64 r1,.int .i64 r2] 3)).c1,((R1.drew).alloc (.cells #[.int .i64 r0,.int .i64 r1,.int .i64 r2] 3)).c2,((R2.drew).alloc (.cells #[.int .i64 r0,.int .i64 r1,.int .i64 r2] 3)).c0,((R2.drew).alloc (.cells #[.int .i64 r0,.int .i64 r1,.int .i64 r2] 3)).c1,((R2.drew).alloc (.cells #[.int .i64 r0,.int .i64 r1,.int .i64 r2] 3)).c2⟩
 refine hK.out _ _ hS (fun _=>?_);clear hK K;have RO:=OrL_c [r0,r1,r2] _ R3 (by simp);rw [HR.out] at RO;refine rJ 24 fun K hK=>?_
 refine step_call 198 #[.tmp 28] _ rfl rfl #[.slice (some ⟨w2.heap.size,0,none⟩) 3 3] Tryz.call198 (by go_simp) RO ?_;rintro e w1 ⟨rfl,rfl⟩;refine ⟨_,rfl,?_⟩;refine bJ hK hS ?_;clear hK K;simp only [Act.put,pA,pB,pC];refine tJ 25 hS ?_;refine wpAnyH_done (by kernel_rfl) ?_ _
 go_wp2_with fail
 go_ret;exact ⟨rfl,GW3.out⟩
end Go.Proofs.YtalmeogjhmblhaaGreat
namespace Go.Proofs.YtalmeogjhmblhaaGreat
open Go Go.Shelf Go.RowKit
set_option maxHeartbeats 8000000
set_option maxRecDepth 100000
def laysHyp_ren:Go.Shelf.Ren:=⟨fun | 6=>230 | 15=>197 | 14=>280 | 28=>244 | 29=>245 | 20=>318 | 21=>319 | 22=>320 | 23=>321 | 24=>322 | 25=>323 | 26=>324 | 27=>325 | 46=>340 | 47=>293 | 48=>294 | 49=>341 | 50=>342 | 57=>352 | n=>n,fun | 22=>200 | 24=>204 | 25=>322 | 3=>3 | 39=>293 | 0=>0 | 53=>335 | 55=>337 | 4=>4 | 46=>329 | 45=>328 | 50=>231 | 5=>5 | 9=>9 | 66=>374 | 70=>378 | 76=>398 | 77=>399 | n=>n,fun | n=>n⟩
theorem laysHyp:Go.Proofs.SlLaysF0.n6 Tryz.prog laysHyp_ren:={
 mixed:=by kernel_rfl
 f6:=⟨Tryz.f230.name,by decide,Tryz.func230.trans (congrArg some (by kernel_rfl))⟩
 f14:=⟨Tryz.f280.name,by decide,Tryz.func280.trans (congrArg some (by kernel_rfl))⟩
 f15:=Tryz.func197.trans (congrArg some (by kernel_rfl))
 f20:=⟨Tryz.f318.name,by decide,Tryz.func318.trans (congrArg some (by kernel_rfl))⟩
 f21:=⟨Tryz.f319.name,by decide,Tryz.func319.trans (congrArg some (by kernel_rfl))⟩
 f22:=⟨Tryz.f320.name,by decide,Tryz.func320.trans (congrArg some (by kernel_rfl))⟩
 f23:=⟨Tryz.f321.name,by decide,Tryz.func321.trans (congrArg some (by kernel_rfl))⟩
 f24:=⟨Tryz.f322.name,by decide,Tryz.func322.trans (congrArg some (by kernel_rfl))⟩
 f25:=⟨Tryz.f323.name,by decide,Tryz.func323.trans (congrArg some (by kernel_rfl))⟩
 f26:=⟨Tryz.f324.name,by decide,Tryz.func324.trans (congrArg some (by kernel_rfl))⟩
 f27:=⟨Tryz.f325.name,by decide,Tryz.func325.trans (congrArg some (by kernel_rfl))⟩
 f28:=Tryz.func244.trans (congrArg some (by kernel_rfl))
 f29:=Tryz.func245.trans (congrArg some (by kernel_rfl))
 f46:=⟨Tryz.f340.name,by decide,Tryz.func340.trans (congrArg some (by kernel_rfl))⟩
 f47:=Tryz.func293.trans (congrArg some (by kernel_rfl))
 f48:=Tryz.func294.trans (congrArg some (by kernel_rfl))
 f49:=⟨Tryz.f341.name,by decide,Tryz.func341.trans (congrArg some (by kernel_rfl))⟩
 f50:=⟨Tryz.f342.name,by decide,Tryz.func342.trans (congrArg some (by kernel_rfl))⟩
 f57:=⟨Tryz.f352.name,by decide,Tryz.func352.trans (congrArg some (by kernel_rfl))⟩
 t0:=Tryz.underlying0
 a0:=Tryz.isAgg0
 z0:=Tryz.sizeOf0
 v0:=Tryz.zeroValue0
 t3:=Tryz.underlying3
 a3:=Tryz.isAgg3
 z3:=Tryz.sizeOf3
 v3:=Tryz.zeroValue3
 t4:=Tryz.underlying4
 a4:=Tryz.isAgg4
 z4:=Tryz.sizeOf4
 v4:=Tryz.zeroValue4
 t5:=Tryz.underlying5
 a5:=Tryz.isAgg5
 z5:=Tryz.sizeOf5
 v5:=Tryz.zeroValue5
 t9:=Tryz.underlying9
 a9:=Tryz.isAgg9
 z9:=Tryz.sizeOf9
 v9:=Tryz.zeroValue9
 t22:=Tryz.underlying200
 a22:=Tryz.isAgg200
 z22:=Tryz.sizeOf200
 v22:=Tryz.zeroValue200
 t25:=Tryz.underlying322
 a25:=Tryz.isAgg322
 z25:=Tryz.sizeOf322
 v25:=Tryz.zeroValue322
 t39:=Tryz.underlying293
 a39:=Tryz.isAgg293
 z39:=Tryz.sizeOf293
 v39:=Tryz.zeroValue293
 t45:=Tryz.underlying328
 a45:=Tryz.isAgg328
 z45:=Tryz.sizeOf328
 v45:=Tryz.zeroValue328
 t46:=Tryz.underlying329
 a46:=Tryz.isAgg329
 z46:=Tryz.sizeOf329
 v46:=Tryz.zeroValue329
 t50:=Tryz.underlying231
 a50:=Tryz.isAgg231
 z50:=Tryz.sizeOf231
 v50:=Tryz.zeroValue231
 t53:=Tryz.underlying335
 a53:=Tryz.isAgg335
 z53:=Tryz.sizeOf335
 v53:=Tryz.zeroValue335
 t55:=Tryz.underlying337
 a55:=Tryz.isAgg337
 z55:=Tryz.sizeOf337
 v55:=Tryz.zeroValue337
 t66:=Tryz.underlying374
 a66:=Tryz.isAgg374
 z66:=Tryz.sizeOf374
 v66:=Tryz.zeroValue374
 t70:=Tryz.underlying378
 a70:=Tryz.isAgg378
 z70:=Tryz.sizeOf378
 v70:=Tryz.zeroValue378
 t76:=Tryz.underlying398
 a76:=Tryz.isAgg398
 z76:=Tryz.sizeOf398
 v76:=Tryz.zeroValue398
 t77:=Tryz.underlying399
 a77:=Tryz.isAgg399
 z77:=Tryz.sizeOf399
 v77:=Tryz.zeroValue399 }
def laysEdge_ren:Go.Shelf.Ren:=⟨fun | 6=>144 | 15=>197 | 14=>196 | 28=>244 | 29=>245 | 20=>236 | 21=>237 | 22=>238 | 23=>239 | 24=>240 | 25=>241 | 26=>242 | 27=>243 | 46=>292 | 47=>293 | 48=>294 | 49=>295 | 50=>296 | 57=>329 | n=>n,fun | 22=>131 | 24=>206 | 25=>227 | 3=>3 | 39=>293 | 0=>0 | 53=>335 | 55=>337 | 4=>4 | 46=>329 | 45=>328 | 50=>231 | 5=>5 | 9=>9 | 66=>374 | 70=>378 | 76=>398 | 77=>399 | n=>n,fun | n=>n⟩
theorem laysEdge:Go.Proofs.SlLaysF0.n6 Tryz.prog laysEdge_ren:={
 mixed:=by kernel_rfl
 f6:=⟨Tryz.f144.name,by decide,Tryz.func144.trans (congrArg some (by kernel_rfl))⟩
 f14:=⟨Tryz.f196.name,by decide,Tryz.func196.trans (congrArg some (by kernel_rfl))⟩
 f15:=Tryz.func197.trans (congrArg some (by kernel_rfl))
 f20:=⟨Tryz.f236.name,by decide,Tryz.func236.trans (congrArg some (by kernel_rfl))⟩
 f21:=⟨Tryz.f237.name,by decide,Tryz.func237.trans (congrArg some (by kernel_rfl))⟩
 f22:=⟨Tryz.f238.name,by decide,Tryz.func238.trans (congrArg some (by kernel_rfl))⟩
 f23:=⟨Tryz.f239.name,by decide,Tryz.func239.trans (congrArg some (by kernel_rfl))⟩
 f24:=⟨Tryz.f240.name,by decide,Tryz.func240.trans (congrArg some (by kernel_rfl))⟩
 f25:=⟨Tryz.f241.name,by decide,Tryz.func241.trans (congrArg some (by kernel_rfl))⟩
 f26:=⟨Tryz.f242.name,by decide,Tryz.func242.trans (congrArg some (by kernel_rfl))⟩
 f27:=⟨Tryz.f243.name,by decide,Tryz.func243.trans (congrArg some (by kernel_rfl))⟩
 f28:=Tryz.func244.trans (congrArg some (by kernel_rfl))
 f29:=Tryz.func245.trans (congrArg some (by kernel_rfl))
 f46:=⟨Tryz.f292.name,by decide,Tryz.func292.trans (congrArg some (by kernel_rfl))⟩
 f47:=Tryz.func293.trans (congrArg some (by kernel_rfl))
 f48:=Tryz.func294.trans (congrArg some (by kernel_rfl))
 f49:=⟨Tryz.f295.name,by decide,Tryz.func295.trans (congrArg some (by kernel_rfl))⟩
 f50:=⟨Tryz.f296.name,by decide,Tryz.func296.trans (congrArg some (by kernel_rfl))⟩
 f57:=⟨Tryz.f329.name,by decide,Tryz.func329.trans (congrArg some (by kernel_rfl))⟩
 t0:=Tryz.underlying0
 a0:=Tryz.isAgg0
 z0:=Tryz.sizeOf0
 v0:=Tryz.zeroValue0
 t3:=Tryz.underlying3
 a3:=Tryz.isAgg3
 z3:=Tryz.sizeOf3
 v3:=Tryz.zeroValue3
 t4:=Tryz.underlying4
 a4:=Tryz.isAgg4
 z4:=Tryz.sizeOf4
 v4:=Tryz.zeroValue4
 t5:=Tryz.underlying5
 a5:=Tryz.isAgg5
 z5:=Tryz.sizeOf5
 v5:=Tryz.zeroValue5
 t9:=Tryz.underlying9
 a9:=Tryz.isAgg9
 z9:=Tryz.sizeOf9
 v9:=Tryz.zeroValue9
 t22:=Tryz.underlying131
 a22:=Tryz.isAgg131
 z22:=Tryz.sizeOf131
 v22:=Tryz.zeroValue131
 t25:=Tryz.underlying227
 a25:=Tryz.isAgg227
 z25:=Tryz.sizeOf227
 v25:=Tryz.zeroValue227
 t39:=Tryz.underlying293
 a39:=Tryz.isAgg293
 z39:=Tryz.sizeOf293
 v39:=Tryz.zeroValue293
 t45:=Tryz.underlying328
 a45:=Tryz.isAgg328
 z45:=Tryz.sizeOf328
 v45:=Tryz.zeroValue328
 t46:=Tryz.underlying329
 a46:=Tryz.isAgg329
 z46:=Tryz.sizeOf329
 v46:=Tryz.zeroValue329
 t50:=Tryz.underlying231
 a50:=Tryz.isAgg231
 z50:=Tryz.sizeOf231
 v50:=Tryz.zeroValue231
 t53:=Tryz.underlying335
 a53:=Tryz.isAgg335
 z53:=Tryz.sizeOf335
 v53:=Tryz.zeroValue335
 t55:=Tryz.underlying337
 a55:=Tryz.isAgg337
 z55:=Tryz.sizeOf337
 v55:=Tryz.zeroValue337
 t66:=Tryz.underlying374
 a66:=Tryz.isAgg374
 z66:=Tryz.sizeOf374
 v66:=Tryz.zeroValue374
 t70:=Tryz.underlying378
 a70:=Tryz.isAgg378
 z70:=Tryz.sizeOf378
 v70:=Tryz.zeroValue378
 t76:=Tryz.underlying398
 a76:=Tryz.isAgg398
 z76:=Tryz.sizeOf398
 v76:=Tryz.zeroValue398
 t77:=Tryz.underlying399
 a77:=Tryz.isAgg399
 z77:=Tryz.sizeOf399
 v77:=Tryz.zeroValue399 }
def laysFound_ren:Go.Shelf.Ren:=⟨fun | 6=>147 | 15=>197 | 14=>201 | 28=>244 | 29=>245 | 20=>248 | 21=>249 | 22=>250 | 23=>251 | 24=>252 | 25=>253 | 26=>254 | 27=>255 | 46=>297 | 47=>293 | 48=>294 | 49=>298 | 50=>299 | 57=>330 | n=>n,fun | 22=>137 | 24=>143 | 25=>230 | 3=>3 | 39=>293 | 0=>0 | 53=>335 | 55=>337 | 4=>4 | 46=>329 | 45=>328 | 50=>231 | 5=>5 | 9=>9 | 66=>374 | 70=>378 | 76=>398 | 77=>399 | n=>n,fun | n=>n⟩
theorem laysFound:Go.Proofs.SlLaysF0.n6 Tryz.prog laysFound_ren:={
 mixed:=by kernel_rfl
 f6:=⟨Tryz.f147.name,by decide,Tryz.func147.trans (congrArg some (by kernel_rfl))⟩
 f14:=⟨Tryz.f201.name,by decide,Tryz.func201.trans (congrArg some (by kernel_rfl))⟩
 f15:=Tryz.func197.trans (congrArg some (by kernel_rfl))
 f20:=⟨Tryz.f248.name,by decide,Tryz.func248.trans (congrArg some (by kernel_rfl))⟩
 f21:=⟨Tryz.f249.name,by decide,Tryz.func249.trans (congrArg some (by kernel_rfl))⟩
 f22:=⟨Tryz.f250.name,by decide,Tryz.func250.trans (congrArg some (by kernel_rfl))⟩
 f23:=⟨Tryz.f251.name,by decide,Tryz.func251.trans (congrArg some (by kernel_rfl))⟩
 f24:=⟨Tryz.f252.name,by decide,Tryz.func252.trans (congrArg some (by kernel_rfl))⟩
 f25:=⟨Tryz.f253.name,by decide,Tryz.func253.trans (congrArg some (by kernel_rfl))⟩
 f26:=⟨Tryz.f254.name,by decide,Tryz.func254.trans (congrArg some (by kernel_rfl))⟩
 f27:=⟨Tryz.f255.name,by decide,Tryz.func255.trans (congrArg some (by kernel_rfl))⟩
 f28:=Tryz.func244.trans (congrArg some (by kernel_rfl))
 f29:=Tryz.func245.trans (congrArg some (by kernel_rfl))
 f46:=⟨Tryz.f297.name,by decide,Tryz.func297.trans (congrArg some (by kernel_rfl))⟩
 f47:=Tryz.func293.trans (congrArg some (by kernel_rfl))
 f48:=Tryz.func294.trans (congrArg some (by kernel_rfl))
 f49:=⟨Tryz.f298.name,by decide,Tryz.func298.trans (congrArg some (by kernel_rfl))⟩
 f50:=⟨Tryz.f299.name,by decide,Tryz.func299.trans (congrArg some (by kernel_rfl))⟩
 f57:=⟨Tryz.f330.name,by decide,Tryz.func330.trans (congrArg some (by kernel_rfl))⟩
 t0:=Tryz.underlying0
 a0:=Tryz.isAgg0
 z0:=Tryz.sizeOf0
 v0:=Tryz.zeroValue0
 t3:=Tryz.underlying3
 a3:=Tryz.isAgg3
 z3:=Tryz.sizeOf3
 v3:=Tryz.zeroValue3
 t4:=Tryz.underlying4
 a4:=Tryz.isAgg4
 z4:=Tryz.sizeOf4
 v4:=Tryz.zeroValue4
 t5:=Tryz.underlying5
 a5:=Tryz.isAgg5
 z5:=Tryz.sizeOf5
 v5:=Tryz.zeroValue5
 t9:=Tryz.underlying9
 a9:=Tryz.isAgg9
 z9:=Tryz.sizeOf9
 v9:=Tryz.zeroValue9
 t22:=Tryz.underlying137
 a22:=Tryz.isAgg137
 z22:=Tryz.sizeOf137
 v22:=Tryz.zeroValue137
 t25:=Tryz.underlying230
 a25:=Tryz.isAgg230
 z25:=Tryz.sizeOf230
 v25:=Tryz.zeroValue230
 t39:=Tryz.underlying293
 a39:=Tryz.isAgg293
 z39:=Tryz.sizeOf293
 v39:=Tryz.zeroValue293
 t45:=Tryz.underlying328
 a45:=Tryz.isAgg328
 z45:=Tryz.sizeOf328
 v45:=Tryz.zeroValue328
 t46:=Tryz.underlying329
 a46:=Tryz.isAgg329
 z46:=Tryz.sizeOf329
 v46:=Tryz.zeroValue329
 t50:=Tryz.underlying231
 a50:=Tryz.isAgg231
 z50:=Tryz.sizeOf231
 v50:=Tryz.zeroValue231
 t53:=Tryz.underlying335
 a53:=Tryz.isAgg335
 z53:=Tryz.sizeOf335
 v53:=Tryz.zeroValue335
 t55:=Tryz.underlying337
 a55:=Tryz.isAgg337
 z55:=Tryz.sizeOf337
 v55:=Tryz.zeroValue337
 t66:=Tryz.underlying374
 a66:=Tryz.isAgg374
 z66:=Tryz.sizeOf374
 v66:=Tryz.zeroValue374
 t70:=Tryz.underlying378
 a70:=Tryz.isAgg378
 z70:=Tryz.sizeOf378
 v70:=Tryz.zeroValue378
 t76:=Tryz.underlying398
 a76:=Tryz.isAgg398
 z76:=Tryz.sizeOf398
 v76:=Tryz.zeroValue398
 t77:=Tryz.underlying399
 a77:=Tryz.isAgg399
 z77:=Tryz.sizeOf399
 v77:=Tryz.zeroValue399 }
end Go.Proofs.YtalmeogjhmblhaaGreat

/- ValidSession of the program. Conditions: none. -/
import Derived.Test.YtalmeogjhmblhaaGreatTkw
import Derived.Deep.Cut
import Derived.Deep.CutRange
import Derived.Test.YtalmeogjhmblhaaGreatSeR2w
import Derived.Test.YtalmeogjhmblhaaGreatSeSzw
import Derived.Test.YtalmeogjhmblhaaGreatRcRead2w
namespace Go.Proofs.YtalmeogjhmblhaaGreat
open Go Go.RowKit
set_option maxHeartbeats 8000000
set_option maxRecDepth 100000
theorem inkEnd_pos {xs:List PStroke} {j:Nat} (h:xs.length=j+1):inkEndI xs=lastT (strk xs j):=by
 rw [inkEndI,if_neg (by omega),h,show j+1 - 1=j from rfl]; rfl
theorem inkEnd_nil {xs:List PStroke} (h:xs.length=0):inkEndI xs=-1:=by rw [inkEndI,if_pos h]
theorem stroke_pos {s:PStroke} (h:strokeB s=true):0 < s.length:=by
 simp only [strokeB,Bool.and_eq_true,decide_eq_true_eq] at h; omega
theorem ink_last {xs:List PStroke} {j:Nat} (hok:inkB xs=true) (hj:j < xs.length):0 < xs[j].length:=stroke_pos (inkB_stroke hok hj)
theorem fieldT (x y z:Int) (w:World):(Instr.field 128 (.agg #[.int .i64 x,.int .i64 y,.int .i64 z]) 2).run Tryz.prog w=.ok (.int .i64 z) w:=by kernel_rfl
theorem impl_inkEnd_c {o:Bool} {pe e:TypeId} {xs:List PStroke} {v:Value} {F:List Nat} (w:World) (h:(pStrokes pe e).rep o w xs [v] F) (hxe:∀ l∈xs,l.length≤1048576) (hok:inkB xs=true) :
 Calls Tryz.prog 79 #[.agg #[v]] w fun e w'=>e=.returned (.int .i64 (inkEndI xs))∧Below w.heap.size w w':=by
 have hfew:=inkB_few hok;obtain ⟨A,c,rfl,hc1,hc2,hr⟩:=pStrokes_open h;have al:Below w.heap.size w (w.alloc (.cells #[.slice A xs.length c] 59)):=(Below.refl _ _).alloc (Nat.le_refl _) _;rcases Nat.eq_zero_or_pos xs.length with h0 | h0
 · have he:=Lib.hid (inkEnd_nil h0)
   have g0:((xs.length:Int) == 0)=true:=by simp [h0]
   clear hr h h0
   go_enter Tryz.func79,Tryz.ntmps79
   go_wp2_with fail
   go_ret;exact ⟨ret_int he.out.symm,al⟩
 · obtain ⟨j,hj⟩:∃ j,xs.length=j+1:=⟨xs.length - 1,by omega⟩
   have hjl:j < xs.length:=by omega
   have he:Hid (inkEndI xs=lastT xs[j]):=by show _=_; rw [inkEnd_pos hj,strk_get hjl]
   obtain ⟨b,off,u,Fk,rfl,hbb,_,hrk,_,hcell⟩:=hr j hjl;have HC:=Lib.hid (fun w' (q:(pPoints pe).rep o w' xs[j] [u] Fk)=>impl_lastOf_c w' q (ink_last hok hjl) (hxe _ (List.getElem_mem hjl)));have hl:(pt xs[j] (xs[j].length - 1)).t=lastT xs[j]:=rfl;have hf:=fieldT;have g0:((xs.length:Int) == 0)=false:=by rw [beq_eq_false_iff_ne]; omega
   have kl:IntKind.i64.wrap ((xs.length:Int) - 1)=(j:Int):=(IntWalk.i64_in _ (by omega)).trans (by omega);have g1:(j:Int) < (xs.length:Int):=by omega
   have g2:(0:Int)≤(j:Int):=by omega
   have hrk':=hrk.alloc (.cells #[.slice (some ⟨b,off,none⟩) xs.length c] 59);obtain ⟨A1,k1,rfl⟩:=slice_len hrk;have HJ:=Lib.hid hj;clear hr h h0 hj hrk
   go_enter Tryz.func79,Tryz.ntmps79
   go_wp2_with fail
   refine (HC.out _ hrk').mono ?_;rintro e w1 ⟨rfl,b1⟩
   go_wp2_with fail
   go_ret;exact ⟨ret_int (by rw [he.out]),al.trans (b1.mono al.size)⟩
theorem impl_ValidSession1_c (s:ByteArray) (hs:s.size≤1048576) (w:World) :
 Calls Tryz.prog 84 #[.string s] w fun e w'=>e=.returned (.bool (!isWordB s))∧Below w.heap.size w w':=by
 have C:=Lib.hid (impl_IsWord_c s hs);generalize isWordB s=d at C ⊢
 go_enter Tryz.func84,Tryz.ntmps84
 go_wp2_with fail
 refine (C.out _).mono ?_;rintro e w1 ⟨rfl,b1⟩
 go_wp2_with fail
 go_ret;exact ⟨rfl,b1⟩
theorem sessB_setup {q:PSess} (h:setupB q.setup=false):sessB q=false:=by simp [sessB,h]
theorem sessB_ink {q:PSess} (h:inkB q.strokes=false):sessB q=false:=by simp [sessB,h]
theorem sessB_time {q:PSess} (h:inR q.time 0 3600000=false):sessB q=false:=by simp [sessB,h]
theorem sessB_end {q:PSess} (h:¬ inkEndI q.strokes≤q.time):sessB q=false:=by simp [sessB,h]
theorem sessB_open {q:PSess} (h:openB q=false):sessB q=false:=by simp [sessB,h]
theorem sessB_rest {q:PSess} (h1:setupB q.setup=true) (h2:inkB q.strokes=true) (h3:inR q.time 0 3600000=true) (h4:inkEndI q.strokes≤q.time) (h5:openB q=true):sessB q=(q.words.all isWordB && decide (q.words.length≤60)):=by simp [sessB,h1,h2,h3,h4,h5]
theorem impl_ValidSession_p {I:Ids} {o:Bool} {q:PSess} {v:Value} {F:List Nat} (w:World) (h:SessIs I o w q v F) (hp:SsSmall q) (hb:SsBytes q) :
 Calls Tryz.prog 32 #[v] w fun e w'=>e=.returned (.bool (sessB q))∧Below w.heap.size w w':=by
 obtain ⟨a0,a1,a2,a3,a4,a5,F0,F1,F2,F3,F4,F5,rfl,rfl,h0,h1,h2,h3,h4,h5⟩:=h;obtain ⟨A0,k0,rfl⟩:=slice_len h0;obtain ⟨A1,k1,rfl⟩:=slice_len h1;obtain ⟨A2,k2,rfl⟩:=slice_len h2;obtain ⟨A3,k3,rfl⟩:=slice_len h3;obtain ⟨A4,k4,rfl⟩:=slice_len h4;obtain ⟨A5,k5,rfl⟩:=slice_len h5;have HS:=Lib.hid (fun w' (q0:(pTemps I.ft I.tm).rep o w' q.setup.temps [.slice A0 q.setup.temps.length k0] F0) (q1:(pEntrys I.en).rep o w' q.setup.entries [.slice A1 q.setup.entries.length k1] F1) (q2:(pBigrams I.bg).rep o w' q.setup.bigrams [.slice A2 q.setup.bigrams.length k2] F2)=>impl_ValidSetup_c w' q0 q1 q2 hp.s hb.s);have HI:=Lib.hid (fun w' (q0:(pStrokes I.pt I.st).rep o w' q.strokes [.slice A3 q.strokes.length k3] F3)=>impl_ValidInk_c w' q0 hp.i hp.j);have HT:=Lib.hid (impl_inR_c q.time 0 3600000);have R:=Row.new w 62 #[.int .i64 q.setup.band,.slice A0 q.setup.temps.length k0,.int .i64 q.setup.points,.int .i64 q.setup.most,.int .i64 q.setup.pen,.slice A1 q.setup.entries.length k1,.int .i64 q.setup.dflt,.slice A2 q.setup.bigrams.length k2,.int .i64 q.setup.pause,.slice A3 q.strokes.length k3,.slice A4 q.opn.length k4,.int .i64 q.time,.slice A5 q.words.length k5];have bb:Below w.heap.size w (w.alloc (.cells #[.int .i64 q.setup.band,.slice A0 q.setup.temps.length k0,.int .i64 q.setup.points,.int .i64 q.setup.most,.int .i64 q.setup.pen,.slice A1 q.setup.entries.length k1,.int .i64 q.setup.dflt,.slice A2 q.setup.bigrams.length k2,.int .i64 q.setup.pause,.slice A3 q.strokes.length k3,.slice A4 q.opn.length k4,.int .i64 q.time,.slice A5 q.words.length k5] 62)):=(Below.refl _ _).alloc (Nat.le_refl _) _;have hf:=fieldT;replace h0:=h0.alloc (.cells #[.int .i64 q.setup.band,.slice A0 q.setup.temps.length k0,.int .i64 q.setup.points,.int .i64 q.setup.most,.int .i64 q.setup.pen,.slice A1 q.setup.entries.length k1,.int .i64 q.setup.dflt,.slice A2 q.setup.bigrams.length k2,.int .i64 q.setup.pause,.slice A3 q.strokes.length k3,.slice A4 q.opn.length k4,.int .i64 q.time,.slice A5 q.words.length k5] 62);replace h1:=h1.alloc (.cells #[.int .i64 q.setup.band,.slice A0 q.setup.temps.length k0,.int .i64 q.setup.points,.int .i64 q.setup.most,.int .i64 q.setup.pen,.slice A1 q.setup.entries.length k1,.int .i64 q.setup.dflt,.slice A2 q.setup.bigrams.length k2,.int .i64 q.setup.pause,.slice A3 q.strokes.length k3,.slice A4 q.opn.length k4,.int .i64 q.time,.slice A5 q.words.length k5] 62);replace h2:=h2.alloc (.cells #[.int .i64 q.setup.band,.slice A0 q.setup.temps.length k0,.int .i64 q.setup.points,.int .i64 q.setup.most,.int .i64 q.setup.pen,.slice A1 q.setup.entries.length k1,.int .i64 q.setup.dflt,.slice A2 q.setup.bigrams.length k2,.int .i64 q.setup.pause,.slice A3 q.strokes.length k3,.slice A4 q.opn.length k4,.int .i64 q.time,.slice A5 q.words.length k5] 62);replace h3:=h3.alloc (.cells #[.int .i64 q.setup.band,.slice A0 q.setup.temps.length k0,.int .i64 q.setup.points,.int .i64 q.setup.most,.int .i64 q.setup.pen,.slice A1 q.setup.entries.length k1,.int .i64 q.setup.dflt,.slice A2 q.setup.bigrams.length k2,.int .i64 q.setup.pause,.slice A3 q.strokes.length k3,.slice A4 q.opn.length k4,.int .i64 q.time,.slice A5 q.words.length k5] 62);replace h4:=h4.alloc (.cells #[.int .i64 q.setup.band,.slice A0 q.setup.temps.length k0,.int .i64 q.setup.points,.int .i64 q.setup.most,.int .i64 q.setup.pen,.slice A1 q.setup.entries.length k1,.int .i64 q.setup.dflt,.slice A2 q.setup.bigrams.length k2,.int .i64 q.setup.pause,.slice A3 q.strokes.length k3,.slice A4 q.opn.length k4,.int .i64 q.time,.slice A5 q.words.length k5] 62);replace h5:=h5.alloc (.cells #[.int .i64 q.setup.band,.slice A0 q.setup.temps.length k0,.int .i64 q.setup.points,.int .i64 q.setup.most,.int .i64 q.setup.pen,.slice A1 q.setup.entries.length k1,.int .i64 q.setup.dflt,.slice A2 q.setup.bigrams.length k2,.int .i64 q.setup.pause,.slice A3 q.strokes.length k3,.slice A4 q.opn.length k4,.int .i64 q.time,.slice A5 q.words.length k5] 62)
 have HW:Hid (∀ w',(strs 9).rep o w' q.words [.slice A5 q.words.length k5] F5→Calls Tryz.prog 83 #[.slice A5 q.words.length k5,.func (.func 84) #[] #[]] w' fun e w''=>e=.returned (.bool (!q.words.all isWordB))∧Below w'.heap.size w' w''):=by
  intro w' r;have:=ContainsFunc_str 84 (fun s=>!isWordB s) w' r hp.w Tryz.call84 (fun s hs w=>impl_ValidSession1_c s (hb.w s hs) w)
  rwa [show (q.words.any fun s=>!isWordB s)=!q.words.all isWordB by simp [List.any_eq_not_all_not]] at this
 obtain ⟨d1,hd1⟩:∃ d,Hid (d=setupB q.setup):=⟨_,rfl⟩
 obtain ⟨d2,hd2⟩:∃ d,Hid (d=inkB q.strokes):=⟨_,rfl⟩
 obtain ⟨d3,hd3⟩:∃ d,Hid (d=inR q.time 0 3600000):=⟨_,rfl⟩
 rw [← hd1.out] at HS;rw [← hd2.out] at HI;rw [← hd3.out] at HT
 go_enter Tryz.func32,Tryz.ntmps32
 go_wp2_with fail
 replace R:=R.drew;have hS:(fun w':World=>w'.cell? ⟨w.heap.size,0,none⟩=some (.int .i64 q.setup.band)∧w'.cell? ⟨w.heap.size,1,none⟩=some (.slice A0 q.setup.temps.length k0)∧w'.cell? ⟨w.heap.size,2,none⟩=some (.int .i64 q.setup.points)∧w'.cell? ⟨w.heap.size,3,none⟩=some (.int .i64 q.setup.most)∧w'.cell? ⟨w.heap.size,4,none⟩=some (.int .i64 q.setup.pen)∧w'.cell? ⟨w.heap.size,5,none⟩=some (.slice A1 q.setup.entries.length k1)∧w'.cell? ⟨w.heap.size,6,none⟩=some (.int .i64 q.setup.dflt)∧w'.cell? ⟨w.heap.size,7,none⟩=some (.slice A2 q.setup.bigrams.length k2)∧w'.cell? ⟨w.heap.size,8,none⟩=some (.int .i64 q.setup.pause)∧w'.cell? ⟨w.heap.size,9,none⟩=some (.slice A3 q.strokes.length k3)∧w'.cell? ⟨w.heap.size,11,none⟩=some (.int .i64 q.time)) (w.alloc (.cells #[.int .i64 q.setup.band,.slice A0 q.setup.temps.length k0,.int .i64 q.setup.points,.int .i64 q.setup.most,.int .i64 q.setup.pen,.slice A1 q.setup.entries.length k1,.int .i64 q.setup.dflt,.slice A2 q.setup.bigrams.length k2,.int .i64 q.setup.pause,.slice A3 q.strokes.length k3,.slice A4 q.opn.length k4,.int .i64 q.time,.slice A5 q.words.length k5] 62)).drew:=⟨R.c0,R.c1,R.c2,R.c3,R.c4,R.c5,R.cell' (i:=6) rfl,R.cell' (i:=7) rfl,R.cell' (i:=8) rfl,R.cell' (i:=9) rfl,R.cell' (i:=11) rfl⟩
 dsimp only at hS;refine wp_region_held_drew (S:=(fun w':World=>w'.cell? ⟨w.heap.size,0,none⟩=some (.int .i64 q.setup.band)∧w'.cell? ⟨w.heap.size,1,none⟩=some (.slice A0 q.setup.temps.length k0)∧w'.cell? ⟨w.heap.size,2,none⟩=some (.int .i64 q.setup.points)∧w'.cell? ⟨w.heap.size,3,none⟩=some (.int .i64 q.setup.most)∧w'.cell? ⟨w.heap.size,4,none⟩=some (.int .i64 q.setup.pen)∧w'.cell? ⟨w.heap.size,5,none⟩=some (.slice A1 q.setup.entries.length k1)∧w'.cell? ⟨w.heap.size,6,none⟩=some (.int .i64 q.setup.dflt)∧w'.cell? ⟨w.heap.size,7,none⟩=some (.slice A2 q.setup.bigrams.length k2)∧w'.cell? ⟨w.heap.size,8,none⟩=some (.int .i64 q.setup.pause)∧w'.cell? ⟨w.heap.size,9,none⟩=some (.slice A3 q.strokes.length k3)∧w'.cell? ⟨w.heap.size,11,none⟩=some (.int .i64 q.time))) (by kernel_rfl) hS (fun _=>?_);replace bb:=bb.drew;replace h0:=h0.drew;replace h1:=h1.drew;replace h2:=h2.drew;replace h3:=h3.drew;replace h4:=h4.drew;replace h5:=h5.drew;refine tJ 0 hS ?_;refine tJ 1 hS ?_;refine rJ 2 fun K hK=>?_
 refine step_call 76 #[.tmp 5] _ rfl rfl #[.agg #[.int .i64 q.setup.band,.slice A0 q.setup.temps.length k0,.int .i64 q.setup.points,.int .i64 q.setup.most,.int .i64 q.setup.pen,.slice A1 q.setup.entries.length k1,.int .i64 q.setup.dflt,.slice A2 q.setup.bigrams.length k2,.int .i64 q.setup.pause]] Tryz.call76 (by go_simp) (HS.out _ h0 h1 h2) ?_;rintro e w1 ⟨rfl,b1⟩;refine ⟨_,rfl,?_⟩;replace R:=R.later b1;replace bb:=bb.trans (b1.mono bb.size);replace h0:=h0.below b1;replace h1:=h1.below b1;replace h2:=h2.below b1;replace h3:=h3.below b1;replace h4:=h4.below b1;replace h5:=h5.below b1;replace hS:(fun w':World=>w'.cell? ⟨w.heap.size,0,none⟩=some (.int .i64 q.setup.band)∧w'.cell? ⟨w.heap.size,1,none⟩=some (.slice A0 q.setup.temps.length k0)∧w'.cell? ⟨w.heap.size,2,none⟩=some (.int .i64 q.setup.points)∧w'.cell? ⟨w.heap.size,3,none⟩=some (.int .i64 q.setup.most)∧w'.cell? ⟨w.heap.size,4,none⟩=some (.int .i64 q.setup.pen)∧w'.cell? ⟨w.heap.size,5,none⟩=some (.slice A1 q.setup.entries.length k1)∧w'.cell? ⟨w.heap.size,6,none⟩=some (.int .i64 q.setup.dflt)∧w'.cell? ⟨w.heap.size,7,none⟩=some (.slice A2 q.setup.bigrams.length k2)∧w'.cell? ⟨w.heap.size,8,none⟩=some (.int .i64 q.setup.pause)∧w'.cell? ⟨w.heap.size,9,none⟩=some (.slice A3 q.strokes.length k3)∧w'.cell? ⟨w.heap.size,11,none⟩=some (.int .i64 q.time)) w1:=⟨R.c0,R.c1,R.c2,R.c3,R.c4,R.c5,R.cell' (i:=6) rfl,R.cell' (i:=7) rfl,R.cell' (i:=8) rfl,R.cell' (i:=9) rfl,R.cell' (i:=11) rfl⟩
 dsimp only at hS;refine bJ hK hS ?_;clear hK K;simp only [Act.put,pA,pB,pC];cases d1
 · skip
   have HF:=Lib.hid (sessB_setup hd1.out.symm);refine tJ 3 hS ?_;refine tJ 4 hS ?_;refine tJ0 5 hS ?_;refine tJ0 6 hS ?_;refine tJ0 7 hS ?_;refine tJ0 8 hS ?_;refine tJ 9 hS ?_;refine tJ 10 hS ?_;refine tJ0 11 hS ?_;refine tJ0 12 hS ?_;refine tJ0 13 hS ?_;refine tJ0 14 hS ?_;refine tJ 15 hS ?_;refine tJ 16 hS ?_;refine tJ0 17 hS ?_;refine tJ0 18 hS ?_;refine tJ0 19 hS ?_;refine tJ0 20 hS ?_;refine tJ0 21 hS ?_;refine tJ0 22 hS ?_;refine tJ 23 hS ?_;refine wpAnyH_done (by kernel_rfl) ?_ _
   go_wp2_with fail
   go_ret;exact ⟨ret_boolI HF.out.symm,bb⟩
 refine tJ 3 hS ?_;refine tJ 4 hS ?_;refine tJ 5 hS ?_;refine tJ 6 hS ?_;refine rJ 7 fun K hK=>?_
 refine step_call 77 #[.tmp 10] _ rfl rfl #[.agg #[.slice A3 q.strokes.length k3]] Tryz.call77 (by go_simp) (HI.out _ h3) ?_;rintro e w2 ⟨rfl,b2⟩;refine ⟨_,rfl,?_⟩;replace R:=R.later b2;replace bb:=bb.trans (b2.mono bb.size);replace h0:=h0.below b2;replace h1:=h1.below b2;replace h2:=h2.below b2;replace h3:=h3.below b2;replace h4:=h4.below b2;replace h5:=h5.below b2;replace hS:(fun w':World=>w'.cell? ⟨w.heap.size,0,none⟩=some (.int .i64 q.setup.band)∧w'.cell? ⟨w.heap.size,1,none⟩=some (.slice A0 q.setup.temps.length k0)∧w'.cell? ⟨w.heap.size,2,none⟩=some (.int .i64 q.setup.points)∧w'.cell? ⟨w.heap.size,3,none⟩=some (.int .i64 q.setup.most)∧w'.cell? ⟨w.heap.size,4,none⟩=some (.int .i64 q.setup.pen)∧w'.cell? ⟨w.heap.size,5,none⟩=some (.slice A1 q.setup.entries.length k1)∧w'.cell? ⟨w.heap.size,6,none⟩=some (.int .i64 q.setup.dflt)∧w'.cell? ⟨w.heap.size,7,none⟩=some (.slice A2 q.setup.bigrams.length k2)∧w'.cell? ⟨w.heap.size,8,none⟩=some (.int .i64 q.setup.pause)∧w'.cell? ⟨w.heap.size,9,none⟩=some (.slice A3 q.strokes.length k3)∧w'.cell? ⟨w.heap.size,11,none⟩=some (.int .i64 q.time)) w2:=⟨R.c0,R.c1,R.c2,R.c3,R.c4,R.c5,R.cell' (i:=6) rfl,R.cell' (i:=7) rfl,R.cell' (i:=8) rfl,R.cell' (i:=9) rfl,R.cell' (i:=11) rfl⟩
 dsimp only at hS;refine bJ hK hS ?_;clear hK K;simp only [Act.put,pA,pB,pC];cases d2
 · skip
   have HF:=Lib.hid (sessB_ink hd2.out.symm);refine tJ 8 hS ?_;refine tJ 9 hS ?_;refine tJ 10 hS ?_;refine tJ0 11 hS ?_;refine tJ0 12 hS ?_;refine tJ0 13 hS ?_;refine tJ0 14 hS ?_;refine tJ 15 hS ?_;refine tJ 16 hS ?_;refine tJ0 17 hS ?_;refine tJ0 18 hS ?_;refine tJ0 19 hS ?_;refine tJ0 20 hS ?_;refine tJ0 21 hS ?_;refine tJ0 22 hS ?_;refine tJ 23 hS ?_;refine wpAnyH_done (by kernel_rfl) ?_ _
   go_wp2_with fail
   go_ret;exact ⟨ret_boolI HF.out.symm,bb⟩
 have HE:=Lib.hid (fun w' (q0:(pStrokes I.pt I.st).rep o w' q.strokes [.slice A3 q.strokes.length k3] F3)=>impl_inkEnd_c w' q0 hp.j hd2.out.symm);refine tJ 8 hS ?_;refine tJ 9 hS ?_;refine tJ 10 hS ?_;refine tJ 11 hS ?_;refine tJ 12 hS ?_;refine rJ 13 fun K hK=>?_
 refine step_call 78 #[.tmp 16,.const (.int .i64 0),.const (.int .i64 3600000)] _ rfl rfl #[.int .i64 q.time,.int .i64 0,.int .i64 3600000] Tryz.call78 (by go_simp) (HT.out _) ?_;rintro e w3 ⟨rfl,rfl⟩;refine ⟨_,rfl,?_⟩;refine bJ hK hS ?_;clear hK K;simp only [Act.put,pA,pB,pC];cases d3
 · skip
   have HF:=Lib.hid (sessB_time hd3.out.symm);refine tJ 14 hS ?_;refine tJ 15 hS ?_;refine tJ 16 hS ?_;refine tJ0 17 hS ?_;refine tJ0 18 hS ?_;refine tJ0 19 hS ?_;refine tJ0 20 hS ?_;refine tJ0 21 hS ?_;refine tJ0 22 hS ?_;refine tJ 23 hS ?_;refine wpAnyH_done (by kernel_rfl) ?_ _
   go_wp2_with fail
   go_ret;exact ⟨ret_boolI HF.out.symm,bb⟩
 refine tJ 14 hS ?_;refine tJ 15 hS ?_;refine tJ 16 hS ?_;refine tJ 17 hS ?_;refine tJ 18 hS ?_;refine tJ 19 hS ?_;refine tJ 20 hS ?_;refine rJ 21 fun K hK=>?_
 refine step_call 79 #[.tmp 24] _ rfl rfl #[.agg #[.slice A3 q.strokes.length k3]] Tryz.call79 (by go_simp) (HE.out _ h3) ?_;rintro e w4 ⟨rfl,b4⟩;refine ⟨_,rfl,?_⟩;replace R:=R.later b4;replace bb:=bb.trans (b4.mono bb.size);replace h0:=h0.below b4;replace h1:=h1.below b4;replace h2:=h2.below b4;replace h3:=h3.below b4;replace h4:=h4.below b4;replace h5:=h5.below b4;replace hS:(fun w':World=>w'.cell? ⟨w.heap.size,0,none⟩=some (.int .i64 q.setup.band)∧w'.cell? ⟨w.heap.size,1,none⟩=some (.slice A0 q.setup.temps.length k0)∧w'.cell? ⟨w.heap.size,2,none⟩=some (.int .i64 q.setup.points)∧w'.cell? ⟨w.heap.size,3,none⟩=some (.int .i64 q.setup.most)∧w'.cell? ⟨w.heap.size,4,none⟩=some (.int .i64 q.setup.pen)∧w'.cell? ⟨w.heap.size,5,none⟩=some (.slice A1 q.setup.entries.length k1)∧w'.cell? ⟨w.heap.size,6,none⟩=some (.int .i64 q.setup.dflt)∧w'.cell? ⟨w.heap.size,7,none⟩=some (.slice A2 q.setup.bigrams.length k2)∧w'.cell? ⟨w.heap.size,8,none⟩=some (.int .i64 q.setup.pause)∧w'.cell? ⟨w.heap.size,9,none⟩=some (.slice A3 q.strokes.length k3)∧w'.cell? ⟨w.heap.size,11,none⟩=some (.int .i64 q.time)) w4:=⟨R.c0,R.c1,R.c2,R.c3,R.c4,R.c5,R.cell' (i:=6) rfl,R.cell' (i:=7) rfl,R.cell' (i:=8) rfl,R.cell' (i:=9) rfl,R.cell' (i:=11) rfl⟩
 dsimp only at hS;refine bJ hK hS ?_;clear hK K;simp only [Act.put,pA,pB,pC]
 by_cases he:inkEndI q.strokes≤q.time
 case neg =>
  have HF:=Lib.hid (sessB_end he);have ge:(q.time < inkEndI q.strokes)=True:=eq_true (by omega);clear he;refine tJ 22 hS ?_;refine tJ 23 hS ?_;refine wpAnyH_done (by kernel_rfl) ?_ _
  go_wp2_with fail
  go_ret;exact ⟨ret_boolI HF.out.symm,bb⟩
 have ge:(q.time < inkEndI q.strokes)=False:=eq_false (by omega);have hok4:=Lib.hid he;clear he;refine tJ 22 hS ?_;refine tJ 23 hS ?_;refine wpAnyH_done (by kernel_rfl) ?_ _;have hok1:=Lib.hid hd1.out.symm;have hok2:=Lib.hid hd2.out.symm;have hok3:=Lib.hid hd3.out.symm;clear hd1 hd2 hd3;have x2:=R.cell' (i:=10) rfl
 by_cases hz:q.opn.length=0
 · have g0:(0 < q.opn.length)=False:=eq_false (by omega)
   have hop:Hid (openB q=true):=by show _=_; simp [openB,hz]
   clear hz;have hrest:=Lib.hid (sessB_rest (q:=q) hok1.out hok2.out hok3.out hok4.out hop.out)
   by_cases h60:q.words.length≤60
   · have g6:((q.words.length:Int)≤60)=True:=eq_true (by omega)
     have HF:Hid (sessB q=q.words.all isWordB):=by show _=_; rw [hrest.out,decide_eq_true h60,Bool.and_true]
     have x4:=R.cell' (i:=12) rfl;generalize q.words.all isWordB=d at HW HF;clear h60 hrest
     go_wp2_with fail
     refine (HW.out _ h5).mono ?_;rintro e w9 ⟨rfl,b9⟩
     go_wp2_with fail
     go_ret;exact ⟨ret_boolI (by rw [HF.out] <;> cases d <;> rfl),bb.trans (b9.mono bb.size)⟩
   · have g6:((q.words.length:Int)≤60)=False:=eq_false (by omega)
     have HF:Hid (sessB q=false):=by show _=_; rw [hrest.out,decide_eq_false h60,Bool.and_false]
     have x4:=R.cell' (i:=12) rfl;clear h60 hrest
     go_wp2_with fail
     go_ret;exact ⟨ret_boolI HF.out.symm,bb⟩
 have hzp:0 < q.opn.length:=by omega
 have g0:(0 < q.opn.length)=True:=eq_true hzp;have hob:openB q=(strokeB q.opn && (decide (inkEndI q.strokes < (pt q.opn 0).t) && decide ((pt q.opn (q.opn.length - 1)).t≤q.time))):=by simp [openB,hz]
 obtain ⟨d5,hd5⟩:∃ d,Hid (d=strokeB q.opn):=⟨_,rfl⟩
 have HV:=Lib.hid (fun w' (q0:(pPoints I.pt).rep o w' q.opn [.slice A4 q.opn.length k4] F4)=>impl_ValidStroke_c w' q0 hp.o);rw [← hd5.out] at HV;have HFO:=Lib.hid (fun w' (q0:(pPoints I.pt).rep o w' q.opn [.slice A4 q.opn.length k4] F4)=>impl_firstOf_c w' q0 hzp);have HLO:=Lib.hid (fun w' (q0:(pPoints I.pt).rep o w' q.opn [.slice A4 q.opn.length k4] F4)=>impl_lastOf_c w' q0 hzp hp.o);clear hz hzp
 go_upto_region 5 with fail
 clear x2;replace R:=R.alloc (.cells #[.slice A4 q.opn.length k4] 124);have Q:=Row.new w4 124 #[.slice A4 q.opn.length k4];replace bb:=bb.alloc bb.size (.cells #[.slice A4 q.opn.length k4] 124);replace h0:=h0.alloc (.cells #[.slice A4 q.opn.length k4] 124);replace h1:=h1.alloc (.cells #[.slice A4 q.opn.length k4] 124);replace h2:=h2.alloc (.cells #[.slice A4 q.opn.length k4] 124);replace h3:=h3.alloc (.cells #[.slice A4 q.opn.length k4] 124);replace h4:=h4.alloc (.cells #[.slice A4 q.opn.length k4] 124);replace h5:=h5.alloc (.cells #[.slice A4 q.opn.length k4] 124)
 go_wp2_with fail
 replace R:=R.drew;replace Q:=Q.drew;have hS:(fun w':World=>w'.cell? ⟨w.heap.size,9,none⟩=some (.slice A3 q.strokes.length k3)∧w'.cell? ⟨w.heap.size,11,none⟩=some (.int .i64 q.time)∧w'.cell? ⟨w4.heap.size,0,none⟩=some (.slice A4 q.opn.length k4)) (w4.alloc (.cells #[.slice A4 q.opn.length k4] 124)).drew:=⟨R.cell' (i:=9) rfl,R.cell' (i:=11) rfl,Q.c0⟩
 dsimp only at hS;refine wp_region_held_drew (S:=(fun w':World=>w'.cell? ⟨w.heap.size,9,none⟩=some (.slice A3 q.strokes.length k3)∧w'.cell? ⟨w.heap.size,11,none⟩=some (.int .i64 q.time)∧w'.cell? ⟨w4.heap.size,0,none⟩=some (.slice A4 q.opn.length k4))) (by kernel_rfl) hS (fun _=>?_);replace bb:=bb.drew;replace h0:=h0.drew;replace h1:=h1.drew;replace h2:=h2.drew;replace h3:=h3.drew;replace h4:=h4.drew;replace h5:=h5.drew;refine tJ 0 hS ?_;refine rJ 1 fun K hK=>?_
 refine step_call 80 #[.tmp 35] _ rfl rfl #[.agg #[.slice A4 q.opn.length k4]] Tryz.call80 (by go_simp) (HV.out _ h4) ?_;rintro e w5 ⟨rfl,b5⟩;refine ⟨_,rfl,?_⟩;replace R:=R.later b5;replace Q:=Q.later b5;replace bb:=bb.trans (b5.mono bb.size);replace h0:=h0.below b5;replace h1:=h1.below b5;replace h2:=h2.below b5;replace h3:=h3.below b5;replace h4:=h4.below b5;replace h5:=h5.below b5;replace hS:(fun w':World=>w'.cell? ⟨w.heap.size,9,none⟩=some (.slice A3 q.strokes.length k3)∧w'.cell? ⟨w.heap.size,11,none⟩=some (.int .i64 q.time)∧w'.cell? ⟨w4.heap.size,0,none⟩=some (.slice A4 q.opn.length k4)) w5:=⟨R.cell' (i:=9) rfl,R.cell' (i:=11) rfl,Q.c0⟩
 dsimp only at hS;refine bJ hK hS ?_;clear hK K;simp only [Act.put,pA,pB,pC];cases d5
 · skip
   have HF:=Lib.hid (sessB_open (by rw [hob,← hd5.out]; rfl));refine tJ 2 hS ?_;refine tJ 3 hS ?_;refine tJ0 4 hS ?_;refine tJ0 5 hS ?_;refine tJ0 6 hS ?_;refine tJ0 7 hS ?_;refine tJ0 8 hS ?_;refine tJ0 9 hS ?_;refine tJ0 10 hS ?_;refine tJ 11 hS ?_;refine tJ 12 hS ?_;refine tJ0 13 hS ?_;refine tJ0 14 hS ?_;refine tJ0 15 hS ?_;refine tJ0 16 hS ?_;refine tJ0 17 hS ?_;refine tJ0 18 hS ?_;refine tJ 19 hS ?_;refine wpAnyH_done (by kernel_rfl) ?_ _
   go_wp2_with fail
   go_ret;exact ⟨ret_boolI HF.out.symm,bb⟩
 refine tJ 2 hS ?_;refine tJ 3 hS ?_;refine tJ 4 hS ?_;refine tJ 7 hS ?_;refine tJ 8 hS ?_;refine rJ 5 fun K hK=>?_
 refine step_call 81 #[.tmp 39] _ rfl rfl #[.agg #[.slice A4 q.opn.length k4]] Tryz.call81 (by go_simp) (HFO.out _ h4) ?_;rintro e w6 ⟨rfl,b6⟩;refine ⟨_,rfl,?_⟩;replace R:=R.later b6;replace Q:=Q.later b6;replace bb:=bb.trans (b6.mono bb.size);replace h0:=h0.below b6;replace h1:=h1.below b6;replace h2:=h2.below b6;replace h3:=h3.below b6;replace h4:=h4.below b6;replace h5:=h5.below b6;replace hS:(fun w':World=>w'.cell? ⟨w.heap.size,9,none⟩=some (.slice A3 q.strokes.length k3)∧w'.cell? ⟨w.heap.size,11,none⟩=some (.int .i64 q.time)∧w'.cell? ⟨w4.heap.size,0,none⟩=some (.slice A4 q.opn.length k4)) w6:=⟨R.cell' (i:=9) rfl,R.cell' (i:=11) rfl,Q.c0⟩
 dsimp only at hS;refine bJ hK hS ?_;clear hK K;simp only [Act.put,pA,pB,pC];refine tJ 6 hS ?_;refine rJ 9 fun K hK=>?_
 refine step_call 79 #[.tmp 43] _ rfl rfl #[.agg #[.slice A3 q.strokes.length k3]] Tryz.call79 (by go_simp) (HE.out _ h3) ?_;rintro e w7 ⟨rfl,b7⟩;refine ⟨_,rfl,?_⟩;replace R:=R.later b7;replace Q:=Q.later b7;replace bb:=bb.trans (b7.mono bb.size);replace h0:=h0.below b7;replace h1:=h1.below b7;replace h2:=h2.below b7;replace h3:=h3.below b7;replace h4:=h4.below b7;replace h5:=h5.below b7;replace hS:(fun w':World=>w'.cell? ⟨w.heap.size,9,none⟩=some (.slice A3 q.strokes.length k3)∧w'.cell? ⟨w.heap.size,11,none⟩=some (.int .i64 q.time)∧w'.cell? ⟨w4.heap.size,0,none⟩=some (.slice A4 q.opn.length k4)) w7:=⟨R.cell' (i:=9) rfl,R.cell' (i:=11) rfl,Q.c0⟩
 dsimp only at hS;refine bJ hK hS ?_;clear hK K;simp only [Act.put,pA,pB,pC]
 by_cases hfi:inkEndI q.strokes < (pt q.opn 0).t
 case neg =>
  have HF:=Lib.hid (sessB_open (by rw [hob,decide_eq_false hfi,Bool.false_and,Bool.and_false]));have gf:((pt q.opn 0).t≤inkEndI q.strokes)=True:=eq_true (by omega);clear hfi;refine tJ 10 hS ?_;refine tJ 11 hS ?_;refine tJ 12 hS ?_;refine tJ0 13 hS ?_;refine tJ0 14 hS ?_;refine tJ0 15 hS ?_;refine tJ0 16 hS ?_;refine tJ0 17 hS ?_;refine tJ0 18 hS ?_;refine tJ 19 hS ?_;refine wpAnyH_done (by kernel_rfl) ?_ _
  go_wp2_with fail
  go_ret;exact ⟨ret_boolI HF.out.symm,bb⟩
 have gf:((pt q.opn 0).t≤inkEndI q.strokes)=False:=eq_false (by omega);refine tJ 10 hS ?_;refine tJ 11 hS ?_;refine tJ 12 hS ?_;refine tJ 13 hS ?_;refine tJ 14 hS ?_;refine tJ 15 hS ?_;refine rJ 16 fun K hK=>?_
 refine step_call 82 #[.tmp 50] _ rfl rfl #[.agg #[.slice A4 q.opn.length k4]] Tryz.call82 (by go_simp) (HLO.out _ h4) ?_;rintro e w8 ⟨rfl,b8⟩;refine ⟨_,rfl,?_⟩;replace R:=R.later b8;replace Q:=Q.later b8;replace bb:=bb.trans (b8.mono bb.size);replace h0:=h0.below b8;replace h1:=h1.below b8;replace h2:=h2.below b8;replace h3:=h3.below b8;replace h4:=h4.below b8;replace h5:=h5.below b8;replace hS:(fun w':World=>w'.cell? ⟨w.heap.size,9,none⟩=some (.slice A3 q.strokes.length k3)∧w'.cell? ⟨w.heap.size,11,none⟩=some (.int .i64 q.time)∧w'.cell? ⟨w4.heap.size,0,none⟩=some (.slice A4 q.opn.length k4)) w8:=⟨R.cell' (i:=9) rfl,R.cell' (i:=11) rfl,Q.c0⟩
 dsimp only at hS;refine bJ hK hS ?_;clear hK K;simp only [Act.put,pA,pB,pC]
 by_cases hla:(pt q.opn (q.opn.length - 1)).t≤q.time
 case neg =>
  have HF:=Lib.hid (sessB_open (by rw [hob,decide_eq_false hla,Bool.and_false,Bool.and_false]));have gl:(q.time < (pt q.opn (q.opn.length - 1)).t)=True:=eq_true (by omega);clear hla;refine tJ 17 hS ?_;refine tJ 18 hS ?_;refine tJ 19 hS ?_;refine wpAnyH_done (by kernel_rfl) ?_ _
  go_wp2_with fail
  go_ret;exact ⟨ret_boolI HF.out.symm,bb⟩
 have gl:(q.time < (pt q.opn (q.opn.length - 1)).t)=False:=eq_false (by omega);have hop:Hid (openB q=true):=by show _=_; rw [hob,← hd5.out,decide_eq_true hfi,decide_eq_true hla]; rfl
 clear hfi hla;refine tJ 17 hS ?_;refine tJ 18 hS ?_;refine tJ 19 hS ?_;refine wpAnyH_done (by kernel_rfl) ?_ _;have hrest:=Lib.hid (sessB_rest (q:=q) hok1.out hok2.out hok3.out hok4.out hop.out)
 by_cases h60:q.words.length≤60
 · have g6:((q.words.length:Int)≤60)=True:=eq_true (by omega)
   have HF:Hid (sessB q=q.words.all isWordB):=by show _=_; rw [hrest.out,decide_eq_true h60,Bool.and_true]
   have x4:=R.cell' (i:=12) rfl;generalize q.words.all isWordB=d at HW HF;clear h60 hrest
   go_wp2_with fail
   refine (HW.out _ h5).mono ?_;rintro e w9 ⟨rfl,b9⟩
   go_wp2_with fail
   go_ret;exact ⟨ret_boolI (by rw [HF.out] <;> cases d <;> rfl),bb.trans (b9.mono bb.size)⟩
 · have g6:((q.words.length:Int)≤60)=False:=eq_false (by omega)
   have HF:Hid (sessB q=false):=by show _=_; rw [hrest.out,decide_eq_false h60,Bool.and_false]
   have x4:=R.cell' (i:=12) rfl;clear h60 hrest
   go_wp2_with fail
   go_ret;exact ⟨ret_boolI HF.out.symm,bb⟩
end Go.Proofs.YtalmeogjhmblhaaGreat

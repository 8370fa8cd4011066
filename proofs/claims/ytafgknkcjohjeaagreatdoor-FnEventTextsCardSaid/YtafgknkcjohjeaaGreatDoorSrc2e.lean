/- A word that a law draws. Conditions: none. -/
import Derived.Test.YtafgknkcjohjeaaGreatDoorCmpe
import Derived.Test.YtafgknkcjohjeaaGreatDoorTyFeate
import Derived.Test.YtafgknkcjohjeaaGreatDoorEtMe
import Derived.Test.YtafgknkcjohjeaaGreatDoorDeGe
namespace Go.Proofs.YtafgknkcjohjeaaGreatDoor
open Go Go.RowKit
set_option maxHeartbeats 8000000
set_option maxRecDepth 100000
theorem SrcIs.alloc {B g m:Nat} {code:List UInt8} {w:World} (h:SrcIs B g code m w) (x:Obj):SrcIs B g code m (w.alloc x):=h.below ((Below.refl _ _).alloc (Nat.le_refl _) x)
theorem l00From_c {e:TypeId} {code:List UInt8} {v:Value} {F:List Nat} (w:World) (h:(byte.slice e).rep false w code [v] F) (hc:code.length≤4096) :
 Calls Tryz.prog 9 #[v] w fun e' w'=>e'=.returned (.pointer (some ⟨w.heap.size,0,none⟩))∧SrcIs (w.heap.size+1) w.heap.size code 0 w'∧Below w.heap.size w w':=by
 have HF:=Lib.hid (Ty.lt _ h);obtain ⟨A,c,rfl⟩:=slice_len h;have R:=Row.new w 73 #[.slice A code.length c,.int .i64 0,.int .u64 0];have HR:=Lib.hid (Ty.kept _ (w':=w.alloc (.cells #[.slice A code.length c,.int .i64 0,.int .u64 0] 73)) h (fun b hb=>Below.heap_alloc w _ b (HF.out b hb)));clear h
 go_enter Tryz.func9,Tryz.ntmps9
 go_wp2_with fail
 go_ret;exact ⟨rfl,⟨hc,by omega,e,_,F,0,0,R,HR.out,fun b hb=>by have:=HF.out b hb; omega,by omega,by omega,by omega⟩,(Below.refl _ _).alloc (Nat.le_refl _) _⟩
theorem spec_A2Session_c {e:TypeId} {code:List UInt8} {v:Value} {F:List Nat} (w:World) (h:(byte.slice e).rep false w code [v] F) (hc:code.length≤4096) :
 Calls Tryz.prog 6 #[v] w fun e' w'=>∃ (q:PSess) (u:Value) (G:List Nat),e'=.returned u∧sessB q=true∧SessIs idsI true w' q u G∧Fresh w.heap.size G∧Below w.heap.size w w':=by
 have hA:(byte.slice e).rep false (w.alloc (.cells #[.int .i64 0,.slice none 0 0,.int .i64 0,.int .i64 0,.int .i64 0,.slice none 0 0,.int .i64 0,.slice none 0 0,.int .i64 0,.slice none 0 0,.slice none 0 0,.int .i64 0,.slice none 0 0] 45)) code [v] F:=Ty.kept _ h (fun b hb=>Below.heap_alloc w _ b (Ty.lt _ h b hb));have H0:=Lib.hid (l00From_c (w.alloc (.cells #[.int .i64 0,.slice none 0 0,.int .i64 0,.int .i64 0,.int .i64 0,.slice none 0 0,.int .i64 0,.slice none 0 0,.int .i64 0,.slice none 0 0,.slice none 0 0,.int .i64 0,.slice none 0 0] 45)) hA hc);have R0:=Row.new w 45 #[.int .i64 0,.slice none 0 0,.int .i64 0,.int .i64 0,.int .i64 0,.slice none 0 0,.int .i64 0,.slice none 0 0,.int .i64 0,.slice none 0 0,.slice none 0 0,.int .i64 0,.slice none 0 0];have b0:Below w.heap.size w (w.alloc (.cells #[.int .i64 0,.slice none 0 0,.int .i64 0,.int .i64 0,.int .i64 0,.slice none 0 0,.int .i64 0,.slice none 0 0,.int .i64 0,.slice none 0 0,.slice none 0 0,.int .i64 0,.slice none 0 0] 45)):=(Below.refl _ _).alloc (Nat.le_refl _) _;obtain ⟨A,c,rfl⟩:=slice_len h;clear h hA
 go_enter Tryz.func6,Tryz.ntmps6
 go_upto_region 1 with fail
 generalize w.alloc (.cells #[.int .i64 0,.slice none 0 0,.int .i64 0,.int .i64 0,.int .i64 0,.slice none 0 0,.int .i64 0,.slice none 0 0,.int .i64 0,.slice none 0 0,.slice none 0 0,.int .i64 0,.slice none 0 0] 45)=w0 at H0 R0 b0 ⊢;have hz0:w.heap.size < w0.heap.size:=R0.lt
 go_wp2_with fail
 refine H0.out.mono ?_;rintro e w1 ⟨rfl,S1,b1⟩;have lt1:=S1.lt;have R1:=R0.later b1;have b01:Below w.heap.size w w1:=b0.trans (b1.mono (by omega));have C:=Lib.hid (spec_l26Draw_c w1 S1 (by omega) (by omega));clear H0 R0 b0 b1 S1
 go_wp2_with fail
 refine C.out.mono ?_;rintro e w2 ⟨q,v2,G,rfl,hs,is,fr,S2,O2⟩;obtain ⟨A0,k0,A1,k1,A2,k2,A3,k3,A4,k4,A5,k5,rfl⟩:=is.form13;have R2:=R1.onl O2 (by simp only [List.mem_singleton]; omega);have hoff:w.heap.size∉G:=fun hin=>by have:=fr.2 _ hin; omega
 have RES:=row_set13 (c0:=.int .i64 q.setup.band) (c1:=.slice A0 q.setup.temps.length k0) (c2:=.int .i64 q.setup.points) (c3:=.int .i64 q.setup.most) (c4:=.int .i64 q.setup.pen) (c5:=.slice A1 q.setup.entries.length k1) (c6:=.int .i64 q.setup.dflt) (c7:=.slice A2 q.setup.bigrams.length k2) (c8:=.int .i64 q.setup.pause) (c9:=.slice A3 q.strokes.length k3) (c10:=.slice A4 q.opn.length k4) (c11:=.int .i64 q.time) (c12:=.slice A5 q.words.length k5) R2;have ON:=Lib.hid (only_set13 (w:=w2) (g:=w.heap.size) (c0:=.int .i64 q.setup.band) (c1:=.slice A0 q.setup.temps.length k0) (c2:=.int .i64 q.setup.points) (c3:=.int .i64 q.setup.most) (c4:=.int .i64 q.setup.pen) (c5:=.slice A1 q.setup.entries.length k1) (c6:=.int .i64 q.setup.dflt) (c7:=.slice A2 q.setup.bigrams.length k2) (c8:=.int .i64 q.setup.pause) (c9:=.slice A3 q.strokes.length k3) (c10:=.slice A4 q.opn.length k4) (c11:=.int .i64 q.time) (c12:=.slice A5 q.words.length k5));have FIN:=Lib.hid (is.only ON.out (fun x hx hin=>by simp only [List.mem_singleton] at hin; exact hoff (hin ▸ hx)));have BF:=Lib.hid ((b01.trans (O2.below (B:=w.heap.size) (by omega) (fun x hx=>by simp only [List.mem_singleton] at hx; omega))).trans (ON.out.below (B:=w.heap.size) (by have:=R2.lt; omega) (fun x hx=>by simp only [List.mem_singleton] at hx; omega)));have HFR:=Lib.hid (fr.mono (show w.heap.size≤w1.heap.size by omega));have HS:=Lib.hid hs;have v0:=R2.c0;have v1:=R2.c1;have v2:=R2.c2;have v3:=R2.c3;have v4:=R2.c4;have v5:=R2.c5;have v6:=R2.cell' (i:=6) rfl;have v7:=R2.cell' (i:=7) rfl;have v8:=R2.cell' (i:=8) rfl;have v9:=R2.cell' (i:=9) rfl;have v10:=R2.cell' (i:=10) rfl;have v11:=R2.cell' (i:=11) rfl;have v12:=R2.cell' (i:=12) rfl;have vF:=R2.frozen;unfold set13 at RES;have e0:=RES.c0;have e1:=RES.c1;have e2:=RES.c2;have e3:=RES.c3;have e4:=RES.c4;have e5:=RES.c5;have e6:=RES.cell' (i:=6) rfl;have e7:=RES.cell' (i:=7) rfl;have e8:=RES.cell' (i:=8) rfl;have e9:=RES.cell' (i:=9) rfl;have e10:=RES.cell' (i:=10) rfl;have e11:=RES.cell' (i:=11) rfl;have e12:=RES.cell' (i:=12) rfl;clear RES R2 R1 is fr hs O2 S2 hoff C
 go_wp2_with fail
 refine bodyPost_ret (v:=.agg #[.int .i64 q.setup.band,.slice A0 q.setup.temps.length k0,.int .i64 q.setup.points,.int .i64 q.setup.most,.int .i64 q.setup.pen,.slice A1 q.setup.entries.length k1,.int .i64 q.setup.dflt,.slice A2 q.setup.bigrams.length k2,.int .i64 q.setup.pause,.slice A3 q.strokes.length k3,.slice A4 q.opn.length k4,.int .i64 q.time,.slice A5 q.words.length k5]) (by simp only [results,Tryz.results6]; go_simp) rfl ?_;exact ⟨q,_,G,rfl,HS.out,FIN.out,HFR.out,BF.out⟩
theorem infoEventE:(Tryz.prog.info? 48).map (fun i=>(i.zero,i.size,i.bytes))=some (some (.agg #[.int .i64 0,.int .i64 0,.int .i64 0,.int .i64 0]),pEvent.size,32):=by kernel_rfl
def SeOff (G:List Nat) (gx:Nat) (q:PSess) (w:World):Prop:=∃ a0 a1 a2 a3 a4 a5 F0 F1 F2 F3 F4 F5,OwnSs w gx q a0 a1 a2 a3 a4 a5 F0 F1 F2 F3 F4 F5∧∀ x∈F0++(F1++(F2++(F3++(F4++F5)))),x∉G
theorem SeOff.at {G:List Nat} {gx:Nat} {q:PSess} {w:World} (h:SeOff G gx q w):SeAt 0 gx q w:=by
 obtain ⟨a0,a1,a2,a3,a4,a5,F0,F1,F2,F3,F4,F5,ow,fr⟩:=h;exact ⟨a0,a1,a2,a3,a4,a5,F0,F1,F2,F3,F4,F5,ow,fun x _=>Nat.zero_le x⟩
structure AeSt (gS gx m:Nat) (code:List UInt8) (w wr:World) (q:PSess) (es:List PEvent) (v:Value) (G:List Nat):Prop where
 so:SeOff (gS :: G) gx q wr
 src:SrcIs (gS+1) gS code m wr
 bel:Below w.heap.size w wr
 rep:(pEvents 48).rep true wr es [v] G
 fr:Fresh (gS+1) G
 gxG:gx∉G
section
variable {gS gx m m':Nat} {code:List UInt8} {w wr wy:World} {q q':PSess} {es es':List PEvent} {v v':Value} {G G':List Nat}
theorem AeSt.later (h:AeSt gS gx m code w wr q es v G) (b:Below wr.heap.size wr wy):AeSt gS gx m code w wy q es v G:=by
 obtain ⟨⟨a0,a1,a2,a3,a4,a5,F0,F1,F2,F3,F4,F5,ow,fr⟩,src,bel,rep,f,n⟩:=h;exact ⟨⟨a0,a1,a2,a3,a4,a5,F0,F1,F2,F3,F4,F5,ow.later b,fr⟩,src.below b,bel.trans (b.mono bel.size),rep.below b,f,n⟩
theorem AeSt.more (h:AeSt gS gx m code w wr q es v G) (hm:m≤m'):AeSt gS gx m' code w wr q es v G:=⟨h.so,h.src.more hm,h.bel,h.rep,h.fr,h.gxG⟩
theorem AeSt.on (h:AeSt gS gx m code w wr q es v G) (o:Only [gS] wr wy) (s:SrcIs (gS+1) gS code m' wy) (hN:w.heap.size≤gS) (hx:gS≠gx):AeSt gS gx m' code w wy q es v G:=by
 obtain ⟨⟨a0,a1,a2,a3,a4,a5,F0,F1,F2,F3,F4,F5,ow,fr⟩,src,bel,rep,f,n⟩:=h;refine ⟨⟨a0,a1,a2,a3,a4,a5,F0,F1,F2,F3,F4,F5,ow.only o (by simp only [List.mem_singleton]; omega) (fun x hx hin=>fr x hx (by simp only [List.mem_singleton] at hin; simp [hin])),fr⟩,s,bel.trans (o.below bel.size (fun x hx=>by simp only [List.mem_singleton] at hx; omega)),rep.only o (fun z hz hin=>?_),f,n⟩;simp only [List.mem_singleton] at hin;have:=f.2 z hz; omega
theorem AeSt.put13 {c0 c1 c2 c3 c4 c5 c6 c7 c8 c9 c10 c11 c12:Value} {F:List Nat} {n:Nat} (h:AeSt gS gx m code w wr q es v G) (hv:SessIs idsI true wr q' (.agg #[c0,c1,c2,c3,c4,c5,c6,c7,c8,c9,c10,c11,c12]) F) (fr:Fresh n F) (hS:gS < n) (hx:gx < n) (hG:∀ x∈G,x < n) (hN:w.heap.size≤gS) (hl:gS < gx):AeSt gS gx m code w (set13 wr gx c0 c1 c2 c3 c4 c5 c6 c7 c8 c9 c10 c11 c12) q' es v G:=by
 obtain ⟨⟨a0,a1,a2,a3,a4,a5,F0,F1,F2,F3,F4,F5,ow,-⟩,src,bel,rep,f,nx⟩:=h;obtain ⟨b0,b1,b2,b3,b4,b5,G0,G1,G2,G3,G4,G5,ow',fr'⟩:=SeAt.put13 hv fr ow.row (fun hin=>by have:=fr.2 _ hin; omega);refine ⟨⟨b0,b1,b2,b3,b4,b5,G0,G1,G2,G3,G4,G5,ow',fun x hx hin=>?_⟩,src.only only_set13 (fun z hz=>by simp only [List.mem_singleton] at hz; omega),bel.trans (only_set13.below bel.size (fun z hz=>by simp only [List.mem_singleton] at hz; omega)),rep.only only_set13 (fun z hz hin=>by simp only [List.mem_singleton] at hin; exact nx (hin ▸ hz)),f,nx⟩;have h1:=fr' x hx;rcases List.mem_cons.1 hin with h | h
 · omega
 · have:=hG x h; omega
theorem AeSt.app (h:AeSt gS gx m code w wr q es v G) (o:Only G wr wy) (r:(pEvents 48).rep true wy es' [v'] G') (hs:∀ b∈G',b∈G∨wr.heap.size≤b) (hn:Fresh (gS+1) G') (hN:w.heap.size≤gS):AeSt gS gx m code w wy q es' v' G':=by
 obtain ⟨⟨a0,a1,a2,a3,a4,a5,F0,F1,F2,F3,F4,F5,ow,fr⟩,src,bel,rep,f,n⟩:=h;refine ⟨⟨a0,a1,a2,a3,a4,a5,F0,F1,F2,F3,F4,F5,ow.only o n (fun x hx hin=>fr x hx (by simp [hin])),fun x hx hin=>?_⟩,src.only o f.2,bel.trans (o.below bel.size (fun z hz=>by have:=f.2 z hz; omega)),r,hn,fun hin=>?_⟩
 · have hlt:=ow.is.blocks x hx
   rcases List.mem_cons.1 hin with h | h
   · exact fr x hx (by simp [h])
   · rcases hs x h with h | h
     · exact fr x hx (by simp [h])
     · omega
 · rcases hs gx hin with h | h
   · exact n h
   · have:=ow.row.lt; omega
end
theorem spec_A2Events_c {e:TypeId} {code:List UInt8} {v u:Value} {F Fq:List Nat} {q:PSess} (w:World) (h:(byte.slice e).rep false w code [v] F) (hc:code.length≤4096) (hq:SessIs idsI true w q u Fq) (hb:sessB q=true) :
 Calls Tryz.prog 5 #[v,u] w fun e' w'=>∃ (es:List PEvent) (x:Value) (G:List Nat),e'=.returned x∧(∀ ev∈es,possB ev=true)∧es.length≤10∧(pEvents 48).rep true w' es [x] G∧Below w.heap.size w w':=by
 obtain ⟨A,c,rfl⟩:=slice_len h;obtain ⟨A0,k0,A1,k1,A2,k2,A3,k3,A4,k4,A5,k5,rfl⟩:=hq.form13;have hA:(byte.slice e).rep false (w.alloc (.cells #[.int .i64 q.setup.band,.slice A0 q.setup.temps.length k0,.int .i64 q.setup.points,.int .i64 q.setup.most,.int .i64 q.setup.pen,.slice A1 q.setup.entries.length k1,.int .i64 q.setup.dflt,.slice A2 q.setup.bigrams.length k2,.int .i64 q.setup.pause,.slice A3 q.strokes.length k3,.slice A4 q.opn.length k4,.int .i64 q.time,.slice A5 q.words.length k5] 45)) code [.slice A code.length c] F:=Ty.kept _ h (fun b hb=>Below.heap_alloc w _ b (Ty.lt _ h b hb));have H0:=Lib.hid (l00From_c (w.alloc (.cells #[.int .i64 q.setup.band,.slice A0 q.setup.temps.length k0,.int .i64 q.setup.points,.int .i64 q.setup.most,.int .i64 q.setup.pen,.slice A1 q.setup.entries.length k1,.int .i64 q.setup.dflt,.slice A2 q.setup.bigrams.length k2,.int .i64 q.setup.pause,.slice A3 q.strokes.length k3,.slice A4 q.opn.length k4,.int .i64 q.time,.slice A5 q.words.length k5] 45)) hA hc);have R0:=Row.new w 45 #[.int .i64 q.setup.band,.slice A0 q.setup.temps.length k0,.int .i64 q.setup.points,.int .i64 q.setup.most,.int .i64 q.setup.pen,.slice A1 q.setup.entries.length k1,.int .i64 q.setup.dflt,.slice A2 q.setup.bigrams.length k2,.int .i64 q.setup.pause,.slice A3 q.strokes.length k3,.slice A4 q.opn.length k4,.int .i64 q.time,.slice A5 q.words.length k5];have b0:Below w.heap.size w (w.alloc (.cells #[.int .i64 q.setup.band,.slice A0 q.setup.temps.length k0,.int .i64 q.setup.points,.int .i64 q.setup.most,.int .i64 q.setup.pen,.slice A1 q.setup.entries.length k1,.int .i64 q.setup.dflt,.slice A2 q.setup.bigrams.length k2,.int .i64 q.setup.pause,.slice A3 q.strokes.length k3,.slice A4 q.opn.length k4,.int .i64 q.time,.slice A5 q.words.length k5] 45)):=(Below.refl _ _).alloc (Nat.le_refl _) _;have HQ:=Lib.hid (hq.below b0);have HSB:=Lib.hid hb;clear h hA hq hb
 go_enter Tryz.func5,Tryz.ntmps5
 go_upto_region 1 with fail
 generalize w.alloc (.cells #[.int .i64 q.setup.band,.slice A0 q.setup.temps.length k0,.int .i64 q.setup.points,.int .i64 q.setup.most,.int .i64 q.setup.pen,.slice A1 q.setup.entries.length k1,.int .i64 q.setup.dflt,.slice A2 q.setup.bigrams.length k2,.int .i64 q.setup.pause,.slice A3 q.strokes.length k3,.slice A4 q.opn.length k4,.int .i64 q.time,.slice A5 q.words.length k5] 45)=w0 at H0 R0 b0 HQ ⊢;have hz0:w.heap.size < w0.heap.size:=R0.lt
 go_wp2_with fail
 refine H0.out.mono ?_;rintro e w1 ⟨rfl,S1,b1⟩;have lt1:=S1.lt;have R1:=R0.later b1;replace HQ:=Lib.hid (HQ.out.below b1);have b01:Below w.heap.size w w1:=b0.trans (b1.mono (by omega));obtain ⟨a0,a1,a2,a3,a4,a5,G0,G1,G2,G3,G4,G5,ea,-,h0,h1,h2,h3,h4,h5⟩:=HQ.out;injection ea with ea
 simp only [Array.mk.injEq,List.cons.injEq,and_true,true_and] at ea;obtain ⟨rfl,rfl,rfl,rfl,rfl,rfl⟩:=ea;have sm:=sess_small HSB.out;have C:=Lib.hid (spec_l26Own_c (I:=idsI) w1 R1.c0 R1.c1 R1.c2 R1.c3 R1.c4 R1.c5 (R1.cell' (i:=6) rfl) (R1.cell' (i:=7) rfl) (R1.cell' (i:=8) rfl) (R1.cell' (i:=9) rfl) (R1.cell' (i:=10) rfl) (R1.cell' (i:=11) rfl) (R1.cell' (i:=12) rfl) h0 h1 h2 h3 h4 h5 sm.1 (by have:=sm.2.1; omega) (fun l hl=>by have:=sm.2.2.1 l hl; omega));clear H0 R0 b0 b1 R1 HQ h0 h1 h2 h3 h4 h5 sm
 go_wp2_with fail
 refine C.out.mono ?_;rintro e w2 ⟨vn,Fn,rfl,isn,frn,b2⟩;obtain ⟨N0,j0,N1,j1,N2,j2,N3,j3,N4,j4,N5,j5,rfl⟩:=isn.form13;have bN:Below w2.heap.size w2 ((w2.alloc (.cells #[.int .i64 q.setup.band,.slice N0 q.setup.temps.length j0,.int .i64 q.setup.points,.int .i64 q.setup.most,.int .i64 q.setup.pen,.slice N1 q.setup.entries.length j1,.int .i64 q.setup.dflt,.slice N2 q.setup.bigrams.length j2,.int .i64 q.setup.pause,.slice N3 q.strokes.length j3,.slice N4 q.opn.length j4,.int .i64 q.time,.slice N5 q.words.length j5] 45)).alloc (.cells #[] 48)):=((Below.refl _ _).alloc (Nat.le_refl _) _).alloc (by simp) _;have hz2:w1.heap.size≤w2.heap.size:=b2.size
 have hst:AeSt w0.heap.size w2.heap.size 0 code w ((w2.alloc (.cells #[.int .i64 q.setup.band,.slice N0 q.setup.temps.length j0,.int .i64 q.setup.points,.int .i64 q.setup.most,.int .i64 q.setup.pen,.slice N1 q.setup.entries.length j1,.int .i64 q.setup.dflt,.slice N2 q.setup.bigrams.length j2,.int .i64 q.setup.pause,.slice N3 q.strokes.length j3,.slice N4 q.opn.length j4,.int .i64 q.time,.slice N5 q.words.length j5] 45)).alloc (.cells #[] 48)) q [] (.slice (some ⟨w2.heap.size+1,0,none⟩) 0 0) [w2.heap.size+1]:=by
  have bM:Below w2.heap.size w2 (w2.alloc (.cells #[.int .i64 q.setup.band,.slice N0 q.setup.temps.length j0,.int .i64 q.setup.points,.int .i64 q.setup.most,.int .i64 q.setup.pen,.slice N1 q.setup.entries.length j1,.int .i64 q.setup.dflt,.slice N2 q.setup.bigrams.length j2,.int .i64 q.setup.pause,.slice N3 q.strokes.length j3,.slice N4 q.opn.length j4,.int .i64 q.time,.slice N5 q.words.length j5] 45)):=(Below.refl _ _).alloc (Nat.le_refl _) _;obtain ⟨b0,b1',b2',b3,b4,b5,G0,G1,G2,G3,G4,G5,ow,fr⟩:=SeAt.of (lo:=w1.heap.size) (isn.below bM) frn (Row.new w2 45 #[.int .i64 q.setup.band,.slice N0 q.setup.temps.length j0,.int .i64 q.setup.points,.int .i64 q.setup.most,.int .i64 q.setup.pen,.slice N1 q.setup.entries.length j1,.int .i64 q.setup.dflt,.slice N2 q.setup.bigrams.length j2,.int .i64 q.setup.pause,.slice N3 q.strokes.length j3,.slice N4 q.opn.length j4,.int .i64 q.time,.slice N5 q.words.length j5]) (fun hin=>by have:=isn.blocks _ hin; omega);refine ⟨⟨b0,b1',b2',b3,b4,b5,G0,G1,G2,G3,G4,G5,ow.later ((Below.refl _ _).alloc (Nat.le_refl _) _),fun x hx hin=>?_⟩,(S1.below b2).below bN,(b01.trans (b2.mono (by omega))).trans (bN.mono (by omega)),?_,⟨by simp,by intro x hx; simp at hx; omega⟩,by simp⟩
  · have h1:=fr x hx
    have h2:=ow.is.blocks x hx;rw [World.size_alloc] at h2;simp only [List.mem_cons,List.not_mem_nil,or_false] at hin;omega
  · have:=empty_is pEvent 48 (w2.alloc (.cells #[.int .i64 q.setup.band,.slice N0 q.setup.temps.length j0,.int .i64 q.setup.points,.int .i64 q.setup.most,.int .i64 q.setup.pen,.slice N1 q.setup.entries.length j1,.int .i64 q.setup.dflt,.slice N2 q.setup.bigrams.length j2,.int .i64 q.setup.pause,.slice N3 q.strokes.length j3,.slice N4 q.opn.length j4,.int .i64 q.time,.slice N5 q.words.length j5] 45))
    rw [World.size_alloc] at this;exact this
 have HST:=Lib.hid hst;clear C isn frn b2 bN hst S1 b01
 go_upto_region 4 with fail
 generalize (w2.alloc (.cells #[.int .i64 q.setup.band,.slice N0 q.setup.temps.length j0,.int .i64 q.setup.points,.int .i64 q.setup.most,.int .i64 q.setup.pen,.slice N1 q.setup.entries.length j1,.int .i64 q.setup.dflt,.slice N2 q.setup.bigrams.length j2,.int .i64 q.setup.pause,.slice N3 q.strokes.length j3,.slice N4 q.opn.length j4,.int .i64 q.time,.slice N5 q.words.length j5] 45)).alloc (.cells #[] 48)=w3 at HST ⊢;have hNS:w.heap.size≤w0.heap.size:=by omega
 have hSX:w0.heap.size < w2.heap.size:=by omega
 generalize w2.heap.size=gx at HST hSX ⊢;generalize w0.heap.size=gS at HST hNS hSX ⊢;clear hz0 lt1 hz2;have C:=Lib.hid (src_pick_c w3 HST.out.src (by omega) 10 (by omega))
 go_wp2_with fail
 refine C.out.mono ?_;rintro e w4 ⟨⟨r,r0,r1,rfl⟩,S4,O4⟩;obtain ⟨kk,rfl⟩:=Int.eq_ofNat_of_zero_le r0;replace HST:=Lib.hid (HST.out.on O4 S4 hNS (by omega));clear C S4 O4 r0
 go_wp2_with fail
 go_loopw [7,8] (fun vo vk wr=>∃ (k j:Nat) (q:PSess) (es:List PEvent) (v:Value) (G:List Nat),vo=v∧vk=.int .i64 (k:Int)∧j+k=kk∧Hid (sessB q=true∧(∀ ev∈es,possB ev=true)∧es.length≤j∧AeSt gS gx (1+11 * j) code w wr q es v G)) (fun _ i _=>(intOf i).toNat)
 case atStart=>exact ⟨kk,0,q,[],_,_,rfl,rfl,by omega,Lib.hid ⟨HSB.out,by simp,by simp,HST.out.more (by omega)⟩⟩
 case round =>
  obtain ⟨k,j,q,es,v,G,rfl,rfl,hjk,all⟩:=hrel;have HQ1:=Lib.hid all.out.1;have HPS:=Lib.hid all.out.2.1;have hlen:=all.out.2.2.1;have hst:=all.out.2.2.2;obtain ⟨Ao,no,co,rfl⟩:=slice_form hst.rep;have HS1:=Lib.hid hst;clear all hst HST HSB;cases k with
  | zero =>
    have z0:decide ((0:Int) < 0)=false:=rfl;have HLN:=Lib.hid hlen;clear hlen
    go_wp2_with fail
    go_ret;exact ⟨es,_,G,rfl,HPS.out,by have:=HLN.out; omega,HS1.out.rep,HS1.out.bel⟩
  | succ i1 =>
    have gk2:(0:Int) < ((i1+1:Nat):Int):=by omega
    have km:IntKind.i64.wrap (((i1+1:Nat):Int) - 1)=(i1:Int):=(IntWalk.i64_in _ (by omega)).trans (by omega);generalize hkk:((i1+1:Nat):Int)=kv at gk2 km ⊢;have gk3:decide (0 < kv)=true:=decide_eq_true gk2;have HKK:=Lib.hid hkk;have HLN:=Lib.hid hlen;have C:=Lib.hid (ev_at wr HS1.out.so.at HS1.out.src (by have:=HS1.out.so.at.lt; omega) (by omega) (by omega) HQ1.out);clear hkk hlen
    go_wp2_with fail
    refine C.out.mono ?_;rintro e w5 ⟨ek,ex,ey,et,rfl,hI,S5,O5⟩;have bE:Below w5.heap.size w5 (w5.alloc (.cells #[.int .i64 ek,.int .i64 ex,.int .i64 ey,.int .i64 et] 48)):=(Below.refl _ _).alloc (Nat.le_refl _) _;have HRE:=Lib.hid (Row.new w5 48 #[.int .i64 ek,.int .i64 ex,.int .i64 ey,.int .i64 et]);have HGE:=Lib.hid (show ∀ x∈G,x < w5.heap.size from fun x hx=>Nat.lt_of_lt_of_le (HS1.out.rep.blocks x hx) O5.size);have HS2:=Lib.hid ((HS1.out.on O5 S5 hNS (by omega)).later bE);clear C S5 O5 bE
    go_upto_region 8 with fail
    generalize w5.alloc (.cells #[.int .i64 ek,.int .i64 ex,.int .i64 ey,.int .i64 et] 48)=w6 at HRE HS2 ⊢;generalize w5.heap.size=gE at HRE HGE ⊢;obtain ⟨ev,hev⟩:∃ ev:PEvent,ev=⟨ek,ex,ey,et⟩:=⟨_,rfl⟩
    have HRV:=Lib.hid (show Row w6 gE 48 [.int .i64 ev.kind,.int .i64 ev.x,.int .i64 ev.y,.int .i64 ev.t] from by rw [hev]; exact HRE.out);have HI:=Lib.hid (show ∀ s∈[ev],pEventOk s from by intro s hs; simp only [List.mem_singleton] at hs; rw [hs,hev]; exact hI);clear hev HRE hI;have C:=Lib.hid (spec_l26Possible_c ev w6 HRV.out)
    go_wp2_with fail
    refine C.out.mono ?_;rintro e w7 ⟨rfl,b7⟩;replace HRV:=Lib.hid (HRV.out.later b7);replace HS2:=Lib.hid (HS2.out.later b7);clear C b7;cases hpo:possB ev with
    | false =>
      clear hpo
      go_wp2_with fail
      exact ⟨⟨i1,j+1,q,es,_,G,rfl,by first | rfl | go_num,by omega,Lib.hid ⟨HQ1.out,HPS.out,by have:=HLN.out; omega,HS2.out.more (by omega)⟩⟩,by simp [intOf]; have:=HKK.out; omega⟩
    | true =>
      have HPO:=Lib.hid hpo;have v0:=HRV.out.c0;have v1:=HRV.out.c1;have v2:=HRV.out.c2;have v3:=HRV.out.c3;have hgE:=HRV.out.lt;clear hpo
      go_upto_region 10 with (at_builtin; refine wpList_append_repX (T:=pEvent) (e:=48) (ys:=[ev]) (ec:=[.int .i64 ev.kind,.int .i64 ev.x,.int .i64 ev.y,.int .i64 ev.t]) rfl (.tmp 27) (.tmp 29) rfl Tryz.underlying24 infoEventE rfl (by decide) rfl (HS2.out.rep.alloc _) rfl (repL_pEvent [ev] HI.out) (cellsAt_new _ _ _) trivial (by rw [List.append_nil]; exact HS2.out.fr.1) (by have:=HLN.out; simp only [List.length_singleton,maxLen]; omega) (by have:=HLN.out; simp only [List.length_singleton]; omega) ?_; intro v8 w8 G8 r8 o8 f8 x8; obtain ⟨V8,n8,c8,rfl⟩:=slice_form r8; clear v0 v1 v2 v3)
      have bA:Below w7.heap.size w7 (w7.alloc (.cells #[.int .i64 ev.kind,.int .i64 ev.x,.int .i64 ev.y,.int .i64 ev.t] 48)):=(Below.refl _ _).alloc (Nat.le_refl _) _;have h3:=HS2.out.later bA;have hgG:gE∉G:=fun hin=>by have:=HGE.out _ hin; omega
      have HS3:=Lib.hid (h3.app o8 r8 (fun b hb=>by rcases x8.1 b hb with h | h; (exact .inl (by simpa using h)); (exact .inr h)) (f8 (gS+1) (by rw [List.append_nil]; exact HS2.out.fr) (by have:=h3.so.at.lt; omega)) hNS);have HRW:=Lib.hid ((HRV.out.later bA).onl o8 hgG);have HPS3:=Lib.hid (show ∀ x∈es++[ev],possB x=true from fun x hx=>by rcases List.mem_append.1 hx with h | h; (exact HPS.out x h); (rw [List.mem_singleton] at h; rw [h]; exact HPO.out));clear r8 o8 f8 x8 h3 bA hgG;have C0:=do_at w8 HS3.out.so.at HRW.out HQ1.out HPO.out;obtain ⟨q2,tx,cc,HV⟩:∃ q2 tx cc,Hid (doR q ev=(q2,tx,cc)):=⟨_,_,_,Lib.hid rfl⟩
      rw [HV.out] at C0;have C:=Lib.hid C0;clear C0
      go_wp2_with fail
      refine C.out.mono ?_;rintro en w9 ⟨v9,F9,rfl,is9,fr9,b9⟩;obtain ⟨M0,n0,M1,n1,M2,n2,M3,n3,M4,n4,M5,n5,rfl⟩:=is9.form13;have RN:=Lib.hid (Row.new w9 45 #[.int .i64 q2.setup.band,.slice M0 q2.setup.temps.length n0,.int .i64 q2.setup.points,.int .i64 q2.setup.most,.int .i64 q2.setup.pen,.slice M1 q2.setup.entries.length n1,.int .i64 q2.setup.dflt,.slice M2 q2.setup.bigrams.length n2,.int .i64 q2.setup.pause,.slice M3 q2.strokes.length n3,.slice M4 q2.opn.length n4,.int .i64 q2.time,.slice M5 q2.words.length n5]);have bN:Below w9.heap.size w9 (w9.alloc (.cells #[.int .i64 q2.setup.band,.slice M0 q2.setup.temps.length n0,.int .i64 q2.setup.points,.int .i64 q2.setup.most,.int .i64 q2.setup.pen,.slice M1 q2.setup.entries.length n1,.int .i64 q2.setup.dflt,.slice M2 q2.setup.bigrams.length n2,.int .i64 q2.setup.pause,.slice M3 q2.strokes.length n3,.slice M4 q2.opn.length n4,.int .i64 q2.time,.slice M5 q2.words.length n5] 45)):=(Below.refl _ _).alloc (Nat.le_refl _) _;have hg8:gx < w8.heap.size:=HS3.out.so.at.lt;have HG8:=Lib.hid HS3.out.rep.blocks;have HS4:=Lib.hid ((HS3.out.later b9).later bN);have HIS:=Lib.hid (is9.below bN);have HFR:=Lib.hid fr9;clear C is9 fr9 b9 bN
      go_upto_region 11 with fail
      generalize w9.alloc (.cells #[.int .i64 q2.setup.band,.slice M0 q2.setup.temps.length n0,.int .i64 q2.setup.points,.int .i64 q2.setup.most,.int .i64 q2.setup.pen,.slice M1 q2.setup.entries.length n1,.int .i64 q2.setup.dflt,.slice M2 q2.setup.bigrams.length n2,.int .i64 q2.setup.pause,.slice M3 q2.strokes.length n3,.slice M4 q2.opn.length n4,.int .i64 q2.time,.slice M5 q2.words.length n5] 45)=w10 at RN HS4 HIS ⊢;generalize w9.heap.size=gN at RN ⊢
      by_cases hc:cc=0
      · subst hc
        have g1:((0:Int) == 0)=true:=rfl;have HSS:=Lib.hid (show sessB q2=true from by have:=doR_sess HQ1.out HPO.out (by rw [HV.out]); rwa [HV.out] at this);obtain ⟨a0,a1,a2,a3,a4,a5,F0,F1,F2,F3,F4,F5,ow,fr⟩:=HS4.out.so;have NEW:=Lib.hid (HS4.out.put13 HIS.out HFR.out (by omega) hg8 HG8.out hNS hSX);have d0:=ow.row.c0;have d1:=ow.row.c1;have d2:=ow.row.c2;have d3:=ow.row.c3;have d4:=ow.row.c4;have d5:=ow.row.c5;have d6:=ow.row.cell' (i:=6) rfl;have d7:=ow.row.cell' (i:=7) rfl;have d8:=ow.row.cell' (i:=8) rfl;have d9:=ow.row.cell' (i:=9) rfl;have d10:=ow.row.cell' (i:=10) rfl;have d11:=ow.row.cell' (i:=11) rfl;have d12:=ow.row.cell' (i:=12) rfl;have dF:=ow.row.frozen;have r0:=RN.out.c0;have r1:=RN.out.c1;have r2:=RN.out.c2;have r3:=RN.out.c3;have r4:=RN.out.c4;have r5:=RN.out.c5;have r6:=RN.out.cell' (i:=6) rfl;have r7:=RN.out.cell' (i:=7) rfl;have r8:=RN.out.cell' (i:=8) rfl;have r9:=RN.out.cell' (i:=9) rfl;have r10:=RN.out.cell' (i:=10) rfl;have r11:=RN.out.cell' (i:=11) rfl;have r12:=RN.out.cell' (i:=12) rfl;clear ow fr
        go_wp2_with fail
        exact ⟨⟨i1,j+1,q2,_,_,G8,rfl,by first | rfl | go_num,by omega,Lib.hid ⟨HSS.out,HPS3.out,by rw [List.length_append,List.length_singleton]; have:=HLN.out; omega,NEW.out.more (by omega)⟩⟩,by simp [intOf]; have:=HKK.out; omega⟩
      · have g1:(cc == 0)=false:=beqE_false _ _ hc
        clear hc
        go_wp2_with fail
        exact ⟨⟨i1,j+1,q,_,_,G8,rfl,by first | rfl | go_num,by omega,Lib.hid ⟨HQ1.out,HPS3.out,by rw [List.length_append,List.length_singleton]; have:=HLN.out; omega,HS4.out.more (by omega)⟩⟩,by simp [intOf]; have:=HKK.out; omega⟩
end Go.Proofs.YtafgknkcjohjeaaGreatDoor

/- append onto a slice of one's own, told by its data. Conditions: none. -/
import Derived.Test.YtalmeogjhmblhaaGreatMarkw
import Derived.Test.YtalmeogjhmblhaaGreatTyEntryw
import Derived.Test.YtalmeogjhmblhaaGreatTyStepw
import Derived.Test.YtalmeogjhmblhaaGreatRows
import Derived.Test.YtalmeogjhmblhaaGreatTkw
namespace Go.Proofs.YtalmeogjhmblhaaGreat
open Go Go.RowKit
set_option maxHeartbeats 8000000
set_option maxRecDepth 100000
def CellsAt (w:World) (A:Option Addr) (cs:List Value):Prop:=0 < cs.length→∃ b off,A=some ⟨b,off,none⟩∧∀ j u,cs[j]?=some u→w.cell? ⟨b,off+j,none⟩=some u
theorem cellsAt_new (w:World) (e:TypeId) (cs:List Value):CellsAt (w.alloc (.cells cs.toArray e)) (some ⟨w.heap.size,0,none⟩) cs :=
 fun _=>⟨w.heap.size,0,rfl,fun j u hu=>by
  have R:=Row.new w e cs.toArray;rw [Nat.zero_add];exact R.cell' (by simpa using hu)⟩
theorem grown_only {w w':World} {v:Value} {F:List Nat} (hg:w.grownBy w' v.ownBlock) (hF:∀ g,v.ownBlock=some g→g∈F):Only F w w' :=
 ⟨hg.os,hg.tape,hg.output,hg.size,fun k hk hn=>hg.block k hk (fun e=>hn (hF k e.symm))⟩
section
variable {P:Program} {α:Type} {T:Ty α} {t e:TypeId} {z:Value} {bytes:Nat} {w:World} {xs ys:List α} {v:Value} {F Fy:List Nat} {A:Option Addr} {c:Nat} {ec:List Value}
theorem run_append_repX (ty:TypeId) (ht:P.underlying t=some (.slice e)) (hi:(P.info? e).map (fun i=>(i.zero,i.size,i.bytes))=some (some z,T.size,bytes)) (hz:z.cells.size=T.size) (h0:0 < T.size)
 (hr:(T.slice e).rep true w xs [v] F) (hy:repL T true w ys ec Fy) (hat:CellsAt w A ec) (_:True) (hnd:(F++Fy).Nodup)
 (h63:xs.length+ys.length≤maxLen) (hb:(xs.length+ys.length) * bytes≤140737488355328) :
 ∃ v' w' F',(Builtin.append_ #[t,t] ty #[v,.slice A ys.length c]).run P w=.ok v' w'∧(T.slice e).rep true w' (xs++ys) [v'] F'∧Only F w w'∧(∀ B,Fresh B (F++Fy)→B≤w.heap.size→Fresh B F')∧((∀ b∈F',b∈F++Fy∨w.heap.size≤b)∧Only v.ownBlock.toList w w'∧∀ b∈v'.ownBlock.toList,b∈v.ownBlock.toList∨w.heap.size≤b):=by
 obtain ⟨i,hi1,hz1,hi2,hi3⟩:=info_parts hi;obtain ⟨a0,c0,ex,F0,F1,hv,rfl,hl,hc,hx,hlt,hax,ho⟩:=hr;simp only [List.cons.injEq,and_true] at hv;subst hv;obtain ⟨hown,hF0⟩:=ho rfl;have hin0:∀ g,(Value.slice a0 xs.length c0).ownBlock=some g→g∈F0:=fun g hg=>by rw [hF0,hg]; simp
 by_cases hne:A=none
 · subst hne
   have hc0:(Builtin.append_ #[t,t] ty #[.slice a0 xs.length c0,.slice none ys.length c]).run P w=(Builtin.append_ #[t,t] ty #[.slice a0 xs.length c0,.slice none ys.length 0]).run P w:=rfl;rw [hc0]
   have hec:ec=[]:=by
    by_cases h:0 < ec.length
    · obtain ⟨b,off,h1,_⟩:=hat h
      cases h1
    · exact List.eq_nil_of_length_eq_zero (by omega)
   have hys:ys=[]:=by
    have h1:=repL_len hy;rw [hec] at h1
    have:ys.length=0:=by
     rcases Nat.eq_zero_or_pos ys.length with h | h
     · exact h
     · have:=Nat.mul_pos h h0
       simp at h1; omega
    exact List.eq_nil_of_length_eq_zero this
   subst hys;refine ⟨_,w,F0++F1,run_append_owned_none (P:=P) w 0 t ty e i T.size ht hi1 _ xs.length ex hown,?_,Only.refl _ _,fun B hB _=>⟨(List.nodup_append.1 hB.1).1,fun b hb=>hB.2 b (List.mem_append.2 (.inl hb))⟩,fun b hb=>.inl (List.mem_append.2 (.inl hb)),Only.refl _ _,fun b hb=>.inl hb⟩;rw [List.append_nil];exact ⟨a0,c0,ex,F0,F1,rfl,rfl,hl,hc,hx,hlt,hax,ho⟩
 · obtain ⟨ad,rfl⟩:∃ ad,A=some ad:=by cases A with | none=>exact absurd rfl hne | some ad=>exact ⟨ad,rfl⟩
   have hnews:∀ j u,ec[j]?=some u→w.cell? (ad.add j)=some u:=by
    intro j u hu;have hj:j < ec.length:=(List.getElem?_eq_some_iff.1 hu).1;obtain ⟨b,off,h1,h2⟩:=hat (by omega);injection h1 with h1
    subst h1;have e1:((⟨b,off,none⟩:Addr).add j)=⟨b,off+j,none⟩:=by unfold Addr.add; split <;> simp_all
    rw [e1];exact h2 j u hu
   obtain ⟨v',w',hrun,h2,h3,h4,h5⟩:=run_append_own_at (P:=P) w 0 t ty e i z T.size bytes ht hi1 hz1 hi2 hi3 hz h0 _ xs.length ex hown ad ys.length c ec (repL_len hy) hnews (repL_one hy) h63 hb (Nat.zero_le _);have hon:Only F0 w w':=grown_only h3 hin0
   have hd:∀ b∈F1++Fy,b∉F0:=by
    intro b hb hb0;rw [List.append_assoc] at hnd;exact (List.nodup_append.1 hnd).2.2 b hb0 b hb rfl
   have kx:repL T true w' xs ex F1:=repL_kept hx fun b hb=>hon.block b (repL_lt hx b hb) (hd b (by simp [hb]))
   have ky:repL T true w' ys ec Fy:=repL_kept hy fun b hb=>hon.block b (repL_lt hy b hb) (hd b (by simp [hb]))
   -- what the new value looks like
   have hform:∃ A' c',v'=.slice A' (xs.length+ys.length) c'∧xs.length+ys.length≤c'∧c'≤maxLen:=by
    rcases h2.2 with ⟨h,hn⟩ | ⟨g,cap,cur,h,_,_,hn,hm,_⟩
    · exact ⟨none,0,by rw [h,hn],by omega,Nat.zero_le _⟩
    · exact ⟨_,cap,h,hn,hm⟩
   obtain ⟨A',c',rfl,hnc,hcm⟩:=hform
   have hlt':∀ b∈((Value.slice A' (xs.length+ys.length) c').ownBlock).toList,b < w'.heap.size:=by
    intro b hb;exact (h2.lt b (by simpa using hb)).2
   refine ⟨_,w',((Value.slice A' (xs.length+ys.length) c').ownBlock).toList++(F1++Fy),hrun,⟨A',c',ex++ec,_,F1++Fy,by rw [List.length_append],rfl,by rw [List.length_append]; exact hnc,hcm,repL_append kx ky,hlt',?_,fun _=>⟨by rw [List.length_append]; exact h2,by rw [List.length_append]⟩⟩,hon.mono (fun x hx=>by simp [hx]),?_,?_,by rw [← hF0]; exact hon,fun b hb=>by
    rcases h5 with h | h
    · rw [h] at hb; exact .inl hb
    · rw [h] at hb; simp at hb; exact .inr (by omega)⟩
   · intro hpos
     rw [List.length_append] at hpos;rcases h2.2 with ⟨h,hn⟩ | ⟨g,cap,cur,h,_,hh,hn,hm,hcs,htk⟩
     · omega
     · injection h with h1 _ h3'
       subst h1;refine ⟨g,0,rfl,by simp [Value.ownBlock],fun j u hu=>?_⟩;have hj:j < (ex++ec).length:=(List.getElem?_eq_some_iff.1 hu).1;rw [Nat.zero_add];simp only [World.cell?,hh];have hlen:(ex++ec).length=(xs.length+ys.length) * T.size:=h2.1;rw [← htk] at hu;rw [List.getElem?_take_of_lt (by omega)] at hu
       simpa using hu
   · intro B hB hBs
     obtain ⟨hB1,hB2⟩:=hB;rw [List.append_assoc] at hB1;have hsplit:=List.nodup_append.1 hB1;rcases h5 with h | h
     · rw [h,← hF0]
       exact ⟨by rw [← List.append_assoc]; rw [← List.append_assoc] at hB1; exact hB1,fun b hb=>hB2 b (by rw [List.append_assoc]; exact hb)⟩
     · rw [h]
       refine ⟨?_,?_⟩
       · show (w.heap.size :: (F1++Fy)).Nodup
         rw [List.nodup_cons];refine ⟨fun hin=>?_,hsplit.2.1⟩;rcases List.mem_append.1 hin with h6 | h6
         · exact absurd (repL_lt hx _ h6) (by omega)
         · exact absurd (repL_lt hy _ h6) (by omega)
       · intro b hb
         simp only [Option.toList_some,List.singleton_append,List.mem_cons] at hb;rcases hb with rfl | hb
         · exact hBs
         · exact hB2 b (by rw [List.append_assoc]; exact List.mem_append.2 (.inr hb))
   · intro b hb
     rcases h5 with h | h
     · rw [h,← hF0] at hb
       exact .inl (by simpa using hb)
     · rw [h] at hb
       simp only [Option.toList_some,List.singleton_append,List.mem_cons] at hb;rcases hb with rfl | hb
       · exact .inr (Nat.le_refl _)
       · exact .inl (by simp only [List.mem_append] at hb ⊢; rcases hb with hb | hb <;> simp [hb])
theorem run_append_rep (ty:TypeId) (ht:P.underlying t=some (.slice e)) (hi:(P.info? e).map (fun i=>(i.zero,i.size,i.bytes))=some (some z,T.size,bytes)) (hz:z.cells.size=T.size) (h0:0 < T.size)
 (hr:(T.slice e).rep true w xs [v] F) (hy:repL T true w ys ec Fy) (hat:CellsAt w A ec) (hA:True) (hnd:(F++Fy).Nodup)
 (h63:xs.length+ys.length≤maxLen) (hb:(xs.length+ys.length) * bytes≤140737488355328) :
 ∃ v' w' F',(Builtin.append_ #[t,t] ty #[v,.slice A ys.length c]).run P w=.ok v' w'∧(T.slice e).rep true w' (xs++ys) [v'] F'∧Only F w w'∧(∀ B,Fresh B (F++Fy)→B≤w.heap.size→Fresh B F'):=by
 obtain ⟨v',w',F',h1,h2,h3,h4,_⟩:=run_append_repX (P:=P) (c:=c) ty ht hi hz h0 hr hy hat hA hnd h63 hb;exact ⟨v',w',F',h1,h2,h3,h4⟩
theorem wpList_append_rep {ops:Array Oper} {rest:List Oper} {o:Oper} {a:Act} {Q:Exit→Act→World→Prop} (hgd:o.guard=none) (s x:Operand)
 (ho:o.op=.call { callee:=.builtin .append,args:=#[s,x],argTypes:=#[t,t] })
 (ht:P.underlying t=some (.slice e)) (hi:(P.info? e).map (fun i=>(i.zero,i.size,i.bytes))=some (some z,T.size,bytes)) (hz:z.cells.size=T.size) (h0:0 < T.size)
 (hs:a.eval s=v) (hr:(T.slice e).rep true w xs [v] F) (hx:a.eval x=.slice A ys.length c) (hy:repL T true w ys ec Fy) (hat:CellsAt w A ec) (hA:True) (hnd:(F++Fy).Nodup)
 (h63:xs.length+ys.length≤maxLen) (hb:(xs.length+ys.length) * bytes≤140737488355328)
 (h:∀ v' w' F',(T.slice e).rep true w' (xs++ys) [v'] F'→Only F w w'→(∀ B,Fresh B (F++Fy)→B≤w.heap.size→Fresh B F')→wpList P ops Q rest (a.put o.dst v') w'):wpList P ops Q (o :: rest) a w:=by
 refine wpList_plain hgd fun K hK=>?_
 obtain ⟨v',w',F',hrun,h2,h3,h4⟩:=run_append_rep (P:=P) (c:=c) o.type ht hi hz h0 hr hy hat hA hnd h63 hb;unfold Oper.wp execOp;simp only [ho,resolve,invoke,builtin,Sem.run_bind,Sem.run_pure,Result.andThen_ok,List.map_toArray,List.map_cons,List.map_nil,hs,hx,hrun];exact hK _ _ (h v' w' F' h2 h3 h4)
theorem wpList_append_repX {ops:Array Oper} {rest:List Oper} {o:Oper} {a:Act} {Q:Exit→Act→World→Prop} (hgd:o.guard=none) (s x:Operand)
 (ho:o.op=.call { callee:=.builtin .append,args:=#[s,x],argTypes:=#[t,t] })
 (ht:P.underlying t=some (.slice e)) (hi:(P.info? e).map (fun i=>(i.zero,i.size,i.bytes))=some (some z,T.size,bytes)) (hz:z.cells.size=T.size) (h0:0 < T.size)
 (hs:a.eval s=v) (hr:(T.slice e).rep true w xs [v] F) (hx:a.eval x=.slice A ys.length c) (hy:repL T true w ys ec Fy) (hat:CellsAt w A ec) (hA:True) (hnd:(F++Fy).Nodup)
 (h63:xs.length+ys.length≤maxLen) (hb:(xs.length+ys.length) * bytes≤140737488355328)
 (h:∀ v' w' F',(T.slice e).rep true w' (xs++ys) [v'] F'→Only F w w'→(∀ B,Fresh B (F++Fy)→B≤w.heap.size→Fresh B F')→((∀ b∈F',b∈F++Fy∨w.heap.size≤b)∧Only v.ownBlock.toList w w'∧∀ b∈v'.ownBlock.toList,b∈v.ownBlock.toList∨w.heap.size≤b)→wpList P ops Q rest (a.put o.dst v') w'):wpList P ops Q (o :: rest) a w:=by
 refine wpList_plain hgd fun K hK=>?_
 obtain ⟨v',w',F',hrun,h2,h3,h4,h5⟩:=run_append_repX (P:=P) (c:=c) o.type ht hi hz h0 hr hy hat hA hnd h63 hb;unfold Oper.wp execOp;simp only [ho,resolve,invoke,builtin,Sem.run_bind,Sem.run_pure,Result.andThen_ok,List.map_toArray,List.map_cons,List.map_nil,hs,hx,hrun];exact hK _ _ (h v' w' F' h2 h3 h4 h5)
end
theorem strokeB_len {s:PStroke} (h:strokeB s=true):s.length≤60:=by
 simp only [strokeB,Bool.and_eq_true,decide_eq_true_eq] at h;omega
theorem inkB_stroke {xs:List PStroke} (h:inkB xs=true) {k:Nat} (hk:k < xs.length):strokeB xs[k]=true:=by
 simp only [inkB,Bool.and_eq_true] at h;exact stOk_stroke hk (stsOk_get h.1 hk)
theorem inkB_few {xs:List PStroke} (h:inkB xs=true):xs.length≤16:=by
 simp only [inkB,Bool.and_eq_true,decide_eq_true_eq] at h;exact h.2
theorem only_cell {F:List Nat} {a b:World} (h:Only F a b) {g i:Nat} (hg:g < a.heap.size) (hn:g∉F):b.cell? ⟨g,i,none⟩=a.cell? ⟨g,i,none⟩:=by
 have:=h.block g hg hn;simp [World.cell?,this]
theorem spec_l02Stroke_c {o:Bool} {e:TypeId} {xs:PStroke} {v:Value} {F:List Nat} {g f:Nat} (w:World) (hg:w.cell? ⟨g,f,none⟩=some v) (hgl:g < w.heap.size) (h:(pPoints e).rep o w xs [v] F) (hx:xs.length≤1048576) :
 Calls Tryz.prog 63 #[.pointer (some ⟨g,f,none⟩)] w fun e w'=>e=.returned (.bool (strokeB xs))∧Below w.heap.size w w':=by
 obtain ⟨A,c,rfl,hc1,hc2,hr⟩:=pPoints_open h;clear h
 go_enter Tryz.func63,Tryz.ntmps63
 go_wp2_with fail
 go_loopw [3] (fun i wr=>∃ k:Nat,k≤xs.length∧i=.int .i64 k∧Hid (ptsOk xs k=true)∧Below w.heap.size w wr) (fun i _=>xs.length - (intOf i).toNat)
 case atStart=>exact ⟨0,Nat.zero_le _,rfl,rfl,Below.refl _ _⟩
 case round =>
  obtain ⟨k,hk,rfl,hok,hb⟩:=hrel;have hbs:=hb.size;rw [← hb.cell (p:=⟨g,_,none⟩) hgl] at hg;replace hgl:g < wr.heap.size:=by omega
  by_cases hlt:k < xs.length
  · obtain ⟨b,off,rfl,hbb,_,h0,h1,h2,_⟩:=hr k hlt
    rw [← hb.cell (p:=⟨b,_,none⟩) hbb] at h0 h1 h2;have hbb':b < wr.heap.size:=by omega
    have HC:=Lib.hid (spec_l02Point_c xs[k]);have kp:∀ (g i:Nat) (u:Value),g < wr.heap.size→wr.cell? ⟨g,i,none⟩=some u→(wr.drew.alloc (.cells #[.int .i64 xs[k].x,.int .i64 xs[k].y,.int .i64 xs[k].t] 128)).cell? ⟨g,i,none⟩=some u:=fun g i u hg hc=>(World.cell?_alloc_past (w:=wr.drew) _ _ _ hg).trans hc
    have al:Below w.heap.size w (wr.drew.alloc (.cells #[.int .i64 xs[k].x,.int .i64 xs[k].y,.int .i64 xs[k].t] 128)):=(hb.drew).alloc hbs _;have k0:(0:Int)≤(k:Int):=by omega
    have kl':(k:Int) < (xs.length:Int):=by omega
    cases hp:pointB xs[k]
    · have HF:=Lib.hid (strokeB_false hlt (ptOk_bad hlt hp))
      simp only [hp] at HC;clear hr hp
      go_wp2_with fail
      have hS:(fun w'=>w'.cell? ⟨g,f,none⟩=some (.slice (some ⟨b,off,none⟩) xs.length c)∧w'.cell? ⟨b,off+k * 3,none⟩=some (.int .i64 xs[k].x)∧w'.cell? ⟨b,off+k * 3+1,none⟩=some (.int .i64 xs[k].y)∧w'.cell? ⟨b,off+k * 3+2,none⟩=some (.int .i64 xs[k].t)) wr.drew:=⟨hg,h0,h1,h2⟩
      dsimp only at hS;refine wp_region_held_drew (S:=(fun w'=>w'.cell? ⟨g,f,none⟩=some (.slice (some ⟨b,off,none⟩) xs.length c)∧w'.cell? ⟨b,off+k * 3,none⟩=some (.int .i64 xs[k].x)∧w'.cell? ⟨b,off+k * 3+1,none⟩=some (.int .i64 xs[k].y)∧w'.cell? ⟨b,off+k * 3+2,none⟩=some (.int .i64 xs[k].t))) (by kernel_rfl) hS (fun _=>?_);refine tJ 0 hS ?_;refine tJ 1 hS ?_;refine tJ 2 hS ?_;refine tJ 3 hS ?_;refine tJ 4 hS ?_;refine tJ 5 hS ?_;refine tJ 6 hS ?_;refine rJ 7 fun K hK=>?_
      refine step_call 95 #[.tmp 19] _ rfl rfl #[.agg #[.int .i64 xs[k].x,.int .i64 xs[k].y,.int .i64 xs[k].t]] Tryz.call95 (by go_simp) (HC.out _) ?_;rintro e w1 ⟨rfl,rfl⟩;refine ⟨_,rfl,?_⟩;replace hS:(fun w'=>w'.cell? ⟨g,f,none⟩=some (.slice (some ⟨b,off,none⟩) xs.length c)∧w'.cell? ⟨b,off+k * 3,none⟩=some (.int .i64 xs[k].x)∧w'.cell? ⟨b,off+k * 3+1,none⟩=some (.int .i64 xs[k].y)∧w'.cell? ⟨b,off+k * 3+2,none⟩=some (.int .i64 xs[k].t)) (wr.drew.alloc (.cells #[.int .i64 xs[k].x,.int .i64 xs[k].y,.int .i64 xs[k].t] 128)):=⟨kp _ _ _ hgl hg,kp _ _ _ hbb' h0,kp _ _ _ hbb' h1,kp _ _ _ hbb' h2⟩
      dsimp only at hS;refine bJ hK hS ?_;clear hK K;simp only [Act.put,pA,pB,pC];refine tJ 8 hS ?_;refine tJ 9 hS ?_;refine tJ0 10 hS ?_;refine tJ0 11 hS ?_;refine tJ0 12 hS ?_;refine tJ0 13 hS ?_;refine tJ0 14 hS ?_;refine tJ0 15 hS ?_;refine tJ0 16 hS ?_;refine tJ0 17 hS ?_;refine tJ0 18 hS ?_;refine tJ0 19 hS ?_;refine tJ0 20 hS ?_;refine tJ0 21 hS ?_;refine tJ0 22 hS ?_;refine tJ0 23 hS ?_;refine tJ0 24 hS ?_;refine tJ0 25 hS ?_;refine tJ0 26 hS ?_;refine tJ0 27 hS ?_;refine tJ0 28 hS ?_;refine tJ0 29 hS ?_;refine tJ0 30 hS ?_;refine tJ0 31 hS ?_;refine tJ 32 hS ?_;refine wpAnyH_done (by kernel_rfl) ?_ _
      go_wp2_with fail
      go_ret;exact ⟨ret_boolI HF.out.symm,al⟩
    · have HP:=Lib.hid hp
      simp only [hp] at HC;clear hp
      by_cases hz:k=0
      · have HK:Hid (ptsOk xs (k+1)=true):=by show _=_; rw [ptsOk,hok.out,ptOk_step hlt HP.out (.inl hz)]; rfl
        have g0:(0 < k)=False:=eq_false (by omega);clear hr hz
        go_wp2_with fail
        have hS:(fun w'=>w'.cell? ⟨g,f,none⟩=some (.slice (some ⟨b,off,none⟩) xs.length c)∧w'.cell? ⟨b,off+k * 3,none⟩=some (.int .i64 xs[k].x)∧w'.cell? ⟨b,off+k * 3+1,none⟩=some (.int .i64 xs[k].y)∧w'.cell? ⟨b,off+k * 3+2,none⟩=some (.int .i64 xs[k].t)) wr.drew:=⟨hg,h0,h1,h2⟩
        dsimp only at hS;refine wp_region_held_drew (S:=(fun w'=>w'.cell? ⟨g,f,none⟩=some (.slice (some ⟨b,off,none⟩) xs.length c)∧w'.cell? ⟨b,off+k * 3,none⟩=some (.int .i64 xs[k].x)∧w'.cell? ⟨b,off+k * 3+1,none⟩=some (.int .i64 xs[k].y)∧w'.cell? ⟨b,off+k * 3+2,none⟩=some (.int .i64 xs[k].t))) (by kernel_rfl) hS (fun _=>?_);refine tJ 0 hS ?_;refine tJ 1 hS ?_;refine tJ 2 hS ?_;refine tJ 3 hS ?_;refine tJ 4 hS ?_;refine tJ 5 hS ?_;refine tJ 6 hS ?_;refine rJ 7 fun K hK=>?_
        refine step_call 95 #[.tmp 19] _ rfl rfl #[.agg #[.int .i64 xs[k].x,.int .i64 xs[k].y,.int .i64 xs[k].t]] Tryz.call95 (by go_simp) (HC.out _) ?_;rintro e w1 ⟨rfl,rfl⟩;refine ⟨_,rfl,?_⟩;replace hS:(fun w'=>w'.cell? ⟨g,f,none⟩=some (.slice (some ⟨b,off,none⟩) xs.length c)∧w'.cell? ⟨b,off+k * 3,none⟩=some (.int .i64 xs[k].x)∧w'.cell? ⟨b,off+k * 3+1,none⟩=some (.int .i64 xs[k].y)∧w'.cell? ⟨b,off+k * 3+2,none⟩=some (.int .i64 xs[k].t)) (wr.drew.alloc (.cells #[.int .i64 xs[k].x,.int .i64 xs[k].y,.int .i64 xs[k].t] 128)):=⟨kp _ _ _ hgl hg,kp _ _ _ hbb' h0,kp _ _ _ hbb' h1,kp _ _ _ hbb' h2⟩
        dsimp only at hS;refine bJ hK hS ?_;clear hK K;simp only [Act.put,pA,pB,pC];refine tJ 8 hS ?_;refine tJ 9 hS ?_;refine tJ 10 hS ?_;refine tJ 11 hS ?_;refine tJ 12 hS ?_;refine tJ0 13 hS ?_;refine tJ0 14 hS ?_;refine tJ0 15 hS ?_;refine tJ0 16 hS ?_;refine tJ0 17 hS ?_;refine tJ0 18 hS ?_;refine tJ0 19 hS ?_;refine tJ0 20 hS ?_;refine tJ0 21 hS ?_;refine tJ0 22 hS ?_;refine tJ0 23 hS ?_;refine tJ0 24 hS ?_;refine tJ0 25 hS ?_;refine tJ0 26 hS ?_;refine tJ0 27 hS ?_;refine tJ0 28 hS ?_;refine tJ0 29 hS ?_;refine tJ0 30 hS ?_;refine tJ 31 hS ?_;refine tJ 32 hS ?_;refine wpAnyH_done (by kernel_rfl) ?_ _
        go_wp2_with fail
        go_roundw
        case rel=>exact ⟨k+1,by omega,by go_num,HK,al⟩
        case measure=>simp [intOf]; omega
      · obtain ⟨j,hj⟩:∃ j,k=j+1:=⟨k - 1,by omega⟩
        have jl:j < xs.length:=by omega
        obtain ⟨b',off',e',hb3,_,_,_,h3,_⟩:=hr j jl;injection e' with e'
        injection e' with e1 e2 _
        subst e1; subst e2
        rw [← hb.cell (p:=⟨b,_,none⟩) hb3] at h3;have g0:(0 < k)=True:=eq_true (by omega);have gj:IntKind.i64.wrap ((k:Int) - 1)=(j:Int):=(IntWalk.i64_in _ (by omega)).trans (by omega);have jl':(j:Int) < (xs.length:Int):=by omega
        have j0:(0:Int)≤(j:Int):=by omega
        clear hr
        by_cases ht:xs[k].t≤xs[j].t
        · have HF:Hid (strokeB xs=false):=strokeB_false hlt (by subst hj; exact ptOk_late hlt ht)
          have gt:(xs[k].t≤xs[j].t)=True:=eq_true ht;have HJ:=Lib.hid hj;clear hj ht hz
          go_wp2_with fail
          have hS:(fun w'=>w'.cell? ⟨g,f,none⟩=some (.slice (some ⟨b,off,none⟩) xs.length c)∧w'.cell? ⟨b,off+k * 3,none⟩=some (.int .i64 xs[k].x)∧w'.cell? ⟨b,off+k * 3+1,none⟩=some (.int .i64 xs[k].y)∧w'.cell? ⟨b,off+k * 3+2,none⟩=some (.int .i64 xs[k].t)∧w'.cell? ⟨b,off+j * 3+2,none⟩=some (.int .i64 xs[j].t)) wr.drew:=⟨hg,h0,h1,h2,h3⟩
          dsimp only at hS;refine wp_region_held_drew (S:=(fun w'=>w'.cell? ⟨g,f,none⟩=some (.slice (some ⟨b,off,none⟩) xs.length c)∧w'.cell? ⟨b,off+k * 3,none⟩=some (.int .i64 xs[k].x)∧w'.cell? ⟨b,off+k * 3+1,none⟩=some (.int .i64 xs[k].y)∧w'.cell? ⟨b,off+k * 3+2,none⟩=some (.int .i64 xs[k].t)∧w'.cell? ⟨b,off+j * 3+2,none⟩=some (.int .i64 xs[j].t))) (by kernel_rfl) hS (fun _=>?_);refine tJ 0 hS ?_;refine tJ 1 hS ?_;refine tJ 2 hS ?_;refine tJ 3 hS ?_;refine tJ 4 hS ?_;refine tJ 5 hS ?_;refine tJ 6 hS ?_;refine rJ 7 fun K hK=>?_
          refine step_call 95 #[.tmp 19] _ rfl rfl #[.agg #[.int .i64 xs[k].x,.int .i64 xs[k].y,.int .i64 xs[k].t]] Tryz.call95 (by go_simp) (HC.out _) ?_;rintro e w1 ⟨rfl,rfl⟩;refine ⟨_,rfl,?_⟩;replace hS:(fun w'=>w'.cell? ⟨g,f,none⟩=some (.slice (some ⟨b,off,none⟩) xs.length c)∧w'.cell? ⟨b,off+k * 3,none⟩=some (.int .i64 xs[k].x)∧w'.cell? ⟨b,off+k * 3+1,none⟩=some (.int .i64 xs[k].y)∧w'.cell? ⟨b,off+k * 3+2,none⟩=some (.int .i64 xs[k].t)∧w'.cell? ⟨b,off+j * 3+2,none⟩=some (.int .i64 xs[j].t)) (wr.drew.alloc (.cells #[.int .i64 xs[k].x,.int .i64 xs[k].y,.int .i64 xs[k].t] 128)):=⟨kp _ _ _ hgl hg,kp _ _ _ hbb' h0,kp _ _ _ hbb' h1,kp _ _ _ hbb' h2,kp _ _ _ hbb' h3⟩
          dsimp only at hS;refine bJ hK hS ?_;clear hK K;simp only [Act.put,pA,pB,pC];refine tJ 8 hS ?_;refine tJ 9 hS ?_;refine tJ 10 hS ?_;refine tJ 11 hS ?_;refine tJ 12 hS ?_;refine tJ 13 hS ?_;refine tJ 14 hS ?_;refine tJ 15 hS ?_;refine tJ 16 hS ?_;refine tJ 17 hS ?_;refine tJ 18 hS ?_;refine tJ 19 hS ?_;refine tJ 20 hS ?_;refine tJ 21 hS ?_;refine tJ 22 hS ?_;refine tJ 23 hS ?_;refine tJ 24 hS ?_;refine tJ 25 hS ?_;refine tJ 26 hS ?_;refine tJ 27 hS ?_;refine tJ 28 hS ?_;refine tJ 29 hS ?_;refine tJ 30 hS ?_;refine tJ 31 hS ?_;refine tJ 32 hS ?_;refine wpAnyH_done (by kernel_rfl) ?_ _
          go_wp2_with fail
          go_ret;exact ⟨ret_boolI HF.out.symm,al⟩
        · have HK:Hid (ptsOk xs (k+1)=true):=by
           show _=_
           rw [ptsOk,hok.out,ptOk_step hlt HP.out (.inr ⟨j,hj,fun _=>by omega⟩)]; rfl
          have gt:(xs[k].t≤xs[j].t)=False:=eq_false ht;have HJ:=Lib.hid hj;clear hj ht hz
          go_wp2_with fail
          have hS:(fun w'=>w'.cell? ⟨g,f,none⟩=some (.slice (some ⟨b,off,none⟩) xs.length c)∧w'.cell? ⟨b,off+k * 3,none⟩=some (.int .i64 xs[k].x)∧w'.cell? ⟨b,off+k * 3+1,none⟩=some (.int .i64 xs[k].y)∧w'.cell? ⟨b,off+k * 3+2,none⟩=some (.int .i64 xs[k].t)∧w'.cell? ⟨b,off+j * 3+2,none⟩=some (.int .i64 xs[j].t)) wr.drew:=⟨hg,h0,h1,h2,h3⟩
          dsimp only at hS;refine wp_region_held_drew (S:=(fun w'=>w'.cell? ⟨g,f,none⟩=some (.slice (some ⟨b,off,none⟩) xs.length c)∧w'.cell? ⟨b,off+k * 3,none⟩=some (.int .i64 xs[k].x)∧w'.cell? ⟨b,off+k * 3+1,none⟩=some (.int .i64 xs[k].y)∧w'.cell? ⟨b,off+k * 3+2,none⟩=some (.int .i64 xs[k].t)∧w'.cell? ⟨b,off+j * 3+2,none⟩=some (.int .i64 xs[j].t))) (by kernel_rfl) hS (fun _=>?_);refine tJ 0 hS ?_;refine tJ 1 hS ?_;refine tJ 2 hS ?_;refine tJ 3 hS ?_;refine tJ 4 hS ?_;refine tJ 5 hS ?_;refine tJ 6 hS ?_;refine rJ 7 fun K hK=>?_
          refine step_call 95 #[.tmp 19] _ rfl rfl #[.agg #[.int .i64 xs[k].x,.int .i64 xs[k].y,.int .i64 xs[k].t]] Tryz.call95 (by go_simp) (HC.out _) ?_;rintro e w1 ⟨rfl,rfl⟩;refine ⟨_,rfl,?_⟩;replace hS:(fun w'=>w'.cell? ⟨g,f,none⟩=some (.slice (some ⟨b,off,none⟩) xs.length c)∧w'.cell? ⟨b,off+k * 3,none⟩=some (.int .i64 xs[k].x)∧w'.cell? ⟨b,off+k * 3+1,none⟩=some (.int .i64 xs[k].y)∧w'.cell? ⟨b,off+k * 3+2,none⟩=some (.int .i64 xs[k].t)∧w'.cell? ⟨b,off+j * 3+2,none⟩=some (.int .i64 xs[j].t)) (wr.drew.alloc (.cells #[.int .i64 xs[k].x,.int .i64 xs[k].y,.int .i64 xs[k].t] 128)):=⟨kp _ _ _ hgl hg,kp _ _ _ hbb' h0,kp _ _ _ hbb' h1,kp _ _ _ hbb' h2,kp _ _ _ hbb' h3⟩
          dsimp only at hS;refine bJ hK hS ?_;clear hK K;simp only [Act.put,pA,pB,pC];refine tJ 8 hS ?_;refine tJ 9 hS ?_;refine tJ 10 hS ?_;refine tJ 11 hS ?_;refine tJ 12 hS ?_;refine tJ 13 hS ?_;refine tJ 14 hS ?_;refine tJ 15 hS ?_;refine tJ 16 hS ?_;refine tJ 17 hS ?_;refine tJ 18 hS ?_;refine tJ 19 hS ?_;refine tJ 20 hS ?_;refine tJ 21 hS ?_;refine tJ 22 hS ?_;refine tJ 23 hS ?_;refine tJ 24 hS ?_;refine tJ 25 hS ?_;refine tJ 26 hS ?_;refine tJ 27 hS ?_;refine tJ 28 hS ?_;refine tJ 29 hS ?_;refine tJ 30 hS ?_;refine tJ 31 hS ?_;refine tJ 32 hS ?_;refine wpAnyH_done (by kernel_rfl) ?_ _
          go_wp2_with fail
          go_roundw
          case rel=>exact ⟨k+1,by omega,by go_num,HK,al⟩
          case measure=>simp [intOf]; omega
  · obtain rfl:k=xs.length:=by omega
    clear hr
    have HV:Hid (inR (xs.length:Int) 1 60=strokeB xs):=by
     show _=_
     rw [strokeB,hok.out,inR,Bool.true_and]
     congr 1 <;> rw [decide_eq_decide] <;> omega
    have C:=spec_inR_c (xs.length:Int) 1 60;generalize inR (xs.length:Int) 1 60=bb at C HV;have HC:=Lib.hid C;clear C
    go_wp2_with fail
    refine (HC.out _).mono ?_;rintro e w1 ⟨rfl,rfl⟩
    go_wp2_with fail
    go_ret;exact ⟨ret_boolI HV.out,hb⟩
theorem spec_l02Last_c {o:Bool} {e:TypeId} {xs:PStroke} {v:Value} {F:List Nat} {g f:Nat} (w:World) (hg:w.cell? ⟨g,f,none⟩=some v) (h:(pPoints e).rep o w xs [v] F) (h0:0 < xs.length) (hx:xs.length≤1048576) :
 Calls Tryz.prog 64 #[.pointer (some ⟨g,f,none⟩)] w fun e w'=>e=.returned (.int .i64 (lastT xs))∧∃ n,w'=w.drewN n:=by
 obtain ⟨A,c,rfl,hc1,hc2,hr⟩:=pPoints_open h;clear h;obtain ⟨j,hj⟩:∃ j,xs.length=j+1:=⟨xs.length - 1,by omega⟩
 have jl:j < xs.length:=by omega
 obtain ⟨b,off,rfl,hbb,_,c0,c1,c2,_⟩:=hr j jl
 have hl:lastT xs=xs[j].t:=by
  unfold lastT;rw [show xs.length - 1=j by omega,pt_get jl]
 rw [hl];clear hr hl;have gj:IntKind.i64.wrap ((xs.length:Int) - 1)=(j:Int):=(IntWalk.i64_in _ (by omega)).trans (by omega);have j0:(0:Int)≤(j:Int):=by omega
 have jl':(j:Int) < (xs.length:Int):=by omega
 have HJ:=Lib.hid hj;clear hj
 go_enter Tryz.func64,Tryz.ntmps64
 go_wp2_with fail
 go_quiet (fail)
 go_wp2_with fail
 go_ret;exact ⟨rfl,_,rfl⟩
end Go.Proofs.YtalmeogjhmblhaaGreat

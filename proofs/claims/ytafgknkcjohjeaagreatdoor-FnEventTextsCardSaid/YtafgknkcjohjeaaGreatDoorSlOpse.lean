/- Cells of a known block, written in a row; clear; lists of elements at a place. No program is named here. Conditions: none. -/
import Derived.Test.YtafgknkcjohjeaaGreatDoorTyFeate
import Derived.Laws.IdiomCopy
import Derived.ArgAppend
import Derived.Lib.AppendZerosOnto
import Derived.Lib.Overlaps
import Derived.Laws.Externs
import Derived.Laws.NewBlocks
import Derived.Deep.RegionLaw
import Derived.Deep.RegionHeld3
import Derived.Test.YtafgknkcjohjeaaGreatDoorInkGe
import Derived.Test.YtafgknkcjohjeaaGreatDoorStrSe
import Derived.Laws.IdiomStrings
namespace Go.Proofs.YtafgknkcjohjeaaGreatDoor
open Go Go.RowKit
section
variable {w w':World} {g:Nat} {e:TypeId} {cs rest:List Value}
theorem Row.cells:∀ (vs:List Value) (o:Nat) {w:World} {cs:List Value} (_:Row w g e cs) (_:o+vs.length≤cs.length),Row (w.setCells g o vs) g e (cs.take o++vs++cs.drop (o+vs.length))
 | [],o,w,cs,h,hl=>by simpa [World.setCells] using h
 | v :: r,o,w,cs,h,hl=>by
   rw [List.length_cons] at hl;have h1:=Row.cells r (o+1) (h.set o v) (by rw [List.length_set]; omega)
   have e1:(cs.set o v).take (o+1)=cs.take o++[v]:=by
    rw [List.take_set,List.take_succ_eq_append_getElem (by omega),List.set_append_right _ _ (by simp; omega)];simp [Nat.min_eq_left (show o≤cs.length by omega)]
   have e2:(cs.set o v).drop (o+1+r.length)=cs.drop (o+(v :: r).length):=by
    rw [List.drop_set_of_lt (by omega),List.length_cons]; congr 1; omega
   rw [e1,e2] at h1;rw [World.setCells]
   simpa using h1
theorem Only.cells {F:List Nat} (hg:g∈F):∀ (vs:List Value) (o:Nat) {a b:World} (_:Only F a b),Only F a (b.setCells g o vs)
 | [],_,_,_,h=>h
 | v :: r,o,_,_,h=>Only.cells hg r (o+1) (h.set (p:=⟨g,o,none⟩) hg v)
theorem Row.shape (h:Row w g e cs):w.shape? g=some (e,cs.length):=by
 unfold Row at h;simp [World.shape?,h]
end
section
variable {α:Type} {T:Ty α} {o:Bool} {w w':World} {xs ys:List α} {cs ds:List Value} {F G:List Nat}
end
theorem slice_form {α:Type} {T:Ty α} {e:TypeId} {o:Bool} {w:World} {xs:List α} {v:Value} {F:List Nat} (h:(T.slice e).rep o w xs [v] F):∃ A n c,v=.slice A n c:=by
 obtain ⟨A,c,rfl⟩:=slice_len h;exact ⟨_,_,_,rfl⟩
section
variable {P:Program} {α:Type} {T:Ty α} {t e:TypeId} {z:Value} {bytes:Nat} {w:World} {xs ys:List α} {v:Value} {F Fy:List Nat} {A:Option Addr} {c:Nat} {ec:List Value}
theorem step_append_repX {ops:Array Oper} {o:Oper} {a:Act} {K:Act→World→Prop} {Q:Exit→Act→World→Prop} {E:Prop} (hgd:o.guard=none) (s x:Operand)
 (ho:o.op=.call { callee:=.builtin .append,args:=#[s,x],argTypes:=#[t,t] })
 (ht:P.underlying t=some (.slice e)) (hi:(P.info? e).map (fun i=>(i.zero,i.size,i.bytes))=some (some z,T.size,bytes)) (hz:z.cells.size=T.size) (h0:0 < T.size)
 (hs:a.eval s=v) (hr:(T.slice e).rep true w xs [v] F) (hx:a.eval x=.slice A ys.length c) (hy:repL T true w ys ec Fy) (hat:CellsAt w A ec) (hnd:(F++Fy).Nodup)
 (h63:xs.length+ys.length≤maxLen) (hb:(xs.length+ys.length) * bytes≤140737488355328)
 (h:∀ v' w' F',(T.slice e).rep true w' (xs++ys) [v'] F'→Only F w w'→(∀ B,Fresh B (F++Fy)→B≤w.heap.size→Fresh B F')→((∀ b∈F',b∈F++Fy∨w.heap.size≤b)∧Only v.ownBlock.toList w w'∧∀ b∈v'.ownBlock.toList,b∈v.ownBlock.toList∨w.heap.size≤b)→K (a.put o.dst v') w') :
 if Region.wanted o (yielded ops a.tmps)=true then Oper.wp P o a w K Q else E:=by
 have hw:Region.wanted o (yielded ops a.tmps)=true:=by simp [Region.wanted,hgd]
 rw [if_pos hw];obtain ⟨v',w',F',hrun,h2,h3,h4,h5⟩:=run_append_repX (P:=P) (c:=c) o.type ht hi hz h0 hr hy hat trivial hnd h63 hb;unfold Oper.wp;simp [execOp,ho,resolve,invoke,builtin,hs,hx,hrun,Result.andThen];exact h v' w' F' h2 h3 h4 h5
end
section
variable {P:Program} {md:Region.Mode} {ops:Array Oper} {Q:Exit→Act→World→Prop} {S:World→Prop}
def StillCall (P:Program) (ops:Array Oper) (S:World→Prop) (o:Oper) (v:Value) (a:Act):Prop :=
 Region.wanted o (yielded ops a.tmps)=true∧∃ f args,∀ w,S w→(execOp a.eval o).run P w=.ok (.enter f args) w∧Calls P f args w fun e w'=>e=.returned v∧w'=w
theorem StillCall.now {i:Nat} {o:Oper} {v:Value} {a:Act} (hi:ops[i]?=some o) (hy:StillCall P ops S o v a) {K:Act→World→Prop} {w:World} (hS:S w) (h:K (a.put o.dst v) w):wpOp P ops Q i K a w:=by
 obtain ⟨hw,f,args,hc⟩:=hy;obtain ⟨h1,h2⟩:=hc w hS;unfold Go.wpOp;simp only [hi,hw,if_true,Oper.wp,h1,Oper.upon];refine .inl (h2.mono fun e w' ⟨he,hw'⟩=>?_);subst he; subst hw'
 exact h
theorem StillCall.same {o:Oper} {v:Value} {a a':Act} (hy:StillCall P ops S o v a) (he:execOp a'.eval o=execOp a.eval o)
 (hw:Region.wanted o (yielded ops a'.tmps)=Region.wanted o (yielded ops a.tmps)):StillCall P ops S o v a':=by
 unfold StillCall at *;rw [he,hw];exact hy
theorem other_call {j:Nat} {oi oj:Oper} {v:Value} (hj:ops[j]?=some oj) (hap:oi.apart ops oj=true)
 (hsi:∀ cs b,oi.op≠.select cs b) (hsj:∀ cs b,oj.op≠.select cs b)
 (hQ:∀ c a w,Q (.panic c) (a.put oi.dst v) w→Q (.panic c) a w) {K:Act→World→Prop} {a:Act} {w:World}
 (hy:StillCall P ops S oi v a) (h:wpOp P ops Q j K (a.put oi.dst v) w) :
 wpOp P ops Q j (fun a' w'=>StillCall P ops S oi v a'∧K (a'.put oi.dst v) w') a w:=by
 obtain ⟨h1,h2,h3⟩:=Oper.apart_spec hap
 have keep:∀ (a:Act),StillCall P ops S oi v a→∀ u,StillCall P ops S oi v (a.put oj.dst u):=fun a hy u =>
  hy.same (execOp_put oi hsi a oj.dst u h3) (wanted_put oi a oj.dst u h3)
 have fin:∀ {u w'},K ((a.put oi.dst v).put oj.dst u) w'→StillCall P ops S oi v (a.put oj.dst u)∧K ((a.put oj.dst u).put oi.dst v) w':=fun {u w'} hk =>
  ⟨keep a hy u,by rw [← Act.put_comm a v u h2]; exact hk⟩
 unfold wpOp at *;simp only [hj] at *;rw [wanted_put oj a oi.dst v h1] at h
 by_cases hw:Region.wanted oj (yielded ops a.tmps)=true
 · rw [if_pos hw] at h ⊢
   rcases h with h | ⟨hasks,hlets⟩
   · refine .inl ?_
     unfold Oper.wp at *;rw [execOp_put oj hsj a oi.dst v h1] at h;generalize (execOp a.eval oj).run P w=r at *
     match r,h with
     | .ok (.value u) w',h=>exact fin h
     | .ok .skip w',h=>exact fin h
     | .ok (.defer d) w',h =>
       have hd:StillCall P ops S oi v { a with defers:=d :: a.defers }:=hy.same rfl rfl;refine ⟨hd.same (execOp_put oi hsi _ oj.dst undef h3) (wanted_put oi _ oj.dst undef h3),?_⟩;simp only [Oper.upon] at h;rw [← Act.put_comm _ v undef h2,← Act.put_defers];exact h
     | .ok (.enter f args) w',h =>
       refine Calls.mono h fun e w'' he=>?_
       match e,he with
       | .returned u,he=>exact fin he
       | .panicked c,he=>exact hQ _ _ _ he
       | .outgrown,he=>exact he
     | .ok (.row row args) w',h=>exact Rows.mono h fun u w'' he=>fin he
     | .halt x w',h =>
       cases x <;> simp only [Oper.upon] at h ⊢
       case panic u=>exact hQ _ _ _ h
   · exact .inr ⟨by unfold Oper.asks at *; rw [execOp_put oj hsj a oi.dst v h1] at hasks; exact hasks,hlets⟩
 · rw [if_neg hw] at h ⊢
   exact fin h
theorem first_call {i:Nat} {oi:Oper} {v:Value} (hi:ops[i]?=some oi) (hsel:∀ (j:Nat) (o:Oper) cs b,ops[j]?=some o→o.op≠.select cs b)
 (hQ:∀ c a w,Q (.panic c) (a.put oi.dst v) w→Q (.panic c) a w) :
 ∀ (fuel:Nat) (listed:Array Bool) (a:Act) (w:World),
  (∀ j oj,ops[j]?=some oj→j≠i→listed.getD j true=false→(∀ e∈oj.after,Region.binds md e=true→e.on≠i)→oi.apart ops oj=true) →
  i∈Region.ready md ops listed→StillCall P ops S oi v a→S w →
  wpAnyH P md ops Q S fuel (listed.setIfInBounds i true) (a.put oi.dst v) w→wpAnyH P md ops Q S (fuel+1) listed a w
 | fuel,listed,a,w,hfree,hr,hy,hS,H=>by
   refine ⟨fun h=>by rw [h] at hr; (cases hr),fun j hj=>?_⟩
   by_cases hji:j=i
   · subst hji; exact hy.now hi hS ⟨hS,H⟩
   · have hj':=ready_mono hj hji
     match fuel,H with
     | 0,H=>rw [H.1] at hj'; cases hj'
     | fuel+1,H =>
       obtain ⟨hjun,oj,hoj,hall⟩:=mem_ready.1 hj
       have hnot:∀ e∈oj.after,Region.binds md e=true→e.on≠i:=fun e he hb heq=>by
        have h1:=hall e he hb;have h0:=(mem_ready.1 hr).1;rw [heq] at h1;rcases Nat.lt_or_ge i listed.size with h' | h'
        · simp [h'] at h0 h1; rw [h0] at h1; cases h1
        · simp [Array.getElem?_eq_none h'] at h1
       have h2:=other_call hoj (hfree j oj hoj hji hjun hnot) (fun cs b=>hsel i oi cs b hi) (fun cs b=>hsel j oj cs b hoj) hQ hy (H.2 j hj');refine wpOp_mono (fun a' w' h3=>⟨h3.2.1,first_call hi hsel hQ fuel (listed.setIfInBounds j true) a' w' (fun k ok hk hki hun hno=>hfree k ok hk hki ?_ hno) (ready_mono hr (Ne.symm hji)) h3.1 h3.2.1 (by rw [Array.setIfInBounds_comm _ _ hji]; exact h3.2.2)⟩) h2
       by_cases hjk:j=k
       · subst hjk; exact hjun
       · rw [getD_set_ne true hjk] at hun; exact hun
theorem take_call {i:Nat} {oi:Oper} {v:Value} {fuel:Nat} {listed:Array Bool} {a:Act} {w:World} (hi:ops[i]?=some oi)
 (hs:Region.noSelect ops=true) (hf:Region.free md ops listed i=true) (hr:(Region.ready md ops listed).contains i=true)
 (hQ:∀ c a w,Q (.panic c) (a.put oi.dst v) w→Q (.panic c) a w) (f:FuncId) (xs:Array Operand) (ts:Array TypeId) (ho:oi.op=.call { callee:=.value (.func f),args:=xs,argTypes:=ts })
 (hw:Region.wanted oi (yielded ops a.tmps)=true) (av:Array Value) (hcall:∀ args w,(callFunc f args).run P w=.ok (.enter f args) w) (hx:xs.map a.eval=av)
 (hC:∀ w,Calls P f av w fun e w'=>e=.returned v∧w'=w) (hS:S w)
 (h:wpAnyH P md ops Q S fuel (listed.setIfInBounds i true) (a.put oi.dst v) w):wpAnyH P md ops Q S (fuel+1) listed a w:=by
 refine first_call hi (Region.noSelect_spec hs) hQ fuel listed a w (Region.free_spec hi hf) (by simpa using hr) ⟨hw,f,av,fun w _=>⟨?_,hC w⟩⟩ hS h;unfold execOp;have he:a.eval (.func f)=.func (.func f) #[] #[]:=rfl;simp only [ho,resolve,invoke,Sem.run_bind,he,hx,Deferred.ofValue,Sem.run_pure,Result.andThen_ok,Array.append_empty,Array.empty_append,hcall]
theorem tC {i:Nat} {oi:Oper} {v:Value} {fuel:Nat} {listed:Array Bool} {a:Act} {w:World} (f:FuncId) (xs:Array Operand) (av:Array Value) (hcall:∀ args w,(callFunc f args).run P w=.ok (.enter f args) w)
 (hC:∀ w,Calls P f av w fun e w'=>e=.returned v∧w'=w) (hS:S w)
 (h:wpAnyH P md ops Q S fuel (listed.setIfInBounds i true) (a.put oi.dst v) w) {ts:Array TypeId} (hi:ops.toList[i]?=some oi:=by rfl)
 (hs:Region.noSelect ops=true:=by kernel_rfl) (hf:Region.free md ops listed i=true:=by kernel_rfl) (hr:(Region.ready md ops listed).contains i=true:=by kernel_rfl)
 (ho:oi.op=.call { callee:=.value (.func f),args:=xs,argTypes:=ts }:=by rfl)
 (hw:Region.wanted oi (yielded ops a.tmps)=true:=by rfl) (hx:xs.map a.eval=av:=by go_simp)
 (hQ:∀ c a w,Q (.panic c) (a.put oi.dst v) w→Q (.panic c) a w:=by exact fun _ _ _ h=>h):wpAnyH P md ops Q S (fuel+1) listed a w :=
 take_call (by simpa using hi) hs hf hr hQ f xs ts ho hw av hcall hx hC hS h
end
theorem Tryz.infoStr:(Tryz.prog.info? 9).map (fun i=>(i.zero,i.size,i.bytes))=some (some (.string .empty),str.size,16):=by kernel_rfl
section
variable {ls:List PLine} {s:PStep}
end
theorem LinesOk.words {ls:List PLine} (h:LinesOk ls):∀ l∈ls,l.length≤1048576:=fun l hl=>by have:=h.each l hl; omega
theorem repL_weak {α:Type} {T:Ty α} {o o':Bool} {w:World} (hT:∀ {a:α} {cs:List Value} {F:List Nat},T.rep o w a cs F→T.rep o' w a cs F):∀ {xs:List α} {cs:List Value} {F:List Nat},repL T o w xs cs F→repL T o' w xs cs F
 | [],_,_,h=>h
 | _ :: _,_,_,⟨c1,c2,F1,F2,e1,e2,h1,h2⟩=>⟨c1,c2,F1,F2,e1,e2,hT h1,repL_weak hT h2⟩
theorem str_flat {o o':Bool} {w:World} {xs:List ByteArray} {cs:List Value} {G:List Nat} (h:repL str o w xs cs G):repL str o' w xs cs []:=by
 obtain ⟨rfl,rfl⟩:=repL_strs_inv h;exact repL_weak (T:=str) (o:=o) (o':=o') (fun h=>h) h
theorem slice_src {α:Type} {T:Ty α} {e:TypeId} {o:Bool} {w:World} {xs:List α} {A:Option Addr} {n c:Nat} {F:List Nat} (h:(T.slice e).rep o w xs [.slice A n c] F):∃ ec G,repL T o w xs ec G∧CellsAt w A ec∧(∀ b∈G,b∈F):=by
 obtain ⟨A',c',ec,F0,F1,hv,rfl,hl,hc,hr,hlt,ha,_⟩:=h;simp only [List.cons.injEq,and_true,Value.slice.injEq] at hv;obtain ⟨rfl,rfl,rfl⟩:=hv;refine ⟨ec,F1,hr,fun hp=>?_,fun b hb=>by simp [hb]⟩;have hl2:=repL_len hr
 have h0:0 < xs.length:=by
  rcases Nat.eq_zero_or_pos xs.length with h | h
  · rw [h,Nat.zero_mul] at hl2; omega
  · exact h
 obtain ⟨b,off,h1,_,h2⟩:=ha h0;exact ⟨b,off,h1,h2⟩
theorem CellsAt.below {w w':World} {A:Option Addr} {ec:List Value} (h:CellsAt w A ec) (hb:Below w.heap.size w w'):CellsAt w' A ec:=fun hp=>by
 obtain ⟨b,off,h1,h2⟩:=h hp;refine ⟨b,off,h1,fun j u hu=>?_⟩;have h3:=h2 j u hu;exact (hb.cell (p:=⟨b,off+j,none⟩) (World.block_lt_of_cell? w _ h3)).trans h3
theorem CellsAt.alloc {w:World} {A:Option Addr} {ec:List Value} (h:CellsAt w A ec) (x:Obj):CellsAt (w.alloc x) A ec:=h.below ((Below.refl _ _).alloc (Nat.le_refl _) x)
theorem CellsAt.drew {w:World} {A:Option Addr} {ec:List Value} (h:CellsAt w A ec):CellsAt w.drew A ec:=h
theorem empty_is {α:Type} (T:Ty α) (e:TypeId) (w:World):(T.slice e).rep true (w.alloc (.cells #[] e)) [] [.slice (some ⟨w.heap.size,0,none⟩) 0 0] [w.heap.size]:=slice_of_row (xs:=[]) (Row.new w _ _) ⟨rfl,rfl⟩ (by simp [maxLen])
theorem fresh_app {B:Nat} {w:World} {F G:List Nat} (hF:Fresh B F) (hlt:∀ b∈F,b < w.heap.size) (hG:Fresh w.heap.size G) (hB:B≤w.heap.size):Fresh B (F++G) :=
 ⟨List.nodup_append.2 ⟨hF.1,hG.1,fun x h1 y h2 e=>by subst e; have:=hlt x h1; have:=hG.2 x h2; omega⟩,fun x hx=>by
  rcases List.mem_append.1 hx with h | h
  · exact hF.2 x h
  · have:=hG.2 x h; omega⟩
theorem Row.atN (w:World) (e:TypeId) (cs:List Value) {n:Nat} (hn:n=w.heap.size):Row (w.alloc (.cells cs.toArray e)) n e cs:=by
 subst hn; exact Row.new w e cs.toArray
theorem Tryz.infoFeat:(Tryz.prog.info? 182).map (fun i=>(i.zero,i.size,i.bytes))=some (some (.agg #[.int .i64 0,.int .i64 0,.int .i64 0]),pFeat.size,24):=by kernel_rfl
theorem Tryz.infoEntry:(Tryz.prog.info? 138).map (fun i=>(i.zero,i.size,i.bytes))=some (some (.agg #[.string .empty,.int .i64 0]),pEntry.size,24):=by kernel_rfl
theorem Tryz.infoBigram:(Tryz.prog.info? 143).map (fun i=>(i.zero,i.size,i.bytes))=some (some (.agg #[.string .empty,.string .empty,.int .i64 0]),pBigram.size,40):=by kernel_rfl
theorem Tryz.infoTemp:(Tryz.prog.info? 111).map (fun i=>(i.zero,i.size,i.bytes))=some (some (.agg #[.string .empty,.slice none 0 0]),(pTemp 182).size,40):=by kernel_rfl
theorem pFeat_flat {o o':Bool} {w:World} {xs:List PFeat} {cs:List Value} {G:List Nat} (h:repL pFeat o w xs cs G):repL pFeat o' w xs cs []:=by
 obtain ⟨rfl,rfl⟩:=repL_pFeat_inv h;exact repL_weak (T:=pFeat) (o:=o) (o':=o') (fun h=>h) h
theorem pEntry_flat {o o':Bool} {w:World} {xs:List PEntry} {cs:List Value} {G:List Nat} (h:repL pEntry o w xs cs G):repL pEntry o' w xs cs []:=by
 obtain ⟨rfl,rfl⟩:=repL_pEntry_inv h;exact repL_weak (T:=pEntry) (o:=o) (o':=o') (fun h=>h) h
theorem pBigram_flat {o o':Bool} {w:World} {xs:List PBigram} {cs:List Value} {G:List Nat} (h:repL pBigram o w xs cs G):repL pBigram o' w xs cs []:=by
 obtain ⟨rfl,rfl⟩:=repL_pBigram_inv h;exact repL_weak (T:=pBigram) (o:=o) (o':=o') (fun h=>h) h
def IsRoot (r n:Nat):Prop:=r * r≤n∧n < (r+1) * (r+1)
def rootN:Nat→Nat
 | 0=>0
 | n+1=>if (rootN n+1) * (rootN n+1)≤n+1 then rootN n+1 else rootN n
theorem rootN_is:∀ n,IsRoot (rootN n) n
 | 0=>⟨Nat.le_refl _,by decide⟩
 | n+1=>by
   have ih:=rootN_is n;rw [rootN]
   split
   · rename_i h
     refine ⟨h,?_⟩;have h2:=ih.2;have e:(rootN n+1+1) * (rootN n+1+1)=(rootN n+1) * (rootN n+1)+2 * (rootN n+1)+1:=by rw [Nat.add_mul,Nat.mul_add]; omega
     omega
   · rename_i h
     exact ⟨Nat.le_trans ih.1 (Nat.le_succ _),by omega⟩
theorem newton_ge {r n:Nat} (h0:0 < r):rootN n≤(r+n / r) / 2:=by
 have hs:=(rootN_is n).1;generalize rootN n=s at *;rw [Nat.le_div_iff_mul_le (by decide)]
 by_cases h:2 * s≤r
 · exact Nat.le_trans (by omega) (Nat.le_add_right r _)
 · -- (2s - r) * r≤s * s≤n
   have h1:(2 * s - r) * r≤n:=by
    refine Nat.le_trans ?_ hs;rcases Nat.le_total r s with hrs | hrs
    · obtain ⟨d,rfl⟩:=Nat.le.dest hrs
      have e:2 * (r+d) - r=r+2 * d:=by omega
      have e1:(r+2 * d) * r=r * r+2 * (d * r):=by rw [Nat.add_mul,Nat.mul_assoc]
      have e2:(r+d) * (r+d)=r * r+2 * (d * r)+d * d:=by rw [Nat.add_mul,Nat.mul_add,Nat.mul_add,Nat.mul_comm r d]; omega
      rw [e,e1,e2]; omega
    · obtain ⟨d,rfl⟩:=Nat.le.dest hrs
      have hd:d≤s:=by omega
      obtain ⟨c,rfl⟩:=Nat.le.dest hd;have e:2 * (d+c) - (d+c+d)=c:=by omega
      rw [e];have e1:c * (d+c+d)=c * d+c * c+c * d:=by rw [Nat.mul_add,Nat.mul_add]
      have e2:(d+c) * (d+c)=d * d+c * d+(c * d+c * c):=by rw [Nat.add_mul,Nat.mul_add,Nat.mul_add,Nat.mul_comm d c]
      omega
   have h2:2 * s - r≤n / r:=(Nat.le_div_iff_mul_le h0).2 h1;generalize n / r=q at *;omega
theorem newton_done {r n:Nat} (h0:0 < r) (hr:rootN n≤r) (h:r≤(r+n / r) / 2):r=rootN n:=by
 have h1:r≤n / r:=by generalize n / r=q at *; omega
 have h2:r * r≤n:=(Nat.le_div_iff_mul_le h0).1 h1;have h3:=(rootN_is n).2
 have:r < rootN n+1:=by
  rcases Nat.lt_or_ge r (rootN n+1) with h4 | h4
  · exact h4
  · have:=Nat.mul_le_mul h4 h4; omega
 omega
theorem rootN_le {n b:Nat} (h:n < (b+1) * (b+1)):rootN n≤b:=by
 have h1:=(rootN_is n).1;rcases Nat.lt_or_ge b (rootN n) with h2 | h2
 · have:=Nat.mul_le_mul h2 h2
   simp only [Nat.succ_eq_add_one] at this;omega
 · exact h2
end Go.Proofs.YtafgknkcjohjeaaGreatDoor

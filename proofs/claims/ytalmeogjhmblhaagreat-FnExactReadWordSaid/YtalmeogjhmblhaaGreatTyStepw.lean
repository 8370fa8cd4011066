/- The type Step: its data, how it lies in memory, and the law's own helpers over it. Conditions: none. -/
import Derived.Test.YtalmeogjhmblhaaGreatRows
import Derived.Test.YtalmeogjhmblhaaGreatStrSw
import Derived.Test.YtalmeogjhmblhaaGreatLibw
import Derived.Test.YtalmeogjhmblhaaGreatMarkw
namespace Go.Proofs.YtalmeogjhmblhaaGreat
open Go Go.RowKit
set_option maxHeartbeats 8000000
set_option maxRecDepth 100000
structure PStep where
 kind:Int
 line:Int
 pos:Int
 word:ByteArray
 old:ByteArray
 deriving DecidableEq
def pStep:Ty PStep:=(int64.prod (int64.prod (int64.prod (str.prod str)))).via fun s=>(s.kind,s.line,s.pos,s.word,s.old)
def pSteps (e:TypeId):Ty (List PStep):=pStep.slice e
abbrev PLine:=List ByteArray
def pLine:Ty PLine:=strs 9
def pLines (e:TypeId):Ty (List PLine):=pLine.slice e
structure PPage where
 lines:List PLine
 done:List PStep
 undone:List PStep
 deriving DecidableEq
def PageIs (el es:TypeId) (o:Bool) (w:World) (p:PPage) (v:Value) (F:List Nat):Prop :=
 ∃ a b c F1 F2 F3,v=.agg #[a,b,c]∧F=F1++(F2++F3)∧(pLines el).rep o w p.lines [a] F1∧(pSteps es).rep o w p.done [b] F2∧(pSteps es).rep o w p.undone [c] F3
section
variable {el es:TypeId} {o:Bool} {w w':World} {p:PPage} {v:Value} {F G:List Nat}
theorem PageIs.below (h:PageIs el es o w p v F) (hb:Below w.heap.size w w'):PageIs el es o w' p v F:=by
 obtain ⟨a,b,c,F1,F2,F3,rfl,rfl,h1,h2,h3⟩:=h;exact ⟨a,b,c,F1,F2,F3,rfl,rfl,h1.below hb,h2.below hb,h3.below hb⟩
theorem PageIs.only (h:PageIs el es o w p v F) (hb:Only G w w') (hd:∀ x∈F,x∉G):PageIs el es o w' p v F:=by
 obtain ⟨a,b,c,F1,F2,F3,rfl,rfl,h1,h2,h3⟩:=h;exact ⟨a,b,c,F1,F2,F3,rfl,rfl,h1.only hb (fun x hx=>hd x (by simp [hx])),h2.only hb (fun x hx=>hd x (by simp [hx])),h3.only hb (fun x hx=>hd x (by simp [hx]))⟩
theorem PageIs.blocks (h:PageIs el es o w p v F):∀ x∈F,x < w.heap.size:=by
 obtain ⟨a,b,c,F1,F2,F3,rfl,rfl,h1,h2,h3⟩:=h;intro x hx;simp only [List.mem_append] at hx;rcases hx with hx | hx | hx
 · exact h1.blocks x hx
 · exact h2.blocks x hx
 · exact h3.blocks x hx
theorem Row.only {g:Nat} {e:TypeId} {cs:List Value} (h:Row w g e cs) (ho:Only F w w') (hg:g∉F):Row w' g e cs:=(ho.block g h.lt hg).trans h
end
def letterB (c:UInt8):Bool:=decide (97≤c.toNat) && decide (c.toNat≤122)
def isWordB (s:ByteArray):Bool:=s.data.toList.all letterB && (decide (1≤s.size) && decide (s.size≤10))
structure LinesOk (ls:List PLine):Prop where
 one:1≤ls.length
 few:ls.length≤20
 each:∀ l∈ls,l.length≤12
 word:∀ l∈ls,∀ s∈l,isWordB s=true
theorem isWord_size {s:ByteArray} (h:isWordB s=true):1≤s.size∧s.size≤10:=by
 simp only [isWordB,Bool.and_eq_true,decide_eq_true_eq] at h;exact h.2
def inRP (n a b:Int):Bool:=decide (a≤n) && decide (n≤b)
def IsRoot (r n:Nat):Prop:=r * r≤n∧n < (r+1) * (r+1)
def rootN:Nat→Nat
 | 0=>0
 | n+1=>if (rootN n+1) * (rootN n+1)≤n+1 then rootN n+1 else rootN n
theorem rootN_is:∀ n,IsRoot (rootN n) n
 | 0=>⟨Nat.le_refl _,by decide⟩
 | n+1=>by
   have ih:=rootN_is n;rw [rootN]
   split
   · rename_i h
     refine ⟨h,?_⟩;have h2:=ih.2;have e:(rootN n+1+1) * (rootN n+1+1)=(rootN n+1) * (rootN n+1)+2 * (rootN n+1)+1:=by rw [Nat.add_mul,Nat.mul_add]; omega
     omega
   · rename_i h
     exact ⟨Nat.le_trans ih.1 (Nat.le_succ _),by omega⟩
theorem newton_ge {r n:Nat} (h0:0 < r):rootN n≤(r+n / r) / 2:=by
 have hs:=(rootN_is n).1;generalize rootN n=s at *;rw [Nat.le_div_iff_mul_le (by decide)]
 by_cases h:2 * s≤r
 · exact Nat.le_trans (by omega) (Nat.le_add_right r _)
 · -- (2s - r) * r≤s * s≤n
   have h1:(2 * s - r) * r≤n:=by
    refine Nat.le_trans ?_ hs;rcases Nat.le_total r s with hrs | hrs
    · obtain ⟨d,rfl⟩:=Nat.le.dest hrs
      have e:2 * (r+d) - r=r+2 * d:=by omega
      have e1:(r+2 * d) * r=r * r+2 * (d * r):=by rw [Nat.add_mul,Nat.mul_assoc]
      have e2:(r+d) * (r+d)=r * r+2 * (d * r)+d * d:=by rw [Nat.add_mul,Nat.mul_add,Nat.mul_add,Nat.mul_comm r d]; omega
      rw [e,e1,e2]; omega
    · obtain ⟨d,rfl⟩:=Nat.le.dest hrs
      have hd:d≤s:=by omega
      obtain ⟨c,rfl⟩:=Nat.le.dest hd;have e:2 * (d+c) - (d+c+d)=c:=by omega
      rw [e];have e1:c * (d+c+d)=c * d+c * c+c * d:=by rw [Nat.mul_add,Nat.mul_add]
      have e2:(d+c) * (d+c)=d * d+c * d+(c * d+c * c):=by rw [Nat.add_mul,Nat.mul_add,Nat.mul_add,Nat.mul_comm d c]
      omega
   have h2:2 * s - r≤n / r:=(Nat.le_div_iff_mul_le h0).2 h1;generalize n / r=q at *;omega
theorem newton_done {r n:Nat} (h0:0 < r) (hr:rootN n≤r) (h:r≤(r+n / r) / 2):r=rootN n:=by
 have h1:r≤n / r:=by generalize n / r=q at *; omega
 have h2:r * r≤n:=(Nat.le_div_iff_mul_le h0).1 h1;have h3:=(rootN_is n).2
 have:r < rootN n+1:=by
  rcases Nat.lt_or_ge r (rootN n+1) with h4 | h4
  · exact h4
  · have:=Nat.mul_le_mul h4 h4; omega
 omega
theorem rootN_le {n b:Nat} (h:n < (b+1) * (b+1)):rootN n≤b:=by
 have h1:=(rootN_is n).1;rcases Nat.lt_or_ge b (rootN n) with h2 | h2
 · have:=Nat.mul_le_mul h2 h2
   simp only [Nat.succ_eq_add_one] at this;omega
 · exact h2
theorem sorted_ext {α:Type} {lt:α→α→Prop} (irr:∀ a,¬ lt a a) (tr:∀ {a b c},lt a b→lt b c→lt a c):∀ {xs ys:List α},xs.Pairwise lt→ys.Pairwise lt→(∀ a,a∈xs↔a∈ys)→xs=ys
 | [],[],_,_,_=>rfl
 | [],y :: ys,_,_,h=>absurd ((h y).2 (List.mem_cons_self ..)) (by simp)
 | x :: xs,[],_,_,h=>absurd ((h x).1 (List.mem_cons_self ..)) (by simp)
 | x :: xs,y :: ys,hx,hy,h=>by
   have hx1:=List.pairwise_cons.1 hx;have hy1:=List.pairwise_cons.1 hy
   have e:x=y:=by
    rcases List.mem_cons.1 ((h x).1 (List.mem_cons_self ..)) with h1 | h1
    · exact h1
    · rcases List.mem_cons.1 ((h y).2 (List.mem_cons_self ..)) with h2 | h2
      · exact h2.symm
      · exact absurd (tr (hy1.1 x h1) (hx1.1 y h2)) (irr y)
   subst e;have hn:∀ a∈xs,a≠x:=fun a ha e=>irr x (by have:=hx1.1 a ha; rwa [e] at this)
   have hm:∀ a∈ys,a≠x:=fun a ha e=>irr x (by have:=hy1.1 a ha; rwa [e] at this)
   rw [sorted_ext irr tr hx1.2 hy1.2 (fun a=>⟨fun ha=>?_,fun ha=>?_⟩)]
   · rcases List.mem_cons.1 ((h a).1 (List.mem_cons_of_mem _ ha)) with h1 | h1
     · exact absurd h1 (hn a ha)
     · exact h1
   · rcases List.mem_cons.1 ((h a).2 (List.mem_cons_of_mem _ ha)) with h1 | h1
     · exact absurd h1 (hm a ha)
     · exact h1
structure PPoint where
 x:Int
 y:Int
 t:Int
 deriving DecidableEq
def pPoint:Ty PPoint:=(int64.prod (int64.prod int64)).via fun s=>(s.x,s.y,s.t)
theorem pPoint_rep {o:Bool} {w:World} {s:PPoint} {cs:List Value} {F:List Nat}:pPoint.rep o w s cs F↔cs=[.int .i64 s.x,.int .i64 s.y,.int .i64 s.t]∧F=[]∧I64 s.x∧I64 s.y∧I64 s.t:=by
 constructor
 · rintro ⟨_,_,_,_,rfl,rfl,⟨rfl,rfl,h0⟩,⟨_,_,_,_,rfl,rfl,⟨rfl,rfl,h1⟩,⟨rfl,rfl,h2⟩⟩⟩
   exact ⟨rfl,rfl,h0,h1,h2⟩
 · rintro ⟨rfl,rfl,h0,h1,h2⟩
   exact ⟨_,_,[],[],rfl,rfl,⟨rfl,rfl,h0⟩,⟨_,_,[],[],rfl,rfl,⟨rfl,rfl,h1⟩,⟨rfl,rfl,h2⟩⟩⟩
def pPoints (e:TypeId):Ty (List PPoint):=pPoint.slice e
theorem pPoints_open {o:Bool} {w:World} {e:TypeId} {xs:List PPoint} {v:Value} {F:List Nat} (h:(pPoints e).rep o w xs [v] F) :
 ∃ A c,v=.slice A xs.length c∧xs.length≤c∧c≤maxLen∧∀ k (hk:k < xs.length),∃ b off,A=some ⟨b,off,none⟩∧b < w.heap.size∧b∈F ∧
  w.cell? ⟨b,off+k * 3,none⟩=some (.int .i64 xs[k].x)∧w.cell? ⟨b,off+k * 3+1,none⟩=some (.int .i64 xs[k].y)∧w.cell? ⟨b,off+k * 3+2,none⟩=some (.int .i64 xs[k].t)∧I64 xs[k].x∧I64 xs[k].y∧I64 xs[k].t:=by
 obtain ⟨A,c,hv,h1,h2,h3⟩:=slice_open h;refine ⟨A,c,hv,h1,h2,fun k hk=>?_⟩;obtain ⟨b,off,ck,Fk,hA,hb,hin,hr,_,hc⟩:=h3 k hk;obtain ⟨rfl,rfl,i0,i1,i2⟩:=pPoint_rep.1 hr;exact ⟨b,off,hA,hb,hin,hc 0 _ rfl,by rw [Nat.add_assoc]; exact hc 1 _ rfl,by rw [Nat.add_assoc]; exact hc 2 _ rfl,i0,i1,i2⟩
def pPointCells (s:PPoint):List Value:=[.int .i64 s.x,.int .i64 s.y,.int .i64 s.t]
def pPointOk (s:PPoint):Prop:=I64 s.x∧I64 s.y∧I64 s.t
theorem pPointCells_len (xs:List PPoint):(xs.flatMap pPointCells).length=xs.length * 3:=by
 induction xs with
 | nil=>rfl
 | cons a r ih=>simp only [List.flatMap_cons,List.length_append,ih,List.length_cons]; simp [pPointCells]; omega
theorem repL_pPoint {o:Bool} {w:World}:∀ (xs:List PPoint),(∀ s∈xs,pPointOk s)→repL pPoint o w xs (xs.flatMap pPointCells) []
 | [],_=>⟨rfl,rfl⟩
 | s :: r,h=>⟨_,_,[],[],rfl,rfl,pPoint_rep.2 ⟨rfl,rfl,h s (by simp)⟩,repL_pPoint r (fun t ht=>h t (by simp [ht]))⟩
theorem repL_pPoint_inv {o:Bool} {w:World}:∀ {xs:List PPoint} {cs:List Value} {F:List Nat},repL pPoint o w xs cs F→cs=xs.flatMap pPointCells∧F=[]
 | [],_,_,⟨rfl,rfl⟩=>⟨rfl,rfl⟩
 | s :: r,_,_,⟨c1,c2,F1,F2,rfl,rfl,h1,h2⟩=>by
   obtain ⟨rfl,rfl,_⟩:=pPoint_rep.1 h1;obtain ⟨rfl,rfl⟩:=repL_pPoint_inv h2;exact ⟨rfl,rfl⟩
theorem pPoints_ok {o:Bool} {w:World} {e:TypeId} {xs:List PPoint} {v:Value} {F:List Nat} (h:(pPoints e).rep o w xs [v] F):∀ s∈xs,pPointOk s:=by
 obtain ⟨_,_,_,_,_,hr⟩:=pPoints_open h;intro s hs;obtain ⟨k,hk,rfl⟩:=List.getElem_of_mem hs;obtain ⟨_,_,_,_,_,_,_,_,h⟩:=hr k hk;exact h
theorem toPoint_c (s:PPoint) (w:World) :
 Calls Tryz.prog 75 #[.agg #[.int .i64 s.x,.int .i64 s.y,.int .i64 s.t]] w fun e w'=>e=.returned (.agg #[.int .i64 s.x,.int .i64 s.y,.int .i64 s.t])∧Below w.heap.size w w':=by
 go_enter Tryz.func75,Tryz.ntmps75
 go_wp2_with fail
 refine bodyPost_ret (v:=.agg #[.int .i64 s.x,.int .i64 s.y,.int .i64 s.t]) (by simp [results,Tryz.results75,go_sem]) rfl ⟨rfl,?_⟩;exact (((Below.refl _ _).alloc (Nat.le_refl _) _).alloc (by simp) _).alloc (by simp; omega) _
theorem toPointS_c {o:Bool} {e:TypeId} {xs:List PPoint} {v:Value} {F:List Nat} (w:World) (h:(pPoints e).rep o w xs [v] F) (hx:xs.length≤1048576) :
 Calls Tryz.prog 30 #[v] w fun e w'=>∃ u G,e=.returned u∧(pPoints 128).rep true w' xs [u] G∧Fresh w.heap.size G∧Below w.heap.size w w':=by
 have hok:=pPoints_ok h;obtain ⟨A,c,rfl,hc1,hc2,hr⟩:=pPoints_open h;have hmk:=make_run (P:=Tryz.prog) (t:=60) (e:=128) (z:=.agg #[.int .i64 0,.int .i64 0,.int .i64 0]) (size:=3) (bytes:=24) Tryz.underlying60 (by kernel_rfl) xs.length xs.length rfl (by omega) (by unfold maxLen; omega)
 go_enter Tryz.func30,Tryz.ntmps30
 go_wp2_with fail
 go_loopw [4] (fun i wr=>∃ k:Nat,k≤xs.length∧i=.int .i64 k∧∃ rest,Row wr w.heap.size 128 ((xs.take k).flatMap pPointCells++rest)∧rest.length=(xs.length - k) * 3∧Below w.heap.size w wr) (fun i _=>xs.length - (intOf i).toNat)
 case atStart =>
  exact ⟨0,Nat.zero_le _,rfl,_,Row.new w _ _,by simp [madeCells],(Below.refl _ _).alloc (Nat.le_refl _) _⟩
 case round =>
  obtain ⟨k,hk,rfl,rest,hrow,hrl,hb⟩:=hrel
  by_cases hlt:k < xs.length
  · obtain ⟨b,off,rfl,hbb,_,h0,h1,h2,_⟩:=hr k hlt
    rw [← hb.cell (p:=⟨b,_,none⟩) hbb] at h0 h1 h2;have hbs:=hb.size;have hrl2:=hrow.lt;have hpl:((xs.take k).flatMap pPointCells).length=k * 3:=by rw [pPointCells_len,List.length_take]; omega
    obtain ⟨r0,r1,r2,rest',rfl⟩:∃ r0 r1 r2 rest',rest=r0 :: r1 :: r2 :: rest':=by
     match rest,hrl with
     | r0 :: r1 :: r2 :: rest',_=>exact ⟨_,_,_,_,rfl⟩
     | [],h=>simp at h; omega
     | [_],h=>simp at h; omega
     | [_,_],h=>simp at h; omega
    clear hr h hmk
    go_wp2_with (go_at_call 75; refine (toPoint_c xs[k] _).mono ?_; rintro e w1 ⟨rfl,hb1⟩; have hrow1:=hrow.later hb1; obtain ⟨⟨v0,hv0⟩,hf0⟩:=hrow1.can (i:=k * 3) (by simp [hpl]); obtain ⟨⟨v1,hv1⟩,hf1⟩:=hrow1.can (i:=k * 3+1) (by simp [hpl]); obtain ⟨⟨v2,hv2⟩,hf2⟩:=hrow1.can (i:=k * 3+2) (by simp [hpl]))
    go_roundw
    case rel =>
     refine ⟨k+1,by omega,by go_num,rest',?_,by simp at hrl; omega,((((hb.trans (hb1.mono hbs)).setCell (Nat.le_refl _) _).setCell (Nat.le_refl _) _).setCell (Nat.le_refl _) _)⟩;have R:=(((hrow1.put (j:=0) (i:=k * 3) (by rw [hpl]; rfl) (.int .i64 xs[k].x)).put (j:=1) (i:=k * 3+1) (by rw [hpl]) (.int .i64 xs[k].y)).put (j:=2) (i:=k * 3+2) (by rw [hpl]) (.int .i64 xs[k].t))
     rw [List.take_succ_eq_append_getElem hlt,List.flatMap_append,List.append_assoc];exact R
    case measure=>simp [intOf]; omega
  · obtain rfl:k=xs.length:=by omega
    go_wp2_with fail
    go_ret;have h0:rest=[]:=List.eq_nil_of_length_eq_zero (by simpa using hrl);subst h0;rw [List.append_nil,List.take_length] at hrow;exact ⟨_,[w.heap.size],rfl,slice_of_row hrow (repL_pPoint xs hok) (by unfold maxLen; omega),⟨by simp,by simp⟩,hb⟩
theorem eqPoint_c (s t:PPoint) (w:World) :
 Calls Tryz.prog 94 #[.agg #[.int .i64 s.x,.int .i64 s.y,.int .i64 s.t],.agg #[.int .i64 t.x,.int .i64 t.y,.int .i64 t.t]] w fun e w'=>e=.returned (.bool (decide (s=t)))∧Below w.heap.size w w':=by
 have e:decide (s=t)=decide (s.x=t.x∧s.y=t.y∧s.t=t.t):=by apply decide_eq_decide.2; cases s; cases t; simp
 rw [e];clear e
 go_enter Tryz.func94,Tryz.ntmps94
 go_wp2_with fail
 all_goals go_ret
 all_goals refine ⟨?_,((Below.refl _ _).alloc (Nat.le_refl _) _).alloc (by simp) _⟩
 all_goals simp_all
theorem eqPointS_c {oa ob:Bool} {ea eb:TypeId} {xs ys:List PPoint} {v u:Value} {F G:List Nat} (w:World) (h:(pPoints ea).rep oa w xs [v] F) (h':(pPoints eb).rep ob w ys [u] G) (hx:xs.length≤1048576) (hy:ys.length≤1048576) :
 Calls Tryz.prog 36 #[v,u] w fun e w'=>e=.returned (.bool (decide (xs=ys)))∧Below w.heap.size w w':=by
 obtain ⟨A,c,rfl,hc1,hc2,hr⟩:=pPoints_open h;obtain ⟨B,d,rfl,hd1,hd2,hs⟩:=pPoints_open h';clear h h'
 by_cases hl:xs.length=ys.length
 · have hne:((xs.length:Int) != (ys.length:Int))=false:=by simp [hl]
   have HL:=Lib.hid hl;clear hl
   go_enter Tryz.func36,Tryz.ntmps36
   go_wp2_with fail
   go_loopw [5] (fun i wr=>∃ k:Nat,k≤xs.length∧i=.int .i64 k∧(∀ j (hj:j < xs.length) (hj':j < ys.length),j < k→xs[j]=ys[j])∧Below w.heap.size w wr) (fun i _=>xs.length - (intOf i).toNat)
   case atStart=>exact ⟨0,Nat.zero_le _,rfl,fun _ _ _ h=>by omega,Below.refl _ _⟩
   case round =>
    obtain ⟨k,hk,rfl,hall,hb⟩:=hrel;have hbs:=hb.size
    by_cases hlt:k < xs.length
    · have hlt':k < ys.length:=by have:=HL.out; omega
      obtain ⟨b,off,rfl,hbb,_,h0,h1,h2,_⟩:=hr k hlt;obtain ⟨b',off',rfl,hbb',_,g0,g1,g2,_⟩:=hs k hlt';rw [← hb.cell (p:=⟨b,_,none⟩) hbb] at h0 h1 h2;rw [← hb.cell (p:=⟨b',_,none⟩) hbb'] at g0 g1 g2;have HA:=Lib.hid hall;clear hr hs hall;have C:=eqPoint_c xs[k] ys[k]
      by_cases hkk:xs[k]=ys[k]
      · rw [decide_eq_true hkk] at C
        have HC:=Lib.hid C;have HK:=Lib.hid hkk;clear C hkk
        go_wp2_with fail
        go_still_tail 8,(by kernel_rfl)
        go_wp2_with (go_at_call 94; refine (HC.out _).mono ?_; rintro e w1 ⟨rfl,hb1⟩)
        go_roundw
        case rel =>
         refine ⟨k+1,by omega,by go_num,fun j hj hj' hjk=>?_,hb.drew.trans (hb1.mono hbs)⟩
         by_cases e:j=k
         · subst e; exact HK.out
         · exact HA.out j hj hj' (by omega)
        case measure=>simp [intOf]; omega
      · rw [decide_eq_false hkk] at C
        have HC:=Lib.hid C;have HK:=Lib.hid hkk;clear C hkk
        go_wp2_with fail
        go_still_tail 8,(by kernel_rfl)
        go_wp2_with (go_at_call 94; refine (HC.out _).mono ?_; rintro e w1 ⟨rfl,hb1⟩)
        go_ret;have hne:¬ xs=ys:=fun e=>by subst e; exact HK.out rfl
        exact ⟨by simp [hne],hb.drew.trans (hb1.mono hbs)⟩
    · obtain rfl:k=xs.length:=by omega
      have heq:xs=ys:=List.ext_getElem HL.out (fun j h1 h2=>hall j h1 h2 h1);clear hall
      go_wp2_with fail
      go_ret;exact ⟨by simp [heq],hb⟩
 · have hne:((xs.length:Int) != (ys.length:Int))=true:=by rw [bne_iff_ne]; omega
   have hxy:¬ xs=ys:=fun e=>hl (by rw [e])
   have HL:=Lib.hid hxy;clear hl hxy
   go_enter Tryz.func36,Tryz.ntmps36
   go_wp2_with fail
   go_ret;exact ⟨by simp [HL.out],Below.refl _ _⟩
theorem szPointS_c {o:Bool} {e:TypeId} {xs:List PPoint} {v:Value} {F:List Nat} (w:World) (h:(pPoints e).rep o w xs [v] F) (left:Int) (hl:0≤left∧left≤1048576) :
 Calls Tryz.prog 24 #[v,.int .i64 left] w fun e w'=>(∃ r:Int,e=.returned (.int .i64 r)∧-1≤r∧r≤left∧(0≤r→r+xs.length≤left))∧Below w.heap.size w w':=by
 obtain ⟨A,c,rfl,hc1,hc2,hr⟩:=pPoints_open h;clear hr h;unfold maxLen at hc2
 go_enter Tryz.func24,Tryz.ntmps24
 go_wp2_with fail
 all_goals go_ret
 all_goals exact ⟨⟨_,rfl,by omega⟩,Below.refl _ _⟩
abbrev PStroke:=List PPoint
def pStroke (ep:TypeId):Ty PStroke:=pPoints ep
def pStrokes (ep e:TypeId):Ty (List PStroke):=(pStroke ep).slice e
theorem pStroke_one {ep:TypeId} {o:Bool} {w:World} {xs:PStroke} {cs:List Value} {F:List Nat} (h:(pStroke ep).rep o w xs cs F):∃ v,cs=[v]:=by
 obtain ⟨A,c,ec,F0,F1,rfl,_⟩:=h;exact ⟨_,rfl⟩
theorem pStrokes_open {ep:TypeId} {o:Bool} {w:World} {e:TypeId} {xs:List PStroke} {v:Value} {F:List Nat} (h:(pStrokes ep e).rep o w xs [v] F) :
 ∃ A c,v=.slice A xs.length c∧xs.length≤c∧c≤maxLen∧∀ k (hk:k < xs.length),∃ b off u Fk,A=some ⟨b,off,none⟩∧b < w.heap.size∧b∈F ∧
  (pPoints ep).rep o w xs[k] [u] Fk∧(∀ x∈Fk,x∈F)∧w.cell? ⟨b,off+k,none⟩=some u:=by
 obtain ⟨A,c,hv,h1,h2,h3⟩:=slice_open h;refine ⟨A,c,hv,h1,h2,fun k hk=>?_⟩;obtain ⟨b,off,ck,Fk,hA,hb,hin,hr,hF,hc⟩:=h3 k hk;obtain ⟨u,rfl⟩:=pStroke_one hr;have h0:=hc 0 _ rfl;rw [show k * (pStroke ep).size+0=k from Nat.mul_one k] at h0;exact ⟨b,off,u,Fk,hA,hb,hin,hr,hF,h0⟩
theorem eqStroke_c {oa ob:Bool} {ea eb:TypeId} {xs ys:PStroke} {v u:Value} {F G:List Nat} (w:World) (h:(pPoints ea).rep oa w xs [v] F) (h':(pPoints eb).rep ob w ys [u] G) (hx:xs.length≤1048576) (hy:ys.length≤1048576) :
 Calls Tryz.prog 154 #[.agg #[v],.agg #[u]] w fun e w'=>e=.returned (.bool (decide (xs=ys)))∧Below w.heap.size w w':=by
 cases hd:decide (xs=ys)
 all_goals
  go_enter Tryz.func154,Tryz.ntmps154
  go_wp2_with (go_at_call 36; refine (eqPointS_c _ ((h.alloc _).alloc _) ((h'.alloc _).alloc _) hx hy).mono ?_; rw [hd]; rintro e w1 ⟨rfl,hb1⟩)
  go_ret;exact ⟨rfl,((((Below.refl _ _).alloc (Nat.le_refl _) _).alloc (by simp) _).trans (hb1.mono (by simp; omega)))⟩
theorem eqStrokeS_c {oa ob:Bool} {pa pb ea eb:TypeId} {xs ys:List PStroke} {v u:Value} {F G:List Nat} (w:World) (h:(pStrokes pa ea).rep oa w xs [v] F) (h':(pStrokes pb eb).rep ob w ys [u] G) (hx:xs.length≤1048576) (hy:ys.length≤1048576) (hxe:∀ l∈xs,l.length≤1048576) (hye:∀ l∈ys,l.length≤1048576) :
 Calls Tryz.prog 93 #[v,u] w fun e w'=>e=.returned (.bool (decide (xs=ys)))∧Below w.heap.size w w':=by
 obtain ⟨A,c,rfl,hc1,hc2,hr⟩:=pStrokes_open h;obtain ⟨B,d,rfl,hd1,hd2,hs⟩:=pStrokes_open h';clear h h'
 by_cases hl:xs.length=ys.length
 · have hne:((xs.length:Int) != (ys.length:Int))=false:=by simp [hl]
   have HL:=Lib.hid hl;clear hl
   go_enter Tryz.func93,Tryz.ntmps93
   go_wp2_with fail
   go_loopw [5] (fun i wr=>∃ k:Nat,k≤xs.length∧i=.int .i64 k∧(∀ j (hj:j < xs.length) (hj':j < ys.length),j < k→xs[j]=ys[j])∧Below w.heap.size w wr) (fun i _=>xs.length - (intOf i).toNat)
   case atStart=>exact ⟨0,Nat.zero_le _,rfl,fun _ _ _ h=>by omega,Below.refl _ _⟩
   case round =>
    obtain ⟨k,hk,rfl,hall,hb⟩:=hrel;have hbs:=hb.size
    by_cases hlt:k < xs.length
    · have hlt':k < ys.length:=by have:=HL.out; omega
      obtain ⟨b,off,v1,F1,rfl,hbb,_,R1,_,h0⟩:=hr k hlt;obtain ⟨b',off',v2,F2,rfl,hbb',_,R2,_,g0⟩:=hs k hlt';rw [← hb.cell (p:=⟨b,_,none⟩) hbb] at h0;rw [← hb.cell (p:=⟨b',_,none⟩) hbb'] at g0;have Q1:=Lib.hid (R1.below hb);have Q2:=Lib.hid (R2.below hb);have L1:=hxe _ (List.getElem_mem hlt);have L2:=hye _ (List.getElem_mem hlt');have HA:=Lib.hid hall;clear hr hs hall R1 R2;have C:=fun (w':World) (q1:(pPoints pa).rep oa w' xs[k] [v1] F1) (q2:(pPoints pb).rep ob w' ys[k] [v2] F2)=>eqStroke_c w' q1 q2 L1 L2
      by_cases hkk:xs[k]=ys[k]
      · simp only [decide_eq_true hkk] at C
        have HC:=Lib.hid C;have HK:=Lib.hid hkk;clear C hkk
        go_wp2_with fail
        go_still_tail 8,(by kernel_rfl)
        go_wp2_with (go_at_call 154; refine (HC.out _ Q1.out.drew Q2.out.drew).mono ?_; rintro e w1 ⟨rfl,hb1⟩)
        go_roundw
        case rel =>
         refine ⟨k+1,by omega,by go_num,fun j hj hj' hjk=>?_,hb.drew.trans (hb1.mono hbs)⟩
         by_cases e:j=k
         · subst e; exact HK.out
         · exact HA.out j hj hj' (by omega)
        case measure=>simp [intOf]; omega
      · simp only [decide_eq_false hkk] at C
        have HC:=Lib.hid C;have HK:=Lib.hid hkk;clear C hkk
        go_wp2_with fail
        go_still_tail 8,(by kernel_rfl)
        go_wp2_with (go_at_call 154; refine (HC.out _ Q1.out.drew Q2.out.drew).mono ?_; rintro e w1 ⟨rfl,hb1⟩)
        go_ret;have hne:¬ xs=ys:=fun e=>by subst e; exact HK.out rfl
        exact ⟨by simp [hne],hb.drew.trans (hb1.mono hbs)⟩
    · obtain rfl:k=xs.length:=by omega
      have heq:xs=ys:=List.ext_getElem HL.out (fun j h1 h2=>hall j h1 h2 h1);clear hall
      go_wp2_with fail
      go_ret;exact ⟨by simp [heq],hb⟩
 · have hne:((xs.length:Int) != (ys.length:Int))=true:=by rw [bne_iff_ne]; omega
   have hxy:¬ xs=ys:=fun e=>hl (by rw [e])
   have HL:=Lib.hid hxy;clear hl hxy
   go_enter Tryz.func93,Tryz.ntmps93
   go_wp2_with fail
   go_ret;exact ⟨by simp [HL.out],Below.refl _ _⟩
theorem toStroke_c {o:Bool} {e:TypeId} {xs:PStroke} {v:Value} {F:List Nat} (w:World) (h:(pPoints e).rep o w xs [v] F) (hx:xs.length≤1048576) :
 Calls Tryz.prog 133 #[.agg #[v]] w fun e' w'=>∃ u G,e'=.returned (.agg #[u])∧(pPoints 128).rep true w' xs [u] G∧Fresh w.heap.size G∧Below w.heap.size w w':=by
 go_enter Tryz.func133,Tryz.ntmps133
 go_wp2_with (go_at_call 30; refine (toPointS_c _ (((h.alloc _).alloc _).alloc _) hx).mono ?_; rintro e' w1 ⟨u1,G1,rfl,r1,f1,hb1⟩; obtain ⟨A1,k1,rfl⟩:=slice_len r1; obtain ⟨hcc,hff⟩:=bcell hb1; have hzz:=hb1.size)
 have b3:Below w.heap.size w (((w.alloc (.cells #[v] 190)).alloc (.cells #[.slice none 0 0] 124)).alloc (.cells #[.slice none 0 0] 124)) :=
  ((((Below.refl _ _).alloc (Nat.le_refl _) _).alloc (by simp) _).alloc (by simp; omega) _)
 have hz3:(((w.alloc (.cells #[v] 190)).alloc (.cells #[.slice none 0 0] 124)).alloc (.cells #[.slice none 0 0] 124)).heap.size=w.heap.size+1+1+1:=by simp
 have hz1:(w.alloc (.cells #[v] 190)).heap.size=w.heap.size+1:=by simp
 have R:=Row.new (w.alloc (.cells #[v] 190)) 124 #[.slice none 0 0];rw [hz1] at R;have hcell:=(((((R.alloc (.cells #[.slice none 0 0] 124)).later hb1).far (p:=⟨w.heap.size+1+1,0,none⟩) (by simp) (.slice A1 xs.length k1)).set 0 (.slice A1 xs.length k1)).cell' (i:=0) (u:=.slice A1 xs.length k1) (by simp))
 refine bodyPost_ret (v:=.agg #[.slice A1 xs.length k1]) (by simp [results,Tryz.results133,go_sem,hcell]) rfl ⟨_,G1,rfl,(r1.setCell ?_ _).setCell ?_ _,f1.mono (by omega),(((b3.trans (hb1.mono (by omega))).setCell ?_ _).setCell ?_ _)⟩
 · intro hin; have:=f1.2 _ hin; simp at this; omega
 · intro hin; have:=f1.2 _ hin; simp at this; omega
 · simp; omega
 · simp
theorem toStrokeS_c {o:Bool} {pe e:TypeId} {xs:List PStroke} {v:Value} {F:List Nat} (w:World) (h:(pStrokes pe e).rep o w xs [v] F) (hx:xs.length≤1048576) (hxe:∀ l∈xs,l.length≤1048576) :
 Calls Tryz.prog 74 #[v] w fun e w'=>∃ u G,e=.returned u∧(pStrokes 128 124).rep true w' xs [u] G∧Fresh w.heap.size G∧Below w.heap.size w w':=by
 obtain ⟨A,c,rfl,hc1,hc2,hr⟩:=pStrokes_open h;have hmk:=make_run (P:=Tryz.prog) (t:=57) (e:=124) (z:=.agg #[.slice none 0 0]) (size:=1) (bytes:=24) Tryz.underlying57 (by kernel_rfl) xs.length xs.length rfl (by omega) (by unfold maxLen; omega)
 go_enter Tryz.func74,Tryz.ntmps74
 go_wp2_with fail
 go_loopw [4] (fun i wr=>∃ k:Nat,k≤xs.length∧i=.int .i64 k∧∃ cs G rest,Row wr w.heap.size 124 (cs++rest)∧repL (pStroke 128) true wr (xs.take k) cs G∧Fresh (w.heap.size+1) G∧rest.length=xs.length - k∧Below w.heap.size w wr) (fun i _=>xs.length - (intOf i).toNat)
 case atStart =>
  exact ⟨0,Nat.zero_le _,rfl,[],[],_,Row.new w _ _,⟨rfl,rfl⟩,⟨by simp,by simp⟩,by simp [madeCells],(Below.refl _ _).alloc (Nat.le_refl _) _⟩
 case round =>
  obtain ⟨k,hk,rfl,cs,G,rest,hrow,hrep,hfr,hrl,hb⟩:=hrel
  by_cases hlt:k < xs.length
  · obtain ⟨b,off,v1,F1,rfl,hbb,_,R1,_,h0⟩:=hr k hlt
    rw [← hb.cell (p:=⟨b,_,none⟩) hbb] at h0;have hbs:=hb.size;have hrl2:=hrow.lt
    have hpl:cs.length=k:=by
     have:=repL_len hrep;rw [List.length_take,Nat.min_eq_left (by omega)] at this;rw [this]; exact Nat.mul_one k
    obtain ⟨r0,rest',rfl⟩:∃ r0 rest',rest=r0 :: rest':=by
     match rest,hrl with
     | r0 :: rest',_=>exact ⟨_,_,rfl⟩
     | [],h=>simp at h; omega
    have L1:=hxe _ (List.getElem_mem hlt);have Q1:=Lib.hid (R1.below hb);have HR:=Lib.hid hrow;have HP:=Lib.hid hrep;have HF:=Lib.hid hfr;have HL:=Lib.hid hpl;clear hr h hmk R1 hrow hrep hfr hpl
    go_wp2_with (go_at_call 133; refine (toStroke_c _ Q1.out L1).mono ?_; rintro e w1 ⟨u1,G1,rfl,r1,f1,hb1⟩; obtain ⟨A1,k1,rfl⟩:=slice_len r1; have hrow1:=HR.out.later hb1; obtain ⟨⟨v0,hv0⟩,hf0⟩:=hrow1.can (i:=k) (by simp [HL.out]))
    go_roundw
    case rel =>
     have hz:=hb1.size;refine ⟨k+1,by omega,by go_num,cs++[.slice A1 (xs[k]).length k1],G++G1,rest',?_,?_,⟨?_,?_⟩,by simp at hrl; omega,(hb.trans (hb1.mono hbs)).setCell (Nat.le_refl _) _⟩
     · have R:=hrow1.put (j:=0) (i:=k) (by rw [HL.out]; rfl) (.slice A1 (xs[k]).length k1)
       rw [List.append_assoc];exact R
     · rw [List.take_succ_eq_append_getElem hlt]
       refine repL_append (repL_set (repL_below HP.out hb1) ?_ _) (repL_single.2 (r1.setCell ?_ _))
       · intro hin; have:=HF.out.2 _ hin; simp at this; omega
       · intro hin; have:=f1.2 _ hin; simp at this; omega
     · refine List.nodup_append.2 ⟨HF.out.1,f1.1,fun x h1 y h2 e=>?_⟩
       subst e;have:=repL_lt HP.out x h1; have:=f1.2 x h2; omega
     · intro x hx
       rcases List.mem_append.1 hx with h | h
       · exact HF.out.2 x h
       · have:=f1.2 x h; omega
    case measure=>simp [intOf]; omega
  · obtain rfl:k=xs.length:=by omega
    go_wp2_with fail
    go_ret;have h0:rest=[]:=List.eq_nil_of_length_eq_zero (by simpa using hrl);subst h0;rw [List.append_nil] at hrow;rw [List.take_length] at hrep;exact ⟨_,w.heap.size :: G,rfl,slice_of_row hrow hrep (by unfold maxLen; omega),⟨List.nodup_cons.2 ⟨fun hin=>by have:=hfr.2 _ hin; omega,hfr.1⟩,fun x hx=>by rcases List.mem_cons.1 hx with rfl | h; exact Nat.le_refl _; have:=hfr.2 x h; omega⟩,hb⟩
def szStrokes (xs:List PStroke):Nat:=xs.length+(xs.map List.length).sum
theorem szStrokes_take (xs:List PStroke) (k:Nat) (h:k < xs.length):((xs.take (k+1)).map List.length).sum=((xs.take k).map List.length).sum+xs[k].length:=by
 rw [List.take_succ_eq_append_getElem h,List.map_append,List.sum_append]; simp
theorem szStroke_c {o:Bool} {e:TypeId} {xs:PStroke} {v:Value} {F:List Nat} (w:World) (h:(pPoints e).rep o w xs [v] F) (left:Int) (hl:0≤left∧left≤1048576) :
 Calls Tryz.prog 118 #[.agg #[v],.int .i64 left] w fun e' w'=>(∃ r:Int,e'=.returned (.int .i64 r)∧r≤left∧(0≤r→r+xs.length≤left))∧Below w.heap.size w w':=by
 have H:=Lib.hid (fun w' (q:(pPoints e).rep o w' xs [v] F)=>szPointS_c w' q left hl)
 go_enter Tryz.func118,Tryz.ntmps118
 go_wp2_with fail
 refine (H.out _ (h.alloc _)).mono ?_;rintro e' w1 ⟨⟨r,rfl,_,hr1,hr2⟩,hb1⟩;have bb:Below w.heap.size w w1:=((Below.refl _ _).alloc (Nat.le_refl _) _).trans (hb1.mono (by simp))
 by_cases h0:r < 0
 · go_wp2_with fail
   go_ret;exact ⟨⟨-1,rfl,by omega,by omega⟩,bb⟩
 · go_wp2_with fail
   go_ret;exact ⟨⟨r,rfl,hr1,hr2⟩,bb⟩
theorem szStrokeS_c {o:Bool} {pe e:TypeId} {xs:List PStroke} {v:Value} {F:List Nat} (w:World) (h:(pStrokes pe e).rep o w xs [v] F) (left:Int) (hl:0≤left∧left≤1048576) :
 Calls Tryz.prog 58 #[v,.int .i64 left] w fun e w'=>(∃ r:Int,e=.returned (.int .i64 r)∧r≤left∧(0≤r→r+szStrokes xs≤left))∧Below w.heap.size w w':=by
 obtain ⟨A,c,rfl,hc1,hc2,hr⟩:=pStrokes_open h;clear h;unfold maxLen at hc2
 by_cases h0:left - xs.length < 0
 · go_enter Tryz.func58,Tryz.ntmps58
   go_wp2_with fail
   go_ret;exact ⟨⟨-1,rfl,by omega,by omega⟩,Below.refl _ _⟩
 · have h1:¬ (left - (xs.length:Int) < 0):=h0
   go_enter Tryz.func58,Tryz.ntmps58
   go_wp2_with fail
   go_loopw [1,5] (fun l i wr=>∃ k:Nat,k≤xs.length∧i=.int .i64 k∧(∃ n:Int,0≤n∧n≤left∧Hid (n+xs.length+((xs.take k).map List.length).sum≤left)∧l=.int .i64 n)∧Below w.heap.size w wr) (fun _ i _=>xs.length - (intOf i).toNat)
   case atStart=>exact ⟨0,Nat.zero_le _,rfl,⟨left - xs.length,by omega,by omega,by show _≤_; simp,rfl⟩,Below.refl _ _⟩
   case round =>
    obtain ⟨k,hk,rfl,⟨n,hn0,hn1,hn,rfl⟩,hb⟩:=hrel;have hbs:=hb.size
    by_cases hlt:k < xs.length
    · obtain ⟨b,off,v1,F1,rfl,hbb,_,R1,_,hc0⟩:=hr k hlt
      rw [← hb.cell (p:=⟨b,_,none⟩) hbb] at hc0;have Q1:=Lib.hid (R1.below hb);have H:=Lib.hid (szStrokes_take xs k hlt);clear hr R1
      go_wp2_with (go_at_call 118; refine (szStroke_c _ Q1.out n ⟨hn0,by omega⟩).mono ?_; rintro e w1 ⟨⟨r,rfl,hr1,hr2⟩,hb1⟩)
      · go_ret
        exact ⟨⟨-1,rfl,by omega,by omega⟩,hb.trans (hb1.mono hbs)⟩
      · go_roundw
        case rel=>exact ⟨k+1,by omega,by go_num,⟨r,by omega,by omega,by show _≤_; have h1:=hn.out; have:=hr2 (by omega); rw [H.out]; omega,rfl⟩,hb.trans (hb1.mono hbs)⟩
        case measure=>simp [intOf]; omega
    · obtain rfl:k=xs.length:=by omega
      clear hr
      go_wp2_with fail
      go_ret;refine ⟨⟨n,rfl,by omega,fun _=>?_⟩,hb⟩;have h1:=hn.out;rw [List.take_length] at h1;unfold szStrokes;omega
theorem eqInk_c {oa ob:Bool} {pa pb ea eb:TypeId} {xs ys:List PStroke} {v u:Value} {F G:List Nat} (w:World) (h:(pStrokes pa ea).rep oa w xs [v] F) (h':(pStrokes pb eb).rep ob w ys [u] G) (hx:xs.length≤1048576) (hy:ys.length≤1048576) (hxe:∀ l∈xs,l.length≤1048576) (hye:∀ l∈ys,l.length≤1048576) :
 Calls Tryz.prog 35 #[.agg #[v],.agg #[u]] w fun e w'=>e=.returned (.bool (decide (xs=ys)))∧Below w.heap.size w w':=by
 cases hd:decide (xs=ys)
 all_goals
  go_enter Tryz.func35,Tryz.ntmps35
  go_wp2_with (go_at_call 93; refine (eqStrokeS_c _ ((h.alloc _).alloc _) ((h'.alloc _).alloc _) hx hy hxe hye).mono ?_; rw [hd]; rintro e w1 ⟨rfl,hb1⟩)
  go_ret;exact ⟨rfl,((((Below.refl _ _).alloc (Nat.le_refl _) _).alloc (by simp) _).trans (hb1.mono (by simp; omega)))⟩
theorem toInk_c {o:Bool} {pe e:TypeId} {xs:List PStroke} {v:Value} {F:List Nat} (w:World) (h:(pStrokes pe e).rep o w xs [v] F) (hx:xs.length≤1048576) (hxe:∀ l∈xs,l.length≤1048576) :
 Calls Tryz.prog 29 #[.agg #[v]] w fun e' w'=>∃ u G,e'=.returned (.agg #[u])∧(pStrokes 128 124).rep true w' xs [u] G∧Fresh w.heap.size G∧Below w.heap.size w w':=by
 go_enter Tryz.func29,Tryz.ntmps29
 go_wp2_with (go_at_call 74; refine (toStrokeS_c _ (((h.alloc _).alloc _).alloc _) hx hxe).mono ?_; rintro e' w1 ⟨u1,G1,rfl,r1,f1,hb1⟩; obtain ⟨A1,k1,rfl⟩:=slice_len r1; obtain ⟨hcc,hff⟩:=bcell hb1; have hzz:=hb1.size)
 have b3:Below w.heap.size w (((w.alloc (.cells #[v] 37)).alloc (.cells #[.slice none 0 0] 59)).alloc (.cells #[.slice none 0 0] 59)) :=
  ((((Below.refl _ _).alloc (Nat.le_refl _) _).alloc (by simp) _).alloc (by simp; omega) _)
 have hz3:(((w.alloc (.cells #[v] 37)).alloc (.cells #[.slice none 0 0] 59)).alloc (.cells #[.slice none 0 0] 59)).heap.size=w.heap.size+1+1+1:=by simp
 have hz1:(w.alloc (.cells #[v] 37)).heap.size=w.heap.size+1:=by simp
 have R:=Row.new (w.alloc (.cells #[v] 37)) 59 #[.slice none 0 0];rw [hz1] at R;have hcell:=(((((R.alloc (.cells #[.slice none 0 0] 59)).later hb1).far (p:=⟨w.heap.size+1+1,0,none⟩) (by simp) (.slice A1 xs.length k1)).set 0 (.slice A1 xs.length k1)).cell' (i:=0) (u:=.slice A1 xs.length k1) (by simp))
 refine bodyPost_ret (v:=.agg #[.slice A1 xs.length k1]) (by simp [results,Tryz.results29,go_sem,hcell]) rfl ⟨_,G1,rfl,(r1.setCell ?_ _).setCell ?_ _,f1.mono (by omega),(((b3.trans (hb1.mono (by omega))).setCell ?_ _).setCell ?_ _)⟩
 · intro hin; have:=f1.2 _ hin; simp at this; omega
 · intro hin; have:=f1.2 _ hin; simp at this; omega
 · simp; omega
 · simp
theorem szInk_c {o:Bool} {pe e:TypeId} {xs:List PStroke} {v:Value} {F:List Nat} (w:World) (h:(pStrokes pe e).rep o w xs [v] F) (left:Int) (hl:0≤left∧left≤1048576) :
 Calls Tryz.prog 23 #[.agg #[v],.int .i64 left] w fun e' w'=>(∃ r:Int,e'=.returned (.int .i64 r)∧r≤left∧(0≤r→r+szStrokes xs≤left))∧Below w.heap.size w w':=by
 have H:=Lib.hid (fun w' (q:(pStrokes pe e).rep o w' xs [v] F)=>szStrokeS_c w' q left hl)
 go_enter Tryz.func23,Tryz.ntmps23
 go_wp2_with fail
 refine (H.out _ (h.alloc _)).mono ?_;rintro e' w1 ⟨⟨r,rfl,hr1,hr2⟩,hb1⟩;have bb:Below w.heap.size w w1:=((Below.refl _ _).alloc (Nat.le_refl _) _).trans (hb1.mono (by simp))
 by_cases h0:r < 0
 · go_wp2_with fail
   go_ret;exact ⟨⟨-1,rfl,by omega,by omega⟩,bb⟩
 · go_wp2_with fail
   go_ret;exact ⟨⟨r,rfl,hr1,hr2⟩,bb⟩
theorem ret_boolI {a b:Bool} (h:a=b):Ending.returned (.bool a)=.returned (.bool b):=by rw [h]
def inR (n lo hi:Int):Bool:=decide (lo≤n) && decide (n≤hi)
theorem spec_inR_c (n lo hi:Int) (w:World) :
 Calls Tryz.prog 61 #[.int .i64 n,.int .i64 lo,.int .i64 hi] w fun e w'=>e=.returned (.bool (inR n lo hi))∧w=w':=by
 by_cases h:lo≤n
 · have g:decide (lo≤n)=true:=by simpa using h
   go_enter Tryz.func61,Tryz.ntmps61
   go_wp2_with fail
   all_goals go_ret
   all_goals exact ⟨ret_boolI (by simp [inR, *]),rfl⟩
 · have g:decide (lo≤n)=false:=by simpa using h
   go_enter Tryz.func61,Tryz.ntmps61
   go_wp2_with fail
   all_goals go_ret
   all_goals exact ⟨ret_boolI (by simp [inR, *]),rfl⟩
theorem impl_inR_c (n lo hi:Int) (w:World) :
 Calls Tryz.prog 78 #[.int .i64 n,.int .i64 lo,.int .i64 hi] w fun e w'=>e=.returned (.bool (inR n lo hi))∧w=w':=by
 by_cases h:lo≤n
 · have g:decide (lo≤n)=true:=by simpa using h
   go_enter Tryz.func78,Tryz.ntmps78
   go_wp2_with fail
   all_goals go_ret
   all_goals exact ⟨ret_boolI (by simp [inR, *]),rfl⟩
 · have g:decide (lo≤n)=false:=by simpa using h
   go_enter Tryz.func78,Tryz.ntmps78
   go_wp2_with fail
   all_goals go_ret
   all_goals exact ⟨ret_boolI (by simp [inR, *]),rfl⟩
theorem impl_isCoord_c (n:Int) (w:World) :
 Calls Tryz.prog 98 #[.int .i64 n] w fun e w'=>e=.returned (.bool (inR n 0 4095))∧w=w':=by
 have C:=impl_inR_c n 0 4095;generalize inR n 0 4095=b at C;have HC:=Lib.hid C;clear C
 go_enter Tryz.func98,Tryz.ntmps98
 go_wp2_with fail
 refine (HC.out _).mono ?_;rintro e w1 ⟨rfl,rfl⟩
 go_wp2_with fail
 go_ret;exact ⟨rfl,rfl⟩
def pointB (p:PPoint):Bool:=inR p.x 0 4095 && (inR p.y 0 4095 && inR p.t 0 3600000)
theorem impl_validPoint_c (p:PPoint) (w:World) :
 Calls Tryz.prog 138 #[.agg #[.int .i64 p.x,.int .i64 p.y,.int .i64 p.t]] w fun e w'=>e=.returned (.bool (pointB p))∧w'=w.alloc (.cells #[.int .i64 p.x,.int .i64 p.y,.int .i64 p.t] 128):=by
 have CX:=impl_isCoord_c p.x;have CY:=impl_isCoord_c p.y;have CT:=impl_inR_c p.t 0 3600000;unfold pointB;generalize inR p.x 0 4095=bx at CX ⊢;generalize inR p.y 0 4095=cy at CY ⊢;generalize inR p.t 0 3600000=dt at CT ⊢;have HX:=Lib.hid CX;have HY:=Lib.hid CY;have HT:=Lib.hid CT;clear CX CY CT;cases bx <;> cases cy
 all_goals
  go_enter Tryz.func138,Tryz.ntmps138
  go_wp2_with (first | (go_at_call_of 98 (Value.int .i64 p.x); refine (HX.out _).mono ?_; rintro e w1 ⟨rfl,rfl⟩) | (go_at_call_of 98 (Value.int .i64 p.y); refine (HY.out _).mono ?_; rintro e w1 ⟨rfl,rfl⟩) | (go_at_call 78; refine (HT.out _).mono ?_; rintro e w1 ⟨rfl,rfl⟩))
  go_ret;exact ⟨rfl,rfl⟩
theorem spec_l02Point_c (p:PPoint) (w:World) :
 Calls Tryz.prog 95 #[.agg #[.int .i64 p.x,.int .i64 p.y,.int .i64 p.t]] w fun e w'=>e=.returned (.bool (pointB p))∧w'=w.alloc (.cells #[.int .i64 p.x,.int .i64 p.y,.int .i64 p.t] 128):=by
 have CX:=spec_inR_c p.x 0 4095;have CY:=spec_inR_c p.y 0 4095;have CT:=spec_inR_c p.t 0 3600000;unfold pointB;generalize inR p.x 0 4095=bx at CX ⊢;generalize inR p.y 0 4095=cy at CY ⊢;generalize inR p.t 0 3600000=dt at CT ⊢;have HX:=Lib.hid CX;have HY:=Lib.hid CY;have HT:=Lib.hid CT;clear CX CY CT;cases bx <;> cases cy
 all_goals
  go_enter Tryz.func95,Tryz.ntmps95
  go_wp2_with (first | (go_at_call_of 61 (Value.int .i64 p.x); refine (HX.out _).mono ?_; rintro e w1 ⟨rfl,rfl⟩) | (go_at_call_of 61 (Value.int .i64 p.y); refine (HY.out _).mono ?_; rintro e w1 ⟨rfl,rfl⟩) | (go_at_call_of 61 (Value.int .i64 p.t); refine (HT.out _).mono ?_; rintro e w1 ⟨rfl,rfl⟩))
  go_ret;exact ⟨rfl,rfl⟩
def pt (s:PStroke) (k:Nat):PPoint:=s.getD k ⟨0,0,0⟩
theorem pt_get {s:PStroke} {k:Nat} (h:k < s.length):pt s k=s[k]:=by simp [pt,List.getD_eq_getElem?_getD,List.getElem?_eq_getElem h]
def ptOk (s:PStroke) (k:Nat):Bool:=pointB (pt s k) && (decide (k=0) || decide ((pt s (k - 1)).t < (pt s k).t))
def ptsOk (s:PStroke):Nat→Bool
 | 0=>true
 | k+1=>ptsOk s k && ptOk s k
theorem ptsOk_false {s:PStroke} {k:Nat} (h:ptOk s k=false):∀ n,k < n→ptsOk s n=false
 | 0,hk=>by omega
 | n+1,hk=>by
   by_cases e:k=n
   · subst e; simp [ptsOk,h]
   · simp [ptsOk,ptsOk_false h n (by omega)]
theorem ptsOk_get {s:PStroke}:∀ {n k:Nat},ptsOk s n=true→k < n→ptOk s k=true
 | 0,_,_,hk=>by omega
 | n+1,k,h,hk=>by
   simp only [ptsOk,Bool.and_eq_true] at h
   by_cases e:k=n
   · subst e; exact h.2
   · exact ptsOk_get h.1 (by omega)
def strokeB (s:PStroke):Bool:=ptsOk s s.length && (decide (1≤s.length) && decide (s.length≤60))
theorem strokeB_false {s:PStroke} {k:Nat} (hk:k < s.length) (h:ptOk s k=false):strokeB s=false:=by simp [strokeB,ptsOk_false h _ hk]
theorem step_call {P:Program} {ops:Array Oper} {o:Oper} {a:Act} {w:World} {K:Act→World→Prop} {Q:Exit→Act→World→Prop} {E:Prop} {R:Ending→World→Prop}
 (f:FuncId) (xs:Array Operand) (ts:Array TypeId) (ho:o.op=.call { callee:=.value (.func f),args:=xs,argTypes:=ts })
 (hw:Region.wanted o (yielded ops a.tmps)=true) (av:Array Value) (hcall:∀ args w,(callFunc f args).run P w=.ok (.enter f args) w) (hx:xs.map a.eval=av)
 (hC:Calls P f av w R) (hK:∀ e w',R e w'→∃ v,e=.returned v∧K (a.put o.dst v) w') :
 if Region.wanted o (yielded ops a.tmps)=true then Oper.wp P o a w K Q else E:=by
 rw [if_pos hw];unfold Oper.wp execOp;simp only [ho,resolve,invoke,Sem.run_bind];have he:a.eval (.func f)=.func (.func f) #[] #[]:=rfl;rw [he,hx];simp only [Deferred.ofValue,Sem.run_pure,Result.andThen_ok,Array.append_empty,hcall];rw [Oper.upon_enter,Array.empty_append];refine hC.mono fun e w' hr=>?_
 obtain ⟨v,rfl,hk⟩:=hK e w' hr;exact hk
end Go.Proofs.YtalmeogjhmblhaaGreat

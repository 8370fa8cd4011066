/- The type Feat: its data, how it lies in memory, and the law's own helpers over it. Conditions: none. -/
import Derived.Test.YtafgknkcjohjeaaGreatDoorRows
import Derived.Test.YtafgknkcjohjeaaGreatDoorStrSe
import Derived.Laws.Strings
import Derived.Laws.StructEq
import Derived.Test.YtafgknkcjohjeaaGreatDoorLibe
import Derived.Test.YtafgknkcjohjeaaGreatDoorMarke
namespace Go.Proofs.YtafgknkcjohjeaaGreatDoor
open Go Go.RowKit
set_option maxHeartbeats 8000000
structure PFeat where
 x:Int
 y:Int
 d:Int
 deriving DecidableEq
def pFeat:Ty PFeat:=(int64.prod (int64.prod int64)).via fun s=>(s.x,s.y,s.d)
theorem pFeat_rep {o:Bool} {w:World} {s:PFeat} {cs:List Value} {F:List Nat}:pFeat.rep o w s cs F↔cs=[.int .i64 s.x,.int .i64 s.y,.int .i64 s.d]∧F=[]∧I64 s.x∧I64 s.y∧I64 s.d:=by
 constructor
 · rintro ⟨_,_,_,_,rfl,rfl,⟨rfl,rfl,h0⟩,⟨_,_,_,_,rfl,rfl,⟨rfl,rfl,h1⟩,⟨rfl,rfl,h2⟩⟩⟩
   exact ⟨rfl,rfl,h0,h1,h2⟩
 · rintro ⟨rfl,rfl,h0,h1,h2⟩
   exact ⟨_,_,[],[],rfl,rfl,⟨rfl,rfl,h0⟩,⟨_,_,[],[],rfl,rfl,⟨rfl,rfl,h1⟩,⟨rfl,rfl,h2⟩⟩⟩
def pFeats (e:TypeId):Ty (List PFeat):=pFeat.slice e
theorem pFeats_open {o:Bool} {w:World} {e:TypeId} {xs:List PFeat} {v:Value} {F:List Nat} (h:(pFeats e).rep o w xs [v] F) :
 ∃ A c,v=.slice A xs.length c∧xs.length≤c∧c≤maxLen∧∀ k (hk:k < xs.length),∃ b off,A=some ⟨b,off,none⟩∧b < w.heap.size∧b∈F ∧
  w.cell? ⟨b,off+k * 3,none⟩=some (.int .i64 xs[k].x)∧w.cell? ⟨b,off+k * 3+1,none⟩=some (.int .i64 xs[k].y)∧w.cell? ⟨b,off+k * 3+2,none⟩=some (.int .i64 xs[k].d)∧I64 xs[k].x∧I64 xs[k].y∧I64 xs[k].d:=by
 obtain ⟨A,c,hv,h1,h2,h3⟩:=slice_open h;refine ⟨A,c,hv,h1,h2,fun k hk=>?_⟩;obtain ⟨b,off,ck,Fk,hA,hb,hin,hr,_,hc⟩:=h3 k hk;obtain ⟨rfl,rfl,i0,i1,i2⟩:=pFeat_rep.1 hr;exact ⟨b,off,hA,hb,hin,hc 0 _ rfl,by rw [Nat.add_assoc]; exact hc 1 _ rfl,by rw [Nat.add_assoc]; exact hc 2 _ rfl,i0,i1,i2⟩
def pFeatCells (s:PFeat):List Value:=[.int .i64 s.x,.int .i64 s.y,.int .i64 s.d]
def pFeatOk (s:PFeat):Prop:=I64 s.x∧I64 s.y∧I64 s.d
theorem repL_pFeat {o:Bool} {w:World}:∀ (xs:List PFeat),(∀ s∈xs,pFeatOk s)→repL pFeat o w xs (xs.flatMap pFeatCells) []
 | [],_=>⟨rfl,rfl⟩
 | s :: r,h=>⟨_,_,[],[],rfl,rfl,pFeat_rep.2 ⟨rfl,rfl,h s (by simp)⟩,repL_pFeat r (fun t ht=>h t (by simp [ht]))⟩
theorem repL_pFeat_inv {o:Bool} {w:World}:∀ {xs:List PFeat} {cs:List Value} {F:List Nat},repL pFeat o w xs cs F→cs=xs.flatMap pFeatCells∧F=[]
 | [],_,_,⟨rfl,rfl⟩=>⟨rfl,rfl⟩
 | s :: r,_,_,⟨c1,c2,F1,F2,rfl,rfl,h1,h2⟩=>by
   obtain ⟨rfl,rfl,_⟩:=pFeat_rep.1 h1;obtain ⟨rfl,rfl⟩:=repL_pFeat_inv h2;exact ⟨rfl,rfl⟩
structure PTemp where
 label:ByteArray
 feats:List PFeat
 deriving DecidableEq
def pTemp (ep:TypeId):Ty PTemp:=(str.prod (pFeats ep)).via fun t=>(t.label,t.feats)
def pTemps (ep e:TypeId):Ty (List PTemp):=(pTemp ep).slice e
theorem pTemp_rep {ep:TypeId} {o:Bool} {w:World} {t:PTemp} {cs:List Value} {F:List Nat}:(pTemp ep).rep o w t cs F↔∃ v,cs=[.string t.label,v]∧t.label.size≤maxLen∧(pFeats ep).rep o w t.feats [v] F:=by
 constructor
 · rintro ⟨c1,c2,F1,F2,rfl,rfl,⟨rfl,rfl,h1⟩,h2⟩
   obtain ⟨A,c,ec,F0,F3,rfl,_⟩:=id h2;exact ⟨_,rfl,h1,by simpa using h2⟩
 · rintro ⟨v,rfl,h1,h2⟩
   exact ⟨[.string t.label],[v],[],F,rfl,rfl,⟨rfl,rfl,h1⟩,h2⟩
theorem pTemps_open {ep:TypeId} {o:Bool} {w:World} {e:TypeId} {xs:List PTemp} {v:Value} {F:List Nat} (h:(pTemps ep e).rep o w xs [v] F) :
 ∃ A c,v=.slice A xs.length c∧xs.length≤c∧c≤maxLen∧∀ k (hk:k < xs.length),∃ b off u Fk,A=some ⟨b,off,none⟩∧b < w.heap.size∧b∈F ∧
  xs[k].label.size≤maxLen∧(pFeats ep).rep o w xs[k].feats [u] Fk∧(∀ x∈Fk,x∈F)∧w.cell? ⟨b,off+k * 2,none⟩=some (.string xs[k].label)∧w.cell? ⟨b,off+k * 2+1,none⟩=some u:=by
 obtain ⟨A,c,hv,h1,h2,h3⟩:=slice_open h;refine ⟨A,c,hv,h1,h2,fun k hk=>?_⟩;obtain ⟨b,off,ck,Fk,hA,hb,hin,hr,hF,hc⟩:=h3 k hk;obtain ⟨u,rfl,hl,hr2⟩:=pTemp_rep.1 hr;exact ⟨b,off,u,Fk,hA,hb,hin,hl,hr2,hF,hc 0 _ rfl,by rw [Nat.add_assoc]; exact hc 1 _ rfl⟩
theorem Row.onl {w w':World} {F:List Nat} {g:Nat} {e:TypeId} {cs:List Value} (h:Row w g e cs) (ho:Only F w w') (hg:g∉F):Row w' g e cs:=(ho.block g h.lt hg).trans h
theorem fresh_join {B N:Nat} {F G:List Nat} (h:Fresh B F) (hl:∀ x∈F,x < N) (k:Fresh N G) (hB:B≤N):Fresh B (F++G) :=
 ⟨List.nodup_append.2 ⟨h.1,k.1,fun x h1 y h2 e=>by subst e; have:=hl x h1; have:=k.2 x h2; omega⟩,fun x hx=>by
  rcases List.mem_append.1 hx with h1 | h1
  · exact h.2 x h1
  · have:=k.2 x h1; omega⟩
structure PEntry where
 word:ByteArray
 cost:Int
 deriving DecidableEq
def pEntry:Ty PEntry:=(str.prod int64).via fun s=>(s.word,s.cost)
theorem pEntry_rep {o:Bool} {w:World} {s:PEntry} {cs:List Value} {F:List Nat}:pEntry.rep o w s cs F↔cs=[.string s.word,.int .i64 s.cost]∧F=[]∧s.word.size≤maxLen∧I64 s.cost:=by
 constructor
 · rintro ⟨_,_,_,_,rfl,rfl,⟨rfl,rfl,h0⟩,⟨rfl,rfl,h1⟩⟩
   exact ⟨rfl,rfl,h0,h1⟩
 · rintro ⟨rfl,rfl,h0,h1⟩
   exact ⟨_,_,[],[],rfl,rfl,⟨rfl,rfl,h0⟩,⟨rfl,rfl,h1⟩⟩
def pEntrys (e:TypeId):Ty (List PEntry):=pEntry.slice e
theorem pEntrys_open {o:Bool} {w:World} {e:TypeId} {xs:List PEntry} {v:Value} {F:List Nat} (h:(pEntrys e).rep o w xs [v] F) :
 ∃ A c,v=.slice A xs.length c∧xs.length≤c∧c≤maxLen∧∀ k (hk:k < xs.length),∃ b off,A=some ⟨b,off,none⟩∧b < w.heap.size∧b∈F ∧
  w.cell? ⟨b,off+k * 2,none⟩=some (.string xs[k].word)∧w.cell? ⟨b,off+k * 2+1,none⟩=some (.int .i64 xs[k].cost)∧xs[k].word.size≤maxLen∧I64 xs[k].cost:=by
 obtain ⟨A,c,hv,h1,h2,h3⟩:=slice_open h;refine ⟨A,c,hv,h1,h2,fun k hk=>?_⟩;obtain ⟨b,off,ck,Fk,hA,hb,hin,hr,_,hc⟩:=h3 k hk;obtain ⟨rfl,rfl,i0,i1⟩:=pEntry_rep.1 hr;exact ⟨b,off,hA,hb,hin,hc 0 _ rfl,by rw [Nat.add_assoc]; exact hc 1 _ rfl,i0,i1⟩
def pEntryCells (s:PEntry):List Value:=[.string s.word,.int .i64 s.cost]
def pEntryOk (s:PEntry):Prop:=s.word.size≤maxLen∧I64 s.cost
theorem repL_pEntry {o:Bool} {w:World}:∀ (xs:List PEntry),(∀ s∈xs,pEntryOk s)→repL pEntry o w xs (xs.flatMap pEntryCells) []
 | [],_=>⟨rfl,rfl⟩
 | s :: r,h=>⟨_,_,[],[],rfl,rfl,pEntry_rep.2 ⟨rfl,rfl,h s (by simp)⟩,repL_pEntry r (fun t ht=>h t (by simp [ht]))⟩
theorem repL_pEntry_inv {o:Bool} {w:World}:∀ {xs:List PEntry} {cs:List Value} {F:List Nat},repL pEntry o w xs cs F→cs=xs.flatMap pEntryCells∧F=[]
 | [],_,_,⟨rfl,rfl⟩=>⟨rfl,rfl⟩
 | s :: r,_,_,⟨c1,c2,F1,F2,rfl,rfl,h1,h2⟩=>by
   obtain ⟨rfl,rfl,_⟩:=pEntry_rep.1 h1;obtain ⟨rfl,rfl⟩:=repL_pEntry_inv h2;exact ⟨rfl,rfl⟩
theorem pEntrys_ok {o:Bool} {w:World} {e:TypeId} {xs:List PEntry} {v:Value} {F:List Nat} (h:(pEntrys e).rep o w xs [v] F):∀ s∈xs,pEntryOk s:=by
 obtain ⟨_,_,_,_,_,hr⟩:=pEntrys_open h;intro s hs;obtain ⟨k,hk,rfl⟩:=List.getElem_of_mem hs;obtain ⟨_,_,_,_,_,_,_,h⟩:=hr k hk;exact h
structure PBigram where
 first:ByteArray
 second:ByteArray
 cost:Int
 deriving DecidableEq
def pBigram:Ty PBigram:=(str.prod (str.prod int64)).via fun s=>(s.first,s.second,s.cost)
theorem pBigram_rep {o:Bool} {w:World} {s:PBigram} {cs:List Value} {F:List Nat}:pBigram.rep o w s cs F↔cs=[.string s.first,.string s.second,.int .i64 s.cost]∧F=[]∧s.first.size≤maxLen∧s.second.size≤maxLen∧I64 s.cost:=by
 constructor
 · rintro ⟨_,_,_,_,rfl,rfl,⟨rfl,rfl,h0⟩,⟨_,_,_,_,rfl,rfl,⟨rfl,rfl,h1⟩,⟨rfl,rfl,h2⟩⟩⟩
   exact ⟨rfl,rfl,h0,h1,h2⟩
 · rintro ⟨rfl,rfl,h0,h1,h2⟩
   exact ⟨_,_,[],[],rfl,rfl,⟨rfl,rfl,h0⟩,⟨_,_,[],[],rfl,rfl,⟨rfl,rfl,h1⟩,⟨rfl,rfl,h2⟩⟩⟩
def pBigrams (e:TypeId):Ty (List PBigram):=pBigram.slice e
theorem pBigrams_open {o:Bool} {w:World} {e:TypeId} {xs:List PBigram} {v:Value} {F:List Nat} (h:(pBigrams e).rep o w xs [v] F) :
 ∃ A c,v=.slice A xs.length c∧xs.length≤c∧c≤maxLen∧∀ k (hk:k < xs.length),∃ b off,A=some ⟨b,off,none⟩∧b < w.heap.size∧b∈F ∧
  w.cell? ⟨b,off+k * 3,none⟩=some (.string xs[k].first)∧w.cell? ⟨b,off+k * 3+1,none⟩=some (.string xs[k].second)∧w.cell? ⟨b,off+k * 3+2,none⟩=some (.int .i64 xs[k].cost)∧xs[k].first.size≤maxLen∧xs[k].second.size≤maxLen∧I64 xs[k].cost:=by
 obtain ⟨A,c,hv,h1,h2,h3⟩:=slice_open h;refine ⟨A,c,hv,h1,h2,fun k hk=>?_⟩;obtain ⟨b,off,ck,Fk,hA,hb,hin,hr,_,hc⟩:=h3 k hk;obtain ⟨rfl,rfl,i0,i1,i2⟩:=pBigram_rep.1 hr;exact ⟨b,off,hA,hb,hin,hc 0 _ rfl,by rw [Nat.add_assoc]; exact hc 1 _ rfl,by rw [Nat.add_assoc]; exact hc 2 _ rfl,i0,i1,i2⟩
def pBigramCells (s:PBigram):List Value:=[.string s.first,.string s.second,.int .i64 s.cost]
def pBigramOk (s:PBigram):Prop:=s.first.size≤maxLen∧s.second.size≤maxLen∧I64 s.cost
theorem repL_pBigram {o:Bool} {w:World}:∀ (xs:List PBigram),(∀ s∈xs,pBigramOk s)→repL pBigram o w xs (xs.flatMap pBigramCells) []
 | [],_=>⟨rfl,rfl⟩
 | s :: r,h=>⟨_,_,[],[],rfl,rfl,pBigram_rep.2 ⟨rfl,rfl,h s (by simp)⟩,repL_pBigram r (fun t ht=>h t (by simp [ht]))⟩
theorem repL_pBigram_inv {o:Bool} {w:World}:∀ {xs:List PBigram} {cs:List Value} {F:List Nat},repL pBigram o w xs cs F→cs=xs.flatMap pBigramCells∧F=[]
 | [],_,_,⟨rfl,rfl⟩=>⟨rfl,rfl⟩
 | s :: r,_,_,⟨c1,c2,F1,F2,rfl,rfl,h1,h2⟩=>by
   obtain ⟨rfl,rfl,_⟩:=pBigram_rep.1 h1;obtain ⟨rfl,rfl⟩:=repL_pBigram_inv h2;exact ⟨rfl,rfl⟩
theorem pBigrams_ok {o:Bool} {w:World} {e:TypeId} {xs:List PBigram} {v:Value} {F:List Nat} (h:(pBigrams e).rep o w xs [v] F):∀ s∈xs,pBigramOk s:=by
 obtain ⟨_,_,_,_,_,hr⟩:=pBigrams_open h;intro s hs;obtain ⟨k,hk,rfl⟩:=List.getElem_of_mem hs;obtain ⟨_,_,_,_,_,_,_,_,h⟩:=hr k hk;exact h
structure PSetting where
 points:Int
 most:Int
 pen:Int
 deriving DecidableEq
structure PPoint where
 x:Int
 y:Int
 t:Int
 deriving DecidableEq
def pPoint:Ty PPoint:=(int64.prod (int64.prod int64)).via fun s=>(s.x,s.y,s.t)
theorem pPoint_rep {o:Bool} {w:World} {s:PPoint} {cs:List Value} {F:List Nat}:pPoint.rep o w s cs F↔cs=[.int .i64 s.x,.int .i64 s.y,.int .i64 s.t]∧F=[]∧I64 s.x∧I64 s.y∧I64 s.t:=by
 constructor
 · rintro ⟨_,_,_,_,rfl,rfl,⟨rfl,rfl,h0⟩,⟨_,_,_,_,rfl,rfl,⟨rfl,rfl,h1⟩,⟨rfl,rfl,h2⟩⟩⟩
   exact ⟨rfl,rfl,h0,h1,h2⟩
 · rintro ⟨rfl,rfl,h0,h1,h2⟩
   exact ⟨_,_,[],[],rfl,rfl,⟨rfl,rfl,h0⟩,⟨_,_,[],[],rfl,rfl,⟨rfl,rfl,h1⟩,⟨rfl,rfl,h2⟩⟩⟩
def pPoints (e:TypeId):Ty (List PPoint):=pPoint.slice e
theorem pPoints_open {o:Bool} {w:World} {e:TypeId} {xs:List PPoint} {v:Value} {F:List Nat} (h:(pPoints e).rep o w xs [v] F) :
 ∃ A c,v=.slice A xs.length c∧xs.length≤c∧c≤maxLen∧∀ k (hk:k < xs.length),∃ b off,A=some ⟨b,off,none⟩∧b < w.heap.size∧b∈F ∧
  w.cell? ⟨b,off+k * 3,none⟩=some (.int .i64 xs[k].x)∧w.cell? ⟨b,off+k * 3+1,none⟩=some (.int .i64 xs[k].y)∧w.cell? ⟨b,off+k * 3+2,none⟩=some (.int .i64 xs[k].t)∧I64 xs[k].x∧I64 xs[k].y∧I64 xs[k].t:=by
 obtain ⟨A,c,hv,h1,h2,h3⟩:=slice_open h;refine ⟨A,c,hv,h1,h2,fun k hk=>?_⟩;obtain ⟨b,off,ck,Fk,hA,hb,hin,hr,_,hc⟩:=h3 k hk;obtain ⟨rfl,rfl,i0,i1,i2⟩:=pPoint_rep.1 hr;exact ⟨b,off,hA,hb,hin,hc 0 _ rfl,by rw [Nat.add_assoc]; exact hc 1 _ rfl,by rw [Nat.add_assoc]; exact hc 2 _ rfl,i0,i1,i2⟩
def pPointCells (s:PPoint):List Value:=[.int .i64 s.x,.int .i64 s.y,.int .i64 s.t]
def pPointOk (s:PPoint):Prop:=I64 s.x∧I64 s.y∧I64 s.t
theorem repL_pPoint {o:Bool} {w:World}:∀ (xs:List PPoint),(∀ s∈xs,pPointOk s)→repL pPoint o w xs (xs.flatMap pPointCells) []
 | [],_=>⟨rfl,rfl⟩
 | s :: r,h=>⟨_,_,[],[],rfl,rfl,pPoint_rep.2 ⟨rfl,rfl,h s (by simp)⟩,repL_pPoint r (fun t ht=>h t (by simp [ht]))⟩
theorem repL_pPoint_inv {o:Bool} {w:World}:∀ {xs:List PPoint} {cs:List Value} {F:List Nat},repL pPoint o w xs cs F→cs=xs.flatMap pPointCells∧F=[]
 | [],_,_,⟨rfl,rfl⟩=>⟨rfl,rfl⟩
 | s :: r,_,_,⟨c1,c2,F1,F2,rfl,rfl,h1,h2⟩=>by
   obtain ⟨rfl,rfl,_⟩:=pPoint_rep.1 h1;obtain ⟨rfl,rfl⟩:=repL_pPoint_inv h2;exact ⟨rfl,rfl⟩
theorem pPoints_ok {o:Bool} {w:World} {e:TypeId} {xs:List PPoint} {v:Value} {F:List Nat} (h:(pPoints e).rep o w xs [v] F):∀ s∈xs,pPointOk s:=by
 obtain ⟨_,_,_,_,_,hr⟩:=pPoints_open h;intro s hs;obtain ⟨k,hk,rfl⟩:=List.getElem_of_mem hs;obtain ⟨_,_,_,_,_,_,_,_,h⟩:=hr k hk;exact h
abbrev PStroke:=List PPoint
def pStroke (ep:TypeId):Ty PStroke:=pPoints ep
def pStrokes (ep e:TypeId):Ty (List PStroke):=(pStroke ep).slice e
theorem pStroke_one {ep:TypeId} {o:Bool} {w:World} {xs:PStroke} {cs:List Value} {F:List Nat} (h:(pStroke ep).rep o w xs cs F):∃ v,cs=[v]:=by
 obtain ⟨A,c,ec,F0,F1,rfl,_⟩:=h;exact ⟨_,rfl⟩
theorem pStrokes_open {ep:TypeId} {o:Bool} {w:World} {e:TypeId} {xs:List PStroke} {v:Value} {F:List Nat} (h:(pStrokes ep e).rep o w xs [v] F) :
 ∃ A c,v=.slice A xs.length c∧xs.length≤c∧c≤maxLen∧∀ k (hk:k < xs.length),∃ b off u Fk,A=some ⟨b,off,none⟩∧b < w.heap.size∧b∈F ∧
  (pPoints ep).rep o w xs[k] [u] Fk∧(∀ x∈Fk,x∈F)∧w.cell? ⟨b,off+k,none⟩=some u:=by
 obtain ⟨A,c,hv,h1,h2,h3⟩:=slice_open h;refine ⟨A,c,hv,h1,h2,fun k hk=>?_⟩;obtain ⟨b,off,ck,Fk,hA,hb,hin,hr,hF,hc⟩:=h3 k hk;obtain ⟨u,rfl⟩:=pStroke_one hr;have h0:=hc 0 _ rfl;rw [show k * (pStroke ep).size+0=k from Nat.mul_one k] at h0;exact ⟨b,off,u,Fk,hA,hb,hin,hr,hF,h0⟩
structure PSetup where
 band:Int
 temps:List PTemp
 points:Int
 most:Int
 pen:Int
 entries:List PEntry
 dflt:Int
 bigrams:List PBigram
 pause:Int
 deriving DecidableEq
structure PSess where
 setup:PSetup
 strokes:List PStroke
 opn:List PPoint
 time:Int
 words:List ByteArray
 deriving DecidableEq
structure SeSmall (p:PSetup):Prop where
 t:p.temps.length≤1048576
 f:∀ l∈p.temps,l.feats.length≤1048576
 e:p.entries.length≤1048576
 b:p.bigrams.length≤1048576
structure SsSmall (q:PSess):Prop where
 s:SeSmall q.setup
 i:q.strokes.length≤1048576
 j:∀ l∈q.strokes,l.length≤1048576
 o:q.opn.length≤1048576
 w:q.words.length≤1048576
section
variable {K:Type} [DecidableEq K] (lt:K→K→Bool)
structure STO:Prop where
 irr:∀ a,lt a a=false
 tr:∀ a b c,lt a b=true→lt b c=true→lt a c=true
 tot:∀ a b,lt a b=false→lt b a=false→a=b
variable {lt}
omit [DecidableEq K] in
theorem STO.asym (h:STO lt) {a b:K} (h1:lt a b=true):lt b a=false:=by
 cases h2:lt b a with
 | false=>rfl
 | true=>have:=h.tr _ _ _ h1 h2; rw [h.irr] at this; cases this
omit [DecidableEq K] in
theorem STO.ne (h:STO lt) {a b:K} (h1:lt a b=true):a≠b:=fun e=>by rw [e,h.irr] at h1; cases h1
omit [DecidableEq K] in
theorem STO.cases (h:STO lt) (a b:K):(lt a b=true∧lt b a=false∧a≠b∧b≠a)∨a=b∨(lt a b=false∧lt b a=true∧a≠b∧b≠a):=by
 cases h1:lt a b with
 | true=>exact .inl ⟨rfl,h.asym h1,h.ne h1,(h.ne h1).symm⟩
 | false =>
   cases h2:lt b a with
   | true=>exact .inr (.inr ⟨rfl,rfl,(h.ne h2).symm,h.ne h2⟩)
   | false=>exact .inr (.inl (h.tot _ _ h1 h2))
omit [DecidableEq K] in
end
theorem bl_irr:∀ l:List UInt8,Op.bytesLess l l=false
 | []=>rfl
 | a :: l=>by simp [Op.bytesLess,bl_irr l]
theorem bl_tr:∀ x y z:List UInt8,Op.bytesLess x y=true→Op.bytesLess y z=true→Op.bytesLess x z=true
 | _,[],_,h,_=>by cases ‹List UInt8› <;> simp [Op.bytesLess] at h
 | _,_ :: _,[],_,h=>by simp [Op.bytesLess] at h
 | [],_ :: _,_ :: _,_,_=>rfl
 | a :: x,b :: y,c :: z,h1,h2=>by
   simp only [Op.bytesLess,Bool.or_eq_true,Bool.and_eq_true,decide_eq_true_eq,beq_iff_eq] at h1 h2 ⊢;rcases h1 with h1 | ⟨rfl,h1⟩
   · rcases h2 with h2 | ⟨rfl,h2⟩
     · exact .inl (UInt8.lt_trans h1 h2)
     · exact .inl h1
   · rcases h2 with h2 | ⟨rfl,h2⟩
     · exact .inl h2
     · exact .inr ⟨rfl,bl_tr x y z h1 h2⟩
theorem bl_tot:∀ x y:List UInt8,Op.bytesLess x y=false→Op.bytesLess y x=false→x=y
 | [],[],_,_=>rfl
 | [],_ :: _,h,_=>by simp [Op.bytesLess] at h
 | _ :: _,[],_,h=>by simp [Op.bytesLess] at h
 | a :: x,b :: y,h1,h2=>by
   simp only [Op.bytesLess,Bool.or_eq_false_iff,decide_eq_false_iff_not] at h1 h2
   have e:a=b:=by
    have l1:=UInt8.not_lt.1 h1.1;have l2:=UInt8.not_lt.1 h2.1;exact UInt8.le_antisymm l2 l1
   subst e;rw [bl_tot x y (by simpa using h1.2) (by simpa using h2.2)]
def bLess (a b:ByteArray):Bool:=Op.bytesLess a.toList b.toList
theorem toList_inj {a b:ByteArray} (h:a.toList=b.toList):a=b:=by
 have:=str_eq a b;rw [h] at this
 simpa using this.symm
theorem bLess_sto:STO bLess:=⟨fun _=>bl_irr _,fun _ _ _=>bl_tr _ _ _,fun _ _ h1 h2=>toList_inj (bl_tot _ _ h1 h2)⟩
abbrev CKey:=ByteArray × ByteArray
def cLess (x y:CKey):Bool:=bLess x.1 y.1 || (decide (x.1=y.1) && bLess x.2 y.2)
theorem cLess_sto:STO cLess:=by
 refine ⟨fun a=>by simp [cLess,bLess_sto.irr],fun a b c h1 h2=>?_,fun a b h1 h2=>?_⟩
 · simp only [cLess,Bool.or_eq_true,Bool.and_eq_true,decide_eq_true_eq] at h1 h2 ⊢
   rcases h1 with h1 | ⟨e1,h1⟩
   · rcases h2 with h2 | ⟨e2,h2⟩
     · exact .inl (bLess_sto.tr _ _ _ h1 h2)
     · exact .inl (e2 ▸ h1)
   · rcases h2 with h2 | ⟨e2,h2⟩
     · exact .inl (e1 ▸ h2)
     · exact .inr ⟨e1.trans e2,bLess_sto.tr _ _ _ h1 h2⟩
 · simp only [cLess,Bool.or_eq_false_iff,Bool.and_eq_false_iff,decide_eq_false_iff_not] at h1 h2
   have e1:=bLess_sto.tot _ _ h1.1 h2.1;have e2:=bLess_sto.tot _ _ (h1.2.resolve_left (fun h=>h e1)) (h2.2.resolve_left (fun h=>h e1.symm));exact Prod.ext e1 e2
def cmpF (x y:ByteArray):Int:=if bLess x y then -1 else if bLess y x then 1 else 0
def GivesB (b:Bool) (w:World) (e:Ending) (w':World):Prop:=e=.returned (.bool b)∧∃ n,w'=w.drewN n
theorem ret_boolI {a b:Bool} (h:a=b):Ending.returned (.bool a)=.returned (.bool b):=by rw [h]
def inR (n lo hi:Int):Bool:=decide (lo≤n) && decide (n≤hi)
theorem spec_inR_c (n lo hi:Int) (w:World) :
 Calls Tryz.prog 28 #[.int .i64 n,.int .i64 lo,.int .i64 hi] w fun e w'=>e=.returned (.bool (inR n lo hi))∧w=w':=by
 by_cases h:lo≤n
 · have g:decide (lo≤n)=true:=by simpa using h
   go_enter Tryz.func28,Tryz.ntmps28
   go_wp2_with fail
   all_goals go_ret
   all_goals exact ⟨ret_boolI (by simp [inR, *]),rfl⟩
 · have g:decide (lo≤n)=false:=by simpa using h
   go_enter Tryz.func28,Tryz.ntmps28
   go_wp2_with fail
   all_goals go_ret
   all_goals exact ⟨ret_boolI (by simp [inR, *]),rfl⟩
theorem impl_inR_c (n lo hi:Int) (w:World) :
 Calls Tryz.prog 39 #[.int .i64 n,.int .i64 lo,.int .i64 hi] w fun e w'=>e=.returned (.bool (inR n lo hi))∧w=w':=by
 by_cases h:lo≤n
 · have g:decide (lo≤n)=true:=by simpa using h
   go_enter Tryz.func39,Tryz.ntmps39
   go_wp2_with fail
   all_goals go_ret
   all_goals exact ⟨ret_boolI (by simp [inR, *]),rfl⟩
 · have g:decide (lo≤n)=false:=by simpa using h
   go_enter Tryz.func39,Tryz.ntmps39
   go_wp2_with fail
   all_goals go_ret
   all_goals exact ⟨ret_boolI (by simp [inR, *]),rfl⟩
theorem impl_isCoord_c (n:Int) (w:World) :
 Calls Tryz.prog 38 #[.int .i64 n] w fun e w'=>e=.returned (.bool (inR n 0 4095))∧w=w':=by
 have C:=impl_inR_c n 0 4095;generalize inR n 0 4095=b at C;have HC:=Lib.hid C;clear C
 go_enter Tryz.func38,Tryz.ntmps38
 go_wp2_with fail
 refine (HC.out _).mono ?_;rintro e w1 ⟨rfl,rfl⟩
 go_wp2_with fail
 go_ret;exact ⟨rfl,rfl⟩
def pointB (p:PPoint):Bool:=inR p.x 0 4095 && (inR p.y 0 4095 && inR p.t 0 3600000)
theorem spec_l02Point_c (p:PPoint) (w:World) :
 Calls Tryz.prog 29 #[.agg #[.int .i64 p.x,.int .i64 p.y,.int .i64 p.t]] w fun e w'=>e=.returned (.bool (pointB p))∧w'=w.alloc (.cells #[.int .i64 p.x,.int .i64 p.y,.int .i64 p.t] 85):=by
 have CX:=spec_inR_c p.x 0 4095;have CY:=spec_inR_c p.y 0 4095;have CT:=spec_inR_c p.t 0 3600000;unfold pointB;generalize inR p.x 0 4095=bx at CX ⊢;generalize inR p.y 0 4095=cy at CY ⊢;generalize inR p.t 0 3600000=dt at CT ⊢;have HX:=Lib.hid CX;have HY:=Lib.hid CY;have HT:=Lib.hid CT;clear CX CY CT;cases bx <;> cases cy
 all_goals
  go_enter Tryz.func29,Tryz.ntmps29
  go_wp2_with (first | (go_at_call_of 28 (Value.int .i64 p.x); refine (HX.out _).mono ?_; rintro e w1 ⟨rfl,rfl⟩) | (go_at_call_of 28 (Value.int .i64 p.y); refine (HY.out _).mono ?_; rintro e w1 ⟨rfl,rfl⟩) | (go_at_call_of 28 (Value.int .i64 p.t); refine (HT.out _).mono ?_; rintro e w1 ⟨rfl,rfl⟩))
  go_ret;exact ⟨rfl,rfl⟩
def pt (s:PStroke) (k:Nat):PPoint:=s.getD k ⟨0,0,0⟩
theorem pt_get {s:PStroke} {k:Nat} (h:k < s.length):pt s k=s[k]:=by simp [pt,List.getD_eq_getElem?_getD,List.getElem?_eq_getElem h]
def ptOk (s:PStroke) (k:Nat):Bool:=pointB (pt s k) && (decide (k=0) || decide ((pt s (k - 1)).t < (pt s k).t))
def ptsOk (s:PStroke):Nat→Bool
 | 0=>true
 | k+1=>ptsOk s k && ptOk s k
theorem ptsOk_get {s:PStroke}:∀ {n k:Nat},ptsOk s n=true→k < n→ptOk s k=true
 | 0,_,_,hk=>by omega
 | n+1,k,h,hk=>by
   simp only [ptsOk,Bool.and_eq_true] at h
   by_cases e:k=n
   · subst e; exact h.2
   · exact ptsOk_get h.1 (by omega)
def strokeB (s:PStroke):Bool:=ptsOk s s.length && (decide (1≤s.length) && decide (s.length≤60))
theorem step_call {P:Program} {ops:Array Oper} {o:Oper} {a:Act} {w:World} {K:Act→World→Prop} {Q:Exit→Act→World→Prop} {E:Prop} {R:Ending→World→Prop}
 (f:FuncId) (xs:Array Operand) (ts:Array TypeId) (ho:o.op=.call { callee:=.value (.func f),args:=xs,argTypes:=ts })
 (hw:Region.wanted o (yielded ops a.tmps)=true) (av:Array Value) (hcall:∀ args w,(callFunc f args).run P w=.ok (.enter f args) w) (hx:xs.map a.eval=av)
 (hC:Calls P f av w R) (hK:∀ e w',R e w'→∃ v,e=.returned v∧K (a.put o.dst v) w') :
 if Region.wanted o (yielded ops a.tmps)=true then Oper.wp P o a w K Q else E:=by
 rw [if_pos hw];unfold Oper.wp execOp;simp only [ho,resolve,invoke,Sem.run_bind];have he:a.eval (.func f)=.func (.func f) #[] #[]:=rfl;rw [he,hx];simp only [Deferred.ofValue,Sem.run_pure,Result.andThen_ok,Array.append_empty,hcall];rw [Oper.upon_enter,Array.empty_append];refine hC.mono fun e w' hr=>?_
 obtain ⟨v,rfl,hk⟩:=hK e w' hr;exact hk
def firstT (s:PStroke):Int:=(pt s 0).t
def lastT (s:PStroke):Int:=(pt s (s.length - 1)).t
def strk (xs:List PStroke) (k:Nat):PStroke:=xs.getD k []
theorem strk_get {xs:List PStroke} {k:Nat} (h:k < xs.length):strk xs k=xs[k]:=by simp [strk,List.getD_eq_getElem?_getD,List.getElem?_eq_getElem h]
def stOk (xs:List PStroke) (k:Nat):Bool:=strokeB (strk xs k) && (decide (k=0) || decide (lastT (strk xs (k - 1)) < firstT (strk xs k)))
def stsOk (xs:List PStroke):Nat→Bool
 | 0=>true
 | k+1=>stsOk xs k && stOk xs k
theorem stsOk_get {xs:List PStroke}:∀ {n k:Nat},stsOk xs n=true→k < n→stOk xs k=true
 | 0,_,_,hk=>by omega
 | n+1,k,h,hk=>by
   simp only [stsOk,Bool.and_eq_true] at h
   by_cases e:k=n
   · subst e; exact h.2
   · exact stsOk_get h.1 (by omega)
def inkB (xs:List PStroke):Bool:=stsOk xs xs.length && decide (xs.length≤16)
theorem stOk_stroke {xs:List PStroke} {k:Nat} (hk:k < xs.length) (h:stOk xs k=true):strokeB xs[k]=true:=by
 unfold stOk at h;rw [strk_get hk] at h;simp only [Bool.and_eq_true] at h;exact h.1
structure PEvent where
 kind:Int
 x:Int
 y:Int
 t:Int
 deriving DecidableEq
def pEvent:Ty PEvent:=(int64.prod (int64.prod (int64.prod int64))).via fun s=>(s.kind,s.x,s.y,s.t)
theorem pEvent_rep {o:Bool} {w:World} {s:PEvent} {cs:List Value} {F:List Nat}:pEvent.rep o w s cs F↔cs=[.int .i64 s.kind,.int .i64 s.x,.int .i64 s.y,.int .i64 s.t]∧F=[]∧I64 s.kind∧I64 s.x∧I64 s.y∧I64 s.t:=by
 constructor
 · rintro ⟨_,_,_,_,rfl,rfl,⟨rfl,rfl,h0⟩,⟨_,_,_,_,rfl,rfl,⟨rfl,rfl,h1⟩,⟨_,_,_,_,rfl,rfl,⟨rfl,rfl,h2⟩,⟨rfl,rfl,h3⟩⟩⟩⟩
   exact ⟨rfl,rfl,h0,h1,h2,h3⟩
 · rintro ⟨rfl,rfl,h0,h1,h2,h3⟩
   exact ⟨_,_,[],[],rfl,rfl,⟨rfl,rfl,h0⟩,⟨_,_,[],[],rfl,rfl,⟨rfl,rfl,h1⟩,⟨_,_,[],[],rfl,rfl,⟨rfl,rfl,h2⟩,⟨rfl,rfl,h3⟩⟩⟩⟩
def pEvents (e:TypeId):Ty (List PEvent):=pEvent.slice e
theorem pEvents_open {o:Bool} {w:World} {e:TypeId} {xs:List PEvent} {v:Value} {F:List Nat} (h:(pEvents e).rep o w xs [v] F) :
 ∃ A c,v=.slice A xs.length c∧xs.length≤c∧c≤maxLen∧∀ k (hk:k < xs.length),∃ b off,A=some ⟨b,off,none⟩∧b < w.heap.size∧b∈F ∧
  w.cell? ⟨b,off+k * 4,none⟩=some (.int .i64 xs[k].kind)∧w.cell? ⟨b,off+k * 4+1,none⟩=some (.int .i64 xs[k].x)∧w.cell? ⟨b,off+k * 4+2,none⟩=some (.int .i64 xs[k].y)∧w.cell? ⟨b,off+k * 4+3,none⟩=some (.int .i64 xs[k].t)∧I64 xs[k].kind∧I64 xs[k].x∧I64 xs[k].y∧I64 xs[k].t:=by
 obtain ⟨A,c,hv,h1,h2,h3⟩:=slice_open h;refine ⟨A,c,hv,h1,h2,fun k hk=>?_⟩;obtain ⟨b,off,ck,Fk,hA,hb,hin,hr,_,hc⟩:=h3 k hk;obtain ⟨rfl,rfl,i0,i1,i2,i3⟩:=pEvent_rep.1 hr;exact ⟨b,off,hA,hb,hin,hc 0 _ rfl,by rw [Nat.add_assoc]; exact hc 1 _ rfl,by rw [Nat.add_assoc]; exact hc 2 _ rfl,by rw [Nat.add_assoc]; exact hc 3 _ rfl,i0,i1,i2,i3⟩
def pEventCells (s:PEvent):List Value:=[.int .i64 s.kind,.int .i64 s.x,.int .i64 s.y,.int .i64 s.t]
def pEventOk (s:PEvent):Prop:=I64 s.kind∧I64 s.x∧I64 s.y∧I64 s.t
theorem repL_pEvent {o:Bool} {w:World}:∀ (xs:List PEvent),(∀ s∈xs,pEventOk s)→repL pEvent o w xs (xs.flatMap pEventCells) []
 | [],_=>⟨rfl,rfl⟩
 | s :: r,h=>⟨_,_,[],[],rfl,rfl,pEvent_rep.2 ⟨rfl,rfl,h s (by simp)⟩,repL_pEvent r (fun t ht=>h t (by simp [ht]))⟩
def CellsAt (w:World) (A:Option Addr) (cs:List Value):Prop:=0 < cs.length→∃ b off,A=some ⟨b,off,none⟩∧∀ j u,cs[j]?=some u→w.cell? ⟨b,off+j,none⟩=some u
theorem cellsAt_new (w:World) (e:TypeId) (cs:List Value):CellsAt (w.alloc (.cells cs.toArray e)) (some ⟨w.heap.size,0,none⟩) cs :=
 fun _=>⟨w.heap.size,0,rfl,fun j u hu=>by
  have R:=Row.new w e cs.toArray;rw [Nat.zero_add];exact R.cell' (by simpa using hu)⟩
theorem grown_only {w w':World} {v:Value} {F:List Nat} (hg:w.grownBy w' v.ownBlock) (hF:∀ g,v.ownBlock=some g→g∈F):Only F w w' :=
 ⟨hg.os,hg.tape,hg.output,hg.size,fun k hk hn=>hg.block k hk (fun e=>hn (hF k e.symm))⟩
section
variable {P:Program} {α:Type} {T:Ty α} {t e:TypeId} {z:Value} {bytes:Nat} {w:World} {xs ys:List α} {v:Value} {F Fy:List Nat} {A:Option Addr} {c:Nat} {ec:List Value}
theorem run_append_repX (ty:TypeId) (ht:P.underlying t=some (.slice e)) (hi:(P.info? e).map (fun i=>(i.zero,i.size,i.bytes))=some (some z,T.size,bytes)) (hz:z.cells.size=T.size) (h0:0 < T.size)
 (hr:(T.slice e).rep true w xs [v] F) (hy:repL T true w ys ec Fy) (hat:CellsAt w A ec) (_:True) (hnd:(F++Fy).Nodup)
 (h63:xs.length+ys.length≤maxLen) (hb:(xs.length+ys.length) * bytes≤140737488355328) :
 ∃ v' w' F',(Builtin.append_ #[t,t] ty #[v,.slice A ys.length c]).run P w=.ok v' w'∧(T.slice e).rep true w' (xs++ys) [v'] F'∧Only F w w'∧(∀ B,Fresh B (F++Fy)→B≤w.heap.size→Fresh B F')∧((∀ b∈F',b∈F++Fy∨w.heap.size≤b)∧Only v.ownBlock.toList w w'∧∀ b∈v'.ownBlock.toList,b∈v.ownBlock.toList∨w.heap.size≤b):=by
 obtain ⟨i,hi1,hz1,hi2,hi3⟩:=info_parts hi;obtain ⟨a0,c0,ex,F0,F1,hv,rfl,hl,hc,hx,hlt,hax,ho⟩:=hr;simp only [List.cons.injEq,and_true] at hv;subst hv;obtain ⟨hown,hF0⟩:=ho rfl;have hin0:∀ g,(Value.slice a0 xs.length c0).ownBlock=some g→g∈F0:=fun g hg=>by rw [hF0,hg]; simp
 by_cases hne:A=none
 · subst hne
   have hc0:(Builtin.append_ #[t,t] ty #[.slice a0 xs.length c0,.slice none ys.length c]).run P w=(Builtin.append_ #[t,t] ty #[.slice a0 xs.length c0,.slice none ys.length 0]).run P w:=rfl;rw [hc0]
   have hec:ec=[]:=by
    by_cases h:0 < ec.length
    · obtain ⟨b,off,h1,_⟩:=hat h
      cases h1
    · exact List.eq_nil_of_length_eq_zero (by omega)
   have hys:ys=[]:=by
    have h1:=repL_len hy;rw [hec] at h1
    have:ys.length=0:=by
     rcases Nat.eq_zero_or_pos ys.length with h | h
     · exact h
     · have:=Nat.mul_pos h h0
       simp at h1; omega
    exact List.eq_nil_of_length_eq_zero this
   subst hys;refine ⟨_,w,F0++F1,run_append_owned_none (P:=P) w 0 t ty e i T.size ht hi1 _ xs.length ex hown,?_,Only.refl _ _,fun B hB _=>⟨(List.nodup_append.1 hB.1).1,fun b hb=>hB.2 b (List.mem_append.2 (.inl hb))⟩,fun b hb=>.inl (List.mem_append.2 (.inl hb)),Only.refl _ _,fun b hb=>.inl hb⟩;rw [List.append_nil];exact ⟨a0,c0,ex,F0,F1,rfl,rfl,hl,hc,hx,hlt,hax,ho⟩
 · obtain ⟨ad,rfl⟩:∃ ad,A=some ad:=by cases A with | none=>exact absurd rfl hne | some ad=>exact ⟨ad,rfl⟩
   have hnews:∀ j u,ec[j]?=some u→w.cell? (ad.add j)=some u:=by
    intro j u hu;have hj:j < ec.length:=(List.getElem?_eq_some_iff.1 hu).1;obtain ⟨b,off,h1,h2⟩:=hat (by omega);injection h1 with h1
    subst h1;have e1:((⟨b,off,none⟩:Addr).add j)=⟨b,off+j,none⟩:=by unfold Addr.add; split <;> simp_all
    rw [e1];exact h2 j u hu
   obtain ⟨v',w',hrun,h2,h3,h4,h5⟩:=run_append_own_at (P:=P) w 0 t ty e i z T.size bytes ht hi1 hz1 hi2 hi3 hz h0 _ xs.length ex hown ad ys.length c ec (repL_len hy) hnews (repL_one hy) h63 hb (Nat.zero_le _);have hon:Only F0 w w':=grown_only h3 hin0
   have hd:∀ b∈F1++Fy,b∉F0:=by
    intro b hb hb0;rw [List.append_assoc] at hnd;exact (List.nodup_append.1 hnd).2.2 b hb0 b hb rfl
   have kx:repL T true w' xs ex F1:=repL_kept hx fun b hb=>hon.block b (repL_lt hx b hb) (hd b (by simp [hb]))
   have ky:repL T true w' ys ec Fy:=repL_kept hy fun b hb=>hon.block b (repL_lt hy b hb) (hd b (by simp [hb]))
   -- what the new value looks like
   have hform:∃ A' c',v'=.slice A' (xs.length+ys.length) c'∧xs.length+ys.length≤c'∧c'≤maxLen:=by
    rcases h2.2 with ⟨h,hn⟩ | ⟨g,cap,cur,h,_,_,hn,hm,_⟩
    · exact ⟨none,0,by rw [h,hn],by omega,Nat.zero_le _⟩
    · exact ⟨_,cap,h,hn,hm⟩
   obtain ⟨A',c',rfl,hnc,hcm⟩:=hform
   have hlt':∀ b∈((Value.slice A' (xs.length+ys.length) c').ownBlock).toList,b < w'.heap.size:=by
    intro b hb;exact (h2.lt b (by simpa using hb)).2
   refine ⟨_,w',((Value.slice A' (xs.length+ys.length) c').ownBlock).toList++(F1++Fy),hrun,⟨A',c',ex++ec,_,F1++Fy,by rw [List.length_append],rfl,by rw [List.length_append]; exact hnc,hcm,repL_append kx ky,hlt',?_,fun _=>⟨by rw [List.length_append]; exact h2,by rw [List.length_append]⟩⟩,hon.mono (fun x hx=>by simp [hx]),?_,?_,by rw [← hF0]; exact hon,fun b hb=>by
    rcases h5 with h | h
    · rw [h] at hb; exact .inl hb
    · rw [h] at hb; simp at hb; exact .inr (by omega)⟩
   · intro hpos
     rw [List.length_append] at hpos;rcases h2.2 with ⟨h,hn⟩ | ⟨g,cap,cur,h,_,hh,hn,hm,hcs,htk⟩
     · omega
     · injection h with h1 _ h3'
       subst h1;refine ⟨g,0,rfl,by simp [Value.ownBlock],fun j u hu=>?_⟩;have hj:j < (ex++ec).length:=(List.getElem?_eq_some_iff.1 hu).1;rw [Nat.zero_add];simp only [World.cell?,hh];have hlen:(ex++ec).length=(xs.length+ys.length) * T.size:=h2.1;rw [← htk] at hu;rw [List.getElem?_take_of_lt (by omega)] at hu
       simpa using hu
   · intro B hB hBs
     obtain ⟨hB1,hB2⟩:=hB;rw [List.append_assoc] at hB1;have hsplit:=List.nodup_append.1 hB1;rcases h5 with h | h
     · rw [h,← hF0]
       exact ⟨by rw [← List.append_assoc]; rw [← List.append_assoc] at hB1; exact hB1,fun b hb=>hB2 b (by rw [List.append_assoc]; exact hb)⟩
     · rw [h]
       refine ⟨?_,?_⟩
       · show (w.heap.size :: (F1++Fy)).Nodup
         rw [List.nodup_cons];refine ⟨fun hin=>?_,hsplit.2.1⟩;rcases List.mem_append.1 hin with h6 | h6
         · exact absurd (repL_lt hx _ h6) (by omega)
         · exact absurd (repL_lt hy _ h6) (by omega)
       · intro b hb
         simp only [Option.toList_some,List.singleton_append,List.mem_cons] at hb;rcases hb with rfl | hb
         · exact hBs
         · exact hB2 b (by rw [List.append_assoc]; exact List.mem_append.2 (.inr hb))
   · intro b hb
     rcases h5 with h | h
     · rw [h,← hF0] at hb
       exact .inl (by simpa using hb)
     · rw [h] at hb
       simp only [Option.toList_some,List.singleton_append,List.mem_cons] at hb;rcases hb with rfl | hb
       · exact .inr (Nat.le_refl _)
       · exact .inl (by simp only [List.mem_append] at hb ⊢; rcases hb with hb | hb <;> simp [hb])
theorem wpList_append_repX {ops:Array Oper} {rest:List Oper} {o:Oper} {a:Act} {Q:Exit→Act→World→Prop} (hgd:o.guard=none) (s x:Operand)
 (ho:o.op=.call { callee:=.builtin .append,args:=#[s,x],argTypes:=#[t,t] })
 (ht:P.underlying t=some (.slice e)) (hi:(P.info? e).map (fun i=>(i.zero,i.size,i.bytes))=some (some z,T.size,bytes)) (hz:z.cells.size=T.size) (h0:0 < T.size)
 (hs:a.eval s=v) (hr:(T.slice e).rep true w xs [v] F) (hx:a.eval x=.slice A ys.length c) (hy:repL T true w ys ec Fy) (hat:CellsAt w A ec) (hA:True) (hnd:(F++Fy).Nodup)
 (h63:xs.length+ys.length≤maxLen) (hb:(xs.length+ys.length) * bytes≤140737488355328)
 (h:∀ v' w' F',(T.slice e).rep true w' (xs++ys) [v'] F'→Only F w w'→(∀ B,Fresh B (F++Fy)→B≤w.heap.size→Fresh B F')→((∀ b∈F',b∈F++Fy∨w.heap.size≤b)∧Only v.ownBlock.toList w w'∧∀ b∈v'.ownBlock.toList,b∈v.ownBlock.toList∨w.heap.size≤b)→wpList P ops Q rest (a.put o.dst v') w'):wpList P ops Q (o :: rest) a w:=by
 refine wpList_plain hgd fun K hK=>?_
 obtain ⟨v',w',F',hrun,h2,h3,h4,h5⟩:=run_append_repX (P:=P) (c:=c) o.type ht hi hz h0 hr hy hat hA hnd h63 hb;unfold Oper.wp execOp;simp only [ho,resolve,invoke,builtin,Sem.run_bind,Sem.run_pure,Result.andThen_ok,List.map_toArray,List.map_cons,List.map_nil,hs,hx,hrun];exact hK _ _ (h v' w' F' h2 h3 h4 h5)
end
end Go.Proofs.YtafgknkcjohjeaaGreatDoor

/- Ink: the events of ink, plainly, and the program's walk. Conditions: none. -/
import Derived.Test.YtafgknkcjohjeaaGreatDoorTyFeate
import Derived.Deep.RegionHeld3
import Derived.Test.YtafgknkcjohjeaaGreatDoorLibe
import Derived.Test.YtafgknkcjohjeaaGreatDoorRows
import Derived.Shelf.Strings.Search1
import Derived.Shelf.Strings.Search2
import Derived.Shelf.Strings.Search3
import Derived.Test.YtafgknkcjohjeaaGreatDoorProg
import Derived.Test.YtafgknkcjohjeaaGreatDoorStrSe
namespace Go.Proofs.YtafgknkcjohjeaaGreatDoor
open Go Go.RowKit
theorem strokeB_len {s:PStroke} (h:strokeB s=true):s.length≤60:=by
 simp only [strokeB,Bool.and_eq_true,decide_eq_true_eq] at h;omega
theorem inkB_stroke {xs:List PStroke} (h:inkB xs=true) {k:Nat} (hk:k < xs.length):strokeB xs[k]=true:=by
 simp only [inkB,Bool.and_eq_true] at h;exact stOk_stroke hk (stsOk_get h.1 hk)
theorem inkB_few {xs:List PStroke} (h:inkB xs=true):xs.length≤16:=by
 simp only [inkB,Bool.and_eq_true,decide_eq_true_eq] at h;exact h.2
theorem only_cell {F:List Nat} {a b:World} (h:Only F a b) {g i:Nat} (hg:g < a.heap.size) (hn:g∉F):b.cell? ⟨g,i,none⟩=a.cell? ⟨g,i,none⟩:=by
 have:=h.block g hg hn;simp [World.cell?,this]
def labelC (n:Int):Bool:=(decide (97≤n) && decide (n≤122)) || ((decide (48≤n) && decide (n≤57)) || decide (n=43∨n=45∨n=42∨n=47∨n=61∨n=40∨n=41∨n=46∨n=44))
def labelB (s:ByteArray):Bool:=decide (s.size=1) && labelC ((s.data[0]?.getD 0).toNat:Int)
structure PStep where
 kind:Int
 line:Int
 pos:Int
 word:ByteArray
 old:ByteArray
 deriving DecidableEq
def pStep:Ty PStep:=(int64.prod (int64.prod (int64.prod (str.prod str)))).via fun s=>(s.kind,s.line,s.pos,s.word,s.old)
def pSteps (e:TypeId):Ty (List PStep):=pStep.slice e
abbrev PLine:=List ByteArray
def pLine:Ty PLine:=strs 9
def pLines (e:TypeId):Ty (List PLine):=pLine.slice e
structure PPage where
 lines:List PLine
 done:List PStep
 undone:List PStep
 deriving DecidableEq
def PageIs (el es:TypeId) (o:Bool) (w:World) (p:PPage) (v:Value) (F:List Nat):Prop :=
 ∃ a b c F1 F2 F3,v=.agg #[a,b,c]∧F=F1++(F2++F3)∧(pLines el).rep o w p.lines [a] F1∧(pSteps es).rep o w p.done [b] F2∧(pSteps es).rep o w p.undone [c] F3
section
variable {el es:TypeId} {o:Bool} {w w':World} {p:PPage} {v:Value} {F G:List Nat}
theorem PageIs.below (h:PageIs el es o w p v F) (hb:Below w.heap.size w w'):PageIs el es o w' p v F:=by
 obtain ⟨a,b,c,F1,F2,F3,rfl,rfl,h1,h2,h3⟩:=h;exact ⟨a,b,c,F1,F2,F3,rfl,rfl,h1.below hb,h2.below hb,h3.below hb⟩
theorem PageIs.only (h:PageIs el es o w p v F) (hb:Only G w w') (hd:∀ x∈F,x∉G):PageIs el es o w' p v F:=by
 obtain ⟨a,b,c,F1,F2,F3,rfl,rfl,h1,h2,h3⟩:=h;exact ⟨a,b,c,F1,F2,F3,rfl,rfl,h1.only hb (fun x hx=>hd x (by simp [hx])),h2.only hb (fun x hx=>hd x (by simp [hx])),h3.only hb (fun x hx=>hd x (by simp [hx]))⟩
theorem PageIs.blocks (h:PageIs el es o w p v F):∀ x∈F,x < w.heap.size:=by
 obtain ⟨a,b,c,F1,F2,F3,rfl,rfl,h1,h2,h3⟩:=h;intro x hx;simp only [List.mem_append] at hx;rcases hx with hx | hx | hx
 · exact h1.blocks x hx
 · exact h2.blocks x hx
 · exact h3.blocks x hx
theorem Row.only {g:Nat} {e:TypeId} {cs:List Value} (h:Row w g e cs) (ho:Only F w w') (hg:g∉F):Row w' g e cs:=(ho.block g h.lt hg).trans h
end
def letterB (c:UInt8):Bool:=decide (97≤c.toNat) && decide (c.toNat≤122)
def isWordB (s:ByteArray):Bool:=s.data.toList.all letterB && (decide (1≤s.size) && decide (s.size≤10))
structure LinesOk (ls:List PLine):Prop where
 one:1≤ls.length
 few:ls.length≤20
 each:∀ l∈ls,l.length≤12
 word:∀ l∈ls,∀ s∈l,isWordB s=true
theorem isWord_size {s:ByteArray} (h:isWordB s=true):1≤s.size∧s.size≤10:=by
 simp only [isWordB,Bool.and_eq_true,decide_eq_true_eq] at h;exact h.2
def featB (f:PFeat):Bool:=inR f.x 0 255 && (inR f.y 0 255 && inR f.d 0 7)
def featsB (fs:List PFeat):Bool:=fs.all featB && (decide (1≤fs.length) && decide (fs.length≤72))
def tempB (t:PTemp):Bool:=labelB t.label && featsB t.feats
def storeB (p:PSetup):Bool:=p.temps.all tempB && (inR p.band 0 72 && decide (p.temps.length≤40))
def settingB (p:PSetting):Bool:=inR p.points 2 24 && (inR p.most 1 8 && inR p.pen 0 1000)
def costB (n:Int):Bool:=inR n 0 1000000
def entAt (xs:List PEntry) (k:Nat):PEntry:=xs.getD k ⟨.empty,0⟩
def entOk (xs:List PEntry) (k:Nat):Bool:=isWordB (entAt xs k).word && (costB (entAt xs k).cost && (decide (k=0) || bLess (entAt xs (k - 1)).word (entAt xs k).word))
def entsOk (xs:List PEntry):Nat→Bool
 | 0=>true
 | k+1=>entsOk xs k && entOk xs k
def lexB (xs:List PEntry):Bool:=entsOk xs xs.length && decide (xs.length≤60)
def bigKey (b:PBigram):CKey:=(b.first,b.second)
def bigB (b:PBigram):Bool:=isWordB b.second && ((decide (b.first=.empty) || isWordB b.first) && costB b.cost)
def bigAt (xs:List PBigram) (k:Nat):PBigram:=xs.getD k ⟨.empty,.empty,0⟩
def bigOk (xs:List PBigram) (k:Nat):Bool:=bigB (bigAt xs k) && (decide (k=0) || cLess (bigKey (bigAt xs (k - 1))) (bigKey (bigAt xs k)))
def bigsOk (xs:List PBigram):Nat→Bool
 | 0=>true
 | k+1=>bigsOk xs k && bigOk xs k
def modelB (n:Int) (xs:List PBigram):Bool:=bigsOk xs xs.length && (costB n && decide (xs.length≤60))
def setupB (p:PSetup):Bool:=storeB p && (settingB ⟨p.points,p.most,p.pen⟩ && (lexB p.entries && (modelB p.dflt p.bigrams && inR p.pause 1 60000)))
theorem entAt_get {xs:List PEntry} {k:Nat} (h:k < xs.length):entAt xs k=xs[k]:=by simp [entAt,List.getD_eq_getElem?_getD,List.getElem?_eq_getElem h]
theorem bigAt_get {xs:List PBigram} {k:Nat} (h:k < xs.length):bigAt xs k=xs[k]:=by simp [bigAt,List.getD_eq_getElem?_getD,List.getElem?_eq_getElem h]
def inkEndI (xs:List PStroke):Int:=if xs.length=0 then -1 else (pt (xs.getD (xs.length - 1) []) ((xs.getD (xs.length - 1) []).length - 1)).t
def openB (q:PSess):Bool:=decide (q.opn.length=0) || (strokeB q.opn && (decide (inkEndI q.strokes < (pt q.opn 0).t) && decide ((pt q.opn (q.opn.length - 1)).t≤q.time)))
def sessB (q:PSess):Bool:=setupB q.setup && (inkB q.strokes && (inR q.time 0 3600000 && (decide (inkEndI q.strokes≤q.time) && (openB q && (q.words.all isWordB && decide (q.words.length≤60))))))
structure LexP (xs:List PEntry):Prop where
 ok:∀ e∈xs,isWordB e.word=true∧0≤e.cost∧e.cost≤1000000
 up:xs.Pairwise fun x y=>bLess x.word y.word=true
theorem LexP.lexB {xs:List PEntry} (h:LexP xs) (hl:xs.length≤60):lexB xs=true:=by
 have key:∀ n,n≤xs.length→entsOk xs n=true:=by
  intro n
  induction n with
  | zero=>intro _; rfl
  | succ n ih =>
    intro hn;have hg:n < xs.length:=by omega
    obtain ⟨h1,h2,h3⟩:=h.ok _ (List.getElem_mem hg);rw [entsOk,ih (by omega),Bool.true_and,entOk,entAt_get hg,h1];simp only [Bool.true_and,costB,inR,decide_eq_true h2,decide_eq_true h3]
    by_cases e:n=0
    · simp [e]
    · rw [entAt_get (show n - 1 < xs.length by omega),(List.pairwise_iff_getElem.1 h.up) (n - 1) n (by omega) hg (by omega)]
      simp
 rw [Go.Proofs.YtafgknkcjohjeaaGreatDoor.lexB,key _ (Nat.le_refl _),decide_eq_true hl]; rfl
theorem LexP.nil:LexP []:=⟨by simp,List.Pairwise.nil⟩
def withoutE (xs:List PEntry) (w:ByteArray):List PEntry:=xs.filter fun e=>!decide (e.word=w)
theorem LexP.without {xs:List PEntry} (h:LexP xs) (w:ByteArray):LexP (withoutE xs w):=⟨fun e he=>h.ok e (List.mem_filter.1 he).1,h.up.sublist List.filter_sublist⟩
theorem without_ne {xs:List PEntry} {w:ByteArray}:∀ e∈withoutE xs w,e.word≠w:=fun e he=>by simpa using (List.mem_filter.1 he).2
theorem LexP.put {xs:List PEntry} (h:LexP xs) {e:PEntry} (he:isWordB e.word=true∧0≤e.cost∧e.cost≤1000000) (hn:∀ x∈xs,x.word≠e.word) {k:Nat} (hle:k≤xs.length) (hhi:∀ i,k≤i→i < xs.length→bLess e.word (entAt xs i).word=true) (hlo:k=0∨¬ bLess e.word (entAt xs (k - 1)).word=true):LexP (xs.take k++[e]++xs.drop k):=by
 have low:∀ x∈xs.take k,bLess x.word e.word=true:=by
  intro x hx;obtain ⟨i,hi,rfl⟩:=List.getElem_of_mem hx;rw [List.length_take] at hi;rw [List.getElem_take]
  have h1:bLess (entAt xs (k - 1)).word e.word=true:=by
   rcases hlo with h0 | h0
   · omega
   · cases e1:bLess (entAt xs (k - 1)).word e.word with
     | true=>rfl
     | false =>
       have:=bLess_sto.tot _ _ e1 (by simpa using h0);rw [entAt_get (show k - 1 < xs.length by omega)] at this;exact absurd this (hn _ (List.getElem_mem _))
  by_cases e2:i=k - 1
  · subst e2; rw [entAt_get (by omega)] at h1; exact h1
  · have h2:=(List.pairwise_iff_getElem.1 h.up) i (k - 1) (by omega) (by omega) (by omega)
    rw [entAt_get (show k - 1 < xs.length by omega)] at h1;exact bLess_sto.tr _ _ _ h2 h1
 have high:∀ x∈xs.drop k,bLess e.word x.word=true:=by
  intro x hx;obtain ⟨i,hi,rfl⟩:=List.getElem_of_mem hx;rw [List.length_drop] at hi;rw [List.getElem_drop];have:=hhi (k+i) (by omega) (by omega)
  rwa [entAt_get (by omega)] at this
 refine ⟨fun x hx=>?_,?_⟩
 · simp only [List.mem_append,List.mem_singleton] at hx
   rcases hx with (hx | rfl) | hx
   · exact h.ok x (List.mem_of_mem_take hx)
   · exact he
   · exact h.ok x (List.mem_of_mem_drop hx)
 · rw [List.pairwise_append]
   refine ⟨?_,h.up.sublist (List.drop_sublist _ _),fun x hx y hy=>?_⟩
   · rw [List.pairwise_append]
     exact ⟨h.up.sublist (List.take_sublist _ _),List.pairwise_singleton _ _,fun x hx y hy=>by rw [List.mem_singleton] at hy; subst hy; exact low x hx⟩
   · rcases List.mem_append.1 hx with hx | hx
     · exact bLess_sto.tr _ _ _ (low x hx) (high y hy)
     · rw [List.mem_singleton] at hx; subst hx; exact high y hy
structure ModP (xs:List PBigram):Prop where
 ok:∀ b∈xs,bigB b=true
 up:xs.Pairwise fun x y=>cLess (bigKey x) (bigKey y)=true
theorem ModP.modelB {xs:List PBigram} (h:ModP xs) (hl:xs.length≤60) {n:Int} (hn:0≤n∧n≤1000000):modelB n xs=true:=by
 have key:∀ n,n≤xs.length→bigsOk xs n=true:=by
  intro n
  induction n with
  | zero=>intro _; rfl
  | succ n ih =>
    intro hn;have hg:n < xs.length:=by omega
    rw [bigsOk,ih (by omega),Bool.true_and,bigOk,bigAt_get hg,h.ok _ (List.getElem_mem hg),Bool.true_and]
    by_cases e:n=0
    · simp [e]
    · rw [bigAt_get (show n - 1 < xs.length by omega),(List.pairwise_iff_getElem.1 h.up) (n - 1) n (by omega) hg (by omega)]
      simp
 rw [Go.Proofs.YtafgknkcjohjeaaGreatDoor.modelB,key _ (Nat.le_refl _),decide_eq_true hl,costB,inR,decide_eq_true hn.1,decide_eq_true hn.2]; rfl
theorem ModP.nil:ModP []:=⟨by simp,List.Pairwise.nil⟩
def stepMB (b:PBigram) (s:List PBigram × Bool) (x:PBigram):List PBigram × Bool :=
 let s1:=if s.2=false∧cLess (bigKey x) (bigKey b)=false then (s.1++[b],true) else s
 (if bigKey x=bigKey b then s1.1 else s1.1++[x],s1.2)
def putB (xs:List PBigram) (b:PBigram):List PBigram :=
 let s:=xs.foldl (stepMB b) ([],false)
 if s.2=false then s.1++[b] else s.1
theorem putB_len (xs:List PBigram) (b:PBigram):(putB xs b).length≤xs.length+1:=by
 have key:∀ (l:List PBigram) (s:List PBigram × Bool),(l.foldl (stepMB b) s).1.length+(if (l.foldl (stepMB b) s).2=false then 1 else 0)≤s.1.length+(if s.2=false then 1 else 0)+l.length:=by
  intro l
  induction l with
  | nil=>intro s; exact Nat.le_refl _
  | cons x l ih =>
    intro s;rw [List.foldl_cons,List.length_cons];refine Nat.le_trans (ih _) ?_
    have:(stepMB b s x).1.length+(if (stepMB b s x).2=false then 1 else 0)≤s.1.length+(if s.2=false then 1 else 0)+1:=by
     unfold stepMB
     by_cases h1:s.2=false∧cLess (bigKey x) (bigKey b)=false
     · simp only [if_pos h1]
       split <;> simp [h1.1] <;> omega
     · simp only [if_neg h1]
       by_cases h0:bigKey x=bigKey b
       · rw [if_pos h0]; exact Nat.le_succ _
       · rw [if_neg h0,List.length_append,List.length_singleton,Nat.add_right_comm]; exact Nat.le_refl _
    omega
 have:=key xs ([],false);unfold putB;dsimp only
 split
 · rename_i h; rw [h] at this; simp at this ⊢; omega
 · rename_i h; simp [h] at this; omega
theorem ModP.put {xs:List PBigram} (h:ModP xs) {b:PBigram} (hb:bigB b=true):ModP (putB xs b):=by
 have key:∀ (l:List PBigram) (s:List PBigram × Bool),ModP l→ModP s.1→(∀ x∈s.1,∀ y∈l,cLess (bigKey x) (bigKey y)=true) →
  (s.2=false→∀ x∈s.1,cLess (bigKey x) (bigKey b)=true)→(s.2=true→∀ y∈l,cLess (bigKey b) (bigKey y)=true ) →
  ModP (if (l.foldl (stepMB b) s).2=false then (l.foldl (stepMB b) s).1++[b] else (l.foldl (stepMB b) s).1):=by
  intro l
  induction l with
  | nil =>
    intro s _ hs _ h1 _;rw [List.foldl_nil]
    split
    · rename_i h0
      refine ⟨fun x hx=>?_,?_⟩
      · rcases List.mem_append.1 hx with hx | hx
        · exact hs.ok x hx
        · rw [List.mem_singleton] at hx; subst hx; exact hb
      · rw [List.pairwise_append]
        exact ⟨hs.up,List.pairwise_singleton _ _,fun x hx y hy=>by rw [List.mem_singleton] at hy; subst hy; exact h1 h0 x hx⟩
    · exact hs
  | cons x l ih =>
    intro s hl hs hsl h1 h2;have hlx:=List.pairwise_cons.1 hl.up;have hl':ModP l:=⟨fun y hy=>hl.ok y (List.mem_cons_of_mem _ hy),hlx.2⟩
    rw [List.foldl_cons];have hx:=hl.ok x (by simp)
    have add:∀ (m:List PBigram) (z:PBigram),ModP m→bigB z=true→(∀ y∈m,cLess (bigKey y) (bigKey z)=true)→ModP (m++[z]):=fun m z hm hz hy=>by
     refine ⟨fun y hy'=>?_,?_⟩
     · rcases List.mem_append.1 hy' with h | h
       · exact hm.ok y h
       · rw [List.mem_singleton] at h; subst h; exact hz
     · rw [List.pairwise_append]
       exact ⟨hm.up,List.pairwise_singleton _ _,fun y hy' u hu=>by rw [List.mem_singleton] at hu; subst hu; exact hy y hy'⟩
    cases hc:cLess (bigKey x) (bigKey b) with
    | true =>
      have hne:¬ bigKey x=bigKey b:=fun e=>by rw [e,cLess_sto.irr] at hc; cases hc
      have e1:stepMB b s x=(s.1++[x],s.2):=by
       unfold stepMB;rw [if_neg (by rw [hc]; simp)];dsimp only;rw [if_neg hne]
      rw [e1]
      have hd:s.2=true→False:=fun ht=>by
       have:=h2 ht x (by simp);have:=cLess_sto.tr _ _ _ hc this;rw [cLess_sto.irr] at this; cases this
      refine ih _ hl' (add _ _ hs hx (fun y hy=>hsl y hy x (by simp))) (fun y hy u hu=>?_) (fun h0 y hy=>?_) (fun h0=>(hd h0).elim)
      · rcases List.mem_append.1 hy with hy | hy
        · exact hsl y hy u (List.mem_cons_of_mem _ hu)
        · rw [List.mem_singleton] at hy; subst hy; exact hlx.1 u hu
      · rcases List.mem_append.1 hy with hy | hy
        · exact h1 h0 y hy
        · rw [List.mem_singleton] at hy; subst hy; exact hc
    | false =>
      -- from here on the bigram is in
      have hgt:bigKey x=bigKey b∨cLess (bigKey b) (bigKey x)=true:=by
       cases e2:cLess (bigKey b) (bigKey x) with
       | true=>exact .inr rfl
       | false=>exact .inl (cLess_sto.tot _ _ hc e2)
      have hbl:∀ y∈l,cLess (bigKey b) (bigKey y)=true:=fun y hy=>by
       rcases hgt with e | e
       · rw [← e]; exact hlx.1 y hy
       · exact cLess_sto.tr _ _ _ e (hlx.1 y hy)
      obtain ⟨m,hm,em,hml⟩:∃ m,ModP m∧stepMB b s x=(m,true)∧∀ y∈m,∀ u∈l,cLess (bigKey y) (bigKey u)=true:=by
       have base:∃ m,ModP m∧(if s.2=false∧cLess (bigKey x) (bigKey b)=false then (s.1++[b],true) else s)=(m,true)∧(∀ y∈m,∀ u∈l,cLess (bigKey y) (bigKey u)=true)∧(¬ bigKey x=bigKey b→∀ y∈m,cLess (bigKey y) (bigKey x)=true):=by
        cases h0:s.2 with
        | false =>
          refine ⟨s.1++[b],add _ _ hs hb (h1 h0),by rw [if_pos ⟨rfl,hc⟩],fun y hy u hu=>?_,fun hne y hy=>?_⟩
          · rcases List.mem_append.1 hy with hy | hy
            · exact hsl y hy u (List.mem_cons_of_mem _ hu)
            · rw [List.mem_singleton] at hy; subst hy; exact hbl u hu
          · rcases List.mem_append.1 hy with hy | hy
            · exact hsl y hy x (by simp)
            · rw [List.mem_singleton] at hy; subst hy
              rcases hgt with e | e
              · exact absurd e hne
              · exact e
        | true =>
          refine ⟨s.1,hs,by rw [if_neg (by simp)]; exact Prod.ext rfl h0,fun y hy u hu=>hsl y hy u (List.mem_cons_of_mem _ hu),fun _ y hy=>hsl y hy x (by simp)⟩
       obtain ⟨m,hm,em,hml,hmx⟩:=base;unfold stepMB;dsimp only;rw [em]
       by_cases hk:bigKey x=bigKey b
       · exact ⟨m,hm,by rw [if_pos hk],hml⟩
       · refine ⟨m++[x],add _ _ hm hx (hmx hk),by rw [if_neg hk],fun y hy u hu=>?_⟩
         rcases List.mem_append.1 hy with hy | hy
         · exact hml y hy u hu
         · rw [List.mem_singleton] at hy; subst hy; exact hlx.1 u hu
      rw [em];exact ih _ hl' hm hml (fun h0=>by cases h0) (fun _=>hbl)
 exact key xs ([],false) h .nil (by simp) (by simp) (by simp)
structure Ids where
 ft:TypeId
 tm:TypeId
 en:TypeId
 bg:TypeId
 pt:TypeId
 st:TypeId
abbrev idsI:Ids:=⟨182,111,138,143,85,89⟩
theorem kb {w2 w3:World} {b o:Nat} {u:Value} (o3:Below w2.heap.size w2 w3) (hb:b < w2.heap.size) (hu:w2.cell? ⟨b,o,none⟩=some u):w3.cell? ⟨b,o,none⟩=some u:=(o3.cell (p:=⟨b,o,none⟩) hb).trans hu
def SetupIs (I:Ids) (o:Bool) (w:World) (p:PSetup) (v:Value) (F:List Nat):Prop :=
 ∃ a0 a1 a2 F0 F1 F2,v=.agg #[.int .i64 p.band,a0,.int .i64 p.points,.int .i64 p.most,.int .i64 p.pen,a1,.int .i64 p.dflt,a2,.int .i64 p.pause]∧F=F0++(F1++F2)∧(pTemps I.ft I.tm).rep o w p.temps [a0] F0∧(pEntrys I.en).rep o w p.entries [a1] F1∧(pBigrams I.bg).rep o w p.bigrams [a2] F2
section
variable {I:Ids} {o:Bool} {w w':World} {p:PSetup} {v:Value} {F G:List Nat}
theorem SetupIs.below (h:SetupIs I o w p v F) (hb:Below w.heap.size w w'):SetupIs I o w' p v F:=by
 obtain ⟨a0,a1,a2,F0,F1,F2,rfl,rfl,h0,h1,h2⟩:=h;exact ⟨a0,a1,a2,F0,F1,F2,rfl,rfl,h0.below hb,h1.below hb,h2.below hb⟩
theorem SetupIs.alloc (h:SetupIs I o w p v F) (x:Obj):SetupIs I o (w.alloc x) p v F:=by
 obtain ⟨a0,a1,a2,F0,F1,F2,rfl,rfl,h0,h1,h2⟩:=h;exact ⟨a0,a1,a2,F0,F1,F2,rfl,rfl,h0.alloc x,h1.alloc x,h2.alloc x⟩
theorem SetupIs.drew (h:SetupIs I o w p v F):SetupIs I o w.drew p v F:=by
 obtain ⟨a0,a1,a2,F0,F1,F2,rfl,rfl,h0,h1,h2⟩:=h;exact ⟨a0,a1,a2,F0,F1,F2,rfl,rfl,h0.drew,h1.drew,h2.drew⟩
theorem SetupIs.drewN (h:SetupIs I o w p v F) (n:Nat):SetupIs I o (w.drewN n) p v F:=by
 obtain ⟨a0,a1,a2,F0,F1,F2,rfl,rfl,h0,h1,h2⟩:=h;exact ⟨a0,a1,a2,F0,F1,F2,rfl,rfl,h0.drewN n,h1.drewN n,h2.drewN n⟩
theorem SetupIs.only (h:SetupIs I o w p v F) (hb:Only G w w') (hd:∀ x∈F,x∉G):SetupIs I o w' p v F:=by
 obtain ⟨a0,a1,a2,F0,F1,F2,rfl,rfl,h0,h1,h2⟩:=h;exact ⟨a0,a1,a2,F0,F1,F2,rfl,rfl,h0.only hb (fun x hx=>hd x (by simp [hx])),h1.only hb (fun x hx=>hd x (by simp [hx])),h2.only hb (fun x hx=>hd x (by simp [hx]))⟩
theorem SetupIs.blocks (h:SetupIs I o w p v F):∀ x∈F,x < w.heap.size:=by
 obtain ⟨a0,a1,a2,F0,F1,F2,rfl,rfl,h0,h1,h2⟩:=h;intro x hx
 repeat' (rcases List.mem_append.1 hx with hx | hx)
 all_goals first | exact h0.blocks x hx | exact h1.blocks x hx | exact h2.blocks x hx
theorem SetupIs.shape (h:SetupIs I o w p v F):∃ A0 k0 A1 k1 A2 k2,v=.agg #[.int .i64 p.band,.slice A0 p.temps.length k0,.int .i64 p.points,.int .i64 p.most,.int .i64 p.pen,.slice A1 p.entries.length k1,.int .i64 p.dflt,.slice A2 p.bigrams.length k2,.int .i64 p.pause]:=by
 obtain ⟨a0,a1,a2,F0,F1,F2,rfl,rfl,h0,h1,h2⟩:=h;obtain ⟨A0,k0,rfl⟩:=slice_len h0;obtain ⟨A1,k1,rfl⟩:=slice_len h1;obtain ⟨A2,k2,rfl⟩:=slice_len h2;exact ⟨A0,k0,A1,k1,A2,k2,rfl⟩
theorem SetupIs.parts (h:SetupIs I o w p v F):∃ a0 a1 a2 F0 F1 F2,v=.agg #[.int .i64 p.band,a0,.int .i64 p.points,.int .i64 p.most,.int .i64 p.pen,a1,.int .i64 p.dflt,a2,.int .i64 p.pause]∧F=F0++(F1++F2)∧(pTemps I.ft I.tm).rep o w p.temps [a0] F0∧(pEntrys I.en).rep o w p.entries [a1] F1∧(pBigrams I.bg).rep o w p.bigrams [a2] F2:=h
end
def SessIs (I:Ids) (o:Bool) (w:World) (p:PSess) (v:Value) (F:List Nat):Prop :=
 ∃ a0 a1 a2 a3 a4 a5 F0 F1 F2 F3 F4 F5,v=.agg #[.int .i64 p.setup.band,a0,.int .i64 p.setup.points,.int .i64 p.setup.most,.int .i64 p.setup.pen,a1,.int .i64 p.setup.dflt,a2,.int .i64 p.setup.pause,a3,a4,.int .i64 p.time,a5]∧F=F0++(F1++(F2++(F3++(F4++F5))))∧(pTemps I.ft I.tm).rep o w p.setup.temps [a0] F0∧(pEntrys I.en).rep o w p.setup.entries [a1] F1∧(pBigrams I.bg).rep o w p.setup.bigrams [a2] F2∧(pStrokes I.pt I.st).rep o w p.strokes [a3] F3∧(pPoints I.pt).rep o w p.opn [a4] F4∧(strs 9).rep o w p.words [a5] F5
section
variable {I:Ids} {o:Bool} {w w':World} {p:PSess} {v:Value} {F G:List Nat}
theorem SessIs.below (h:SessIs I o w p v F) (hb:Below w.heap.size w w'):SessIs I o w' p v F:=by
 obtain ⟨a0,a1,a2,a3,a4,a5,F0,F1,F2,F3,F4,F5,rfl,rfl,h0,h1,h2,h3,h4,h5⟩:=h;exact ⟨a0,a1,a2,a3,a4,a5,F0,F1,F2,F3,F4,F5,rfl,rfl,h0.below hb,h1.below hb,h2.below hb,h3.below hb,h4.below hb,h5.below hb⟩
theorem SessIs.alloc (h:SessIs I o w p v F) (x:Obj):SessIs I o (w.alloc x) p v F:=by
 obtain ⟨a0,a1,a2,a3,a4,a5,F0,F1,F2,F3,F4,F5,rfl,rfl,h0,h1,h2,h3,h4,h5⟩:=h;exact ⟨a0,a1,a2,a3,a4,a5,F0,F1,F2,F3,F4,F5,rfl,rfl,h0.alloc x,h1.alloc x,h2.alloc x,h3.alloc x,h4.alloc x,h5.alloc x⟩
theorem SessIs.drew (h:SessIs I o w p v F):SessIs I o w.drew p v F:=by
 obtain ⟨a0,a1,a2,a3,a4,a5,F0,F1,F2,F3,F4,F5,rfl,rfl,h0,h1,h2,h3,h4,h5⟩:=h;exact ⟨a0,a1,a2,a3,a4,a5,F0,F1,F2,F3,F4,F5,rfl,rfl,h0.drew,h1.drew,h2.drew,h3.drew,h4.drew,h5.drew⟩
theorem SessIs.drewN (h:SessIs I o w p v F) (n:Nat):SessIs I o (w.drewN n) p v F:=by
 obtain ⟨a0,a1,a2,a3,a4,a5,F0,F1,F2,F3,F4,F5,rfl,rfl,h0,h1,h2,h3,h4,h5⟩:=h;exact ⟨a0,a1,a2,a3,a4,a5,F0,F1,F2,F3,F4,F5,rfl,rfl,h0.drewN n,h1.drewN n,h2.drewN n,h3.drewN n,h4.drewN n,h5.drewN n⟩
theorem SessIs.only (h:SessIs I o w p v F) (hb:Only G w w') (hd:∀ x∈F,x∉G):SessIs I o w' p v F:=by
 obtain ⟨a0,a1,a2,a3,a4,a5,F0,F1,F2,F3,F4,F5,rfl,rfl,h0,h1,h2,h3,h4,h5⟩:=h;exact ⟨a0,a1,a2,a3,a4,a5,F0,F1,F2,F3,F4,F5,rfl,rfl,h0.only hb (fun x hx=>hd x (by simp [hx])),h1.only hb (fun x hx=>hd x (by simp [hx])),h2.only hb (fun x hx=>hd x (by simp [hx])),h3.only hb (fun x hx=>hd x (by simp [hx])),h4.only hb (fun x hx=>hd x (by simp [hx])),h5.only hb (fun x hx=>hd x (by simp [hx]))⟩
theorem SessIs.blocks (h:SessIs I o w p v F):∀ x∈F,x < w.heap.size:=by
 obtain ⟨a0,a1,a2,a3,a4,a5,F0,F1,F2,F3,F4,F5,rfl,rfl,h0,h1,h2,h3,h4,h5⟩:=h;intro x hx
 repeat' (rcases List.mem_append.1 hx with hx | hx)
 all_goals first | exact h0.blocks x hx | exact h1.blocks x hx | exact h2.blocks x hx | exact h3.blocks x hx | exact h4.blocks x hx | exact h5.blocks x hx
theorem SessIs.shape (h:SessIs I o w p v F):∃ A0 k0 A1 k1 A2 k2 A3 k3 A4 k4 A5 k5,v=.agg #[.int .i64 p.setup.band,.slice A0 p.setup.temps.length k0,.int .i64 p.setup.points,.int .i64 p.setup.most,.int .i64 p.setup.pen,.slice A1 p.setup.entries.length k1,.int .i64 p.setup.dflt,.slice A2 p.setup.bigrams.length k2,.int .i64 p.setup.pause,.slice A3 p.strokes.length k3,.slice A4 p.opn.length k4,.int .i64 p.time,.slice A5 p.words.length k5]:=by
 obtain ⟨a0,a1,a2,a3,a4,a5,F0,F1,F2,F3,F4,F5,rfl,rfl,h0,h1,h2,h3,h4,h5⟩:=h;obtain ⟨A0,k0,rfl⟩:=slice_len h0;obtain ⟨A1,k1,rfl⟩:=slice_len h1;obtain ⟨A2,k2,rfl⟩:=slice_len h2;obtain ⟨A3,k3,rfl⟩:=slice_len h3;obtain ⟨A4,k4,rfl⟩:=slice_len h4;obtain ⟨A5,k5,rfl⟩:=slice_len h5;exact ⟨A0,k0,A1,k1,A2,k2,A3,k3,A4,k4,A5,k5,rfl⟩
theorem SessIs.parts (h:SessIs I o w p v F):∃ a0 a1 a2 a3 a4 a5 F0 F1 F2 F3 F4 F5,v=.agg #[.int .i64 p.setup.band,a0,.int .i64 p.setup.points,.int .i64 p.setup.most,.int .i64 p.setup.pen,a1,.int .i64 p.setup.dflt,a2,.int .i64 p.setup.pause,a3,a4,.int .i64 p.time,a5]∧F=F0++(F1++(F2++(F3++(F4++F5))))∧(pTemps I.ft I.tm).rep o w p.setup.temps [a0] F0∧(pEntrys I.en).rep o w p.setup.entries [a1] F1∧(pBigrams I.bg).rep o w p.setup.bigrams [a2] F2∧(pStrokes I.pt I.st).rep o w p.strokes [a3] F3∧(pPoints I.pt).rep o w p.opn [a4] F4∧(strs 9).rep o w p.words [a5] F5:=h
end
def GivesSetup (p:PSetup) (w:World) (e:Ending) (w':World):Prop:=∃ v F,e=.returned v∧SetupIs idsI true w' p v F∧Fresh w.heap.size F∧Below w.heap.size w w'
def GivesSession (p:PSess) (w:World) (e:Ending) (w':World):Prop:=∃ v F,e=.returned v∧SessIs idsI true w' p v F∧Fresh w.heap.size F∧Below w.heap.size w w'
end Go.Proofs.YtafgknkcjohjeaaGreatDoor

/- Words for memory: how Go values of a type read as plain data, with the blocks that they reach. No program is named here. Conditions: none. -/
import Derived.WalkKit
import Derived.WalkSpells
import Derived.WalkLawsBesides
import Derived.Maps.AppendAt
import Derived.Deep.Draws
import Derived.Lib.Hide
import Derived.Deep.Slices
import Derived.ProofKit
import Derived.ChangeOld
import Derived.PlainAid
namespace Go.Proofs.YtafgknkcjohjeaaGreatDoor
open Go Go.RowKit
structure Ty (α:Type) where
 size:Nat
 rep:Bool→World→α→List Value→List Nat→Prop
 len:∀ {o w a cs F},rep o w a cs F→cs.length=size
 one:∀ {o w a cs F},rep o w a cs F→∀ u∈cs,u.oneCell'=true
 kept:∀ {o w w' a cs F},rep o w a cs F→(∀ b∈F,w'.heap[b]?=w.heap[b]?)→rep o w' a cs F
 lt:∀ {o w a cs F},rep o w a cs F→∀ b∈F,b < w.heap.size
 read:∀ {o w a cs F},rep o w a cs F→rep false w a cs F
def Ty.flat {α:Type} (n:Nat) (enc:α→List Value) (ok:α→Prop) (h1:∀ a,(enc a).length=n) (h2:∀ a u,u∈enc a→u.oneCell'=true):Ty α where
 size:=n
 rep _ _ a cs F:=cs=enc a∧F=[]∧ok a
 len:=by rintro _ _ a _ _ ⟨rfl,_⟩; exact h1 a
 one:=by rintro _ _ a _ _ ⟨rfl,_⟩; exact h2 a
 kept:=fun h _=>h
 lt:=by rintro _ _ _ _ _ ⟨_,rfl,_⟩; simp
 read:=fun h=>h
def I64 (n:Int):Prop:=-9223372036854775808≤n∧n≤9223372036854775807
def int64:Ty Int:=.flat 1 (fun n=>[.int .i64 n]) I64 (fun _=>rfl) (by intro a u h; simp at h; subst h; rfl)
def str:Ty ByteArray:=.flat 1 (fun s=>[.string s]) (fun s=>s.size≤maxLen) (fun _=>rfl) (by intro a u h; simp at h; subst h; rfl)
def byte:Ty UInt8:=.flat 1 (fun n=>[.int .u8 n.toNat]) (fun _=>True) (fun _=>rfl) (by intro a u h; simp at h; subst h; rfl)
theorem int64_rep {o:Bool} {w:World} {n:Int} {cs:List Value} {F:List Nat}:int64.rep o w n cs F↔cs=[.int .i64 n]∧F=[]∧I64 n:=Iff.rfl
theorem str_rep {o:Bool} {w:World} {n:ByteArray} {cs:List Value} {F:List Nat}:str.rep o w n cs F↔cs=[.string n]∧F=[]∧n.size≤maxLen:=Iff.rfl
def Ty.prod {α β:Type} (S:Ty α) (T:Ty β):Ty (α × β) where
 size:=S.size+T.size
 rep o w p cs F:=∃ c1 c2 F1 F2,cs=c1++c2∧F=F1++F2∧S.rep o w p.1 c1 F1∧T.rep o w p.2 c2 F2
 len:=by rintro _ _ _ _ _ ⟨c1,c2,F1,F2,rfl,rfl,h1,h2⟩; rw [List.length_append,S.len h1,T.len h2]
 one:=by
  rintro _ _ _ _ _ ⟨c1,c2,F1,F2,rfl,rfl,h1,h2⟩ u hu;rcases List.mem_append.1 hu with h | h
  · exact S.one h1 u h
  · exact T.one h2 u h
 kept:=by
  rintro _ _ _ _ _ _ ⟨c1,c2,F1,F2,rfl,rfl,h1,h2⟩ hk;exact ⟨c1,c2,F1,F2,rfl,rfl,S.kept h1 (fun b hb=>hk b (by simp [hb])),T.kept h2 (fun b hb=>hk b (by simp [hb]))⟩
 lt:=by
  rintro _ _ _ _ _ ⟨c1,c2,F1,F2,rfl,rfl,h1,h2⟩ b hb;rcases List.mem_append.1 hb with h | h
  · exact S.lt h1 b h
  · exact T.lt h2 b h
 read:=by
  rintro _ _ _ _ _ ⟨c1,c2,F1,F2,rfl,rfl,h1,h2⟩;exact ⟨c1,c2,F1,F2,rfl,rfl,S.read h1,T.read h2⟩
def Ty.via {α β:Type} (T:Ty α) (f:β→α):Ty β where
 size:=T.size
 rep o w b cs F:=T.rep o w (f b) cs F
 len:=T.len
 one:=T.one
 kept:=T.kept
 lt:=T.lt
 read:=T.read
def repL {α:Type} (T:Ty α) (o:Bool) (w:World):List α→List Value→List Nat→Prop
 | [],cs,F=>cs=[]∧F=[]
 | a :: as,cs,F=>∃ c1 c2 F1 F2,cs=c1++c2∧F=F1++F2∧T.rep o w a c1 F1∧repL T o w as c2 F2
section
variable {α:Type} {T:Ty α} {o:Bool} {w w':World}
theorem repL_len:∀ {xs:List α} {cs:List Value} {F:List Nat},repL T o w xs cs F→cs.length=xs.length * T.size
 | [],_,_,⟨rfl,_⟩=>by simp
 | a :: as,_,_,⟨c1,c2,F1,F2,rfl,_,h1,h2⟩=>by
   rw [List.length_append,T.len h1,repL_len h2,List.length_cons,Nat.add_mul]; omega
theorem repL_one:∀ {xs:List α} {cs:List Value} {F:List Nat},repL T o w xs cs F→∀ u∈cs,u.oneCell'=true
 | [],_,_,⟨rfl,_⟩=>by simp
 | a :: as,_,_,⟨c1,c2,F1,F2,rfl,_,h1,h2⟩=>by
   intro u hu;rcases List.mem_append.1 hu with h | h
   · exact T.one h1 u h
   · exact repL_one h2 u h
theorem repL_kept:∀ {xs:List α} {cs:List Value} {F:List Nat},repL T o w xs cs F→(∀ b∈F,w'.heap[b]?=w.heap[b]?)→repL T o w' xs cs F
 | [],_,_,h,_=>h
 | a :: as,_,_,⟨c1,c2,F1,F2,rfl,rfl,h1,h2⟩,hk =>
   ⟨c1,c2,F1,F2,rfl,rfl,T.kept h1 (fun b hb=>hk b (by simp [hb])),repL_kept h2 (fun b hb=>hk b (by simp [hb]))⟩
theorem repL_lt:∀ {xs:List α} {cs:List Value} {F:List Nat},repL T o w xs cs F→∀ b∈F,b < w.heap.size
 | [],_,_,⟨_,rfl⟩=>by simp
 | a :: as,_,_,⟨c1,c2,F1,F2,rfl,rfl,h1,h2⟩=>by
   intro b hb;rcases List.mem_append.1 hb with h | h
   · exact T.lt h1 b h
   · exact repL_lt h2 b h
theorem repL_read:∀ {xs:List α} {cs:List Value} {F:List Nat},repL T o w xs cs F→repL T false w xs cs F
 | [],_,_,h=>h
 | _ :: _,_,_,⟨c1,c2,F1,F2,rfl,rfl,h1,h2⟩=>⟨c1,c2,F1,F2,rfl,rfl,T.read h1,repL_read h2⟩
theorem repL_append:∀ {xs ys:List α} {cs ds:List Value} {F G:List Nat},repL T o w xs cs F→repL T o w ys ds G→repL T o w (xs++ys) (cs++ds) (F++G)
 | [],_,_,_,_,_,⟨rfl,rfl⟩,h=>by simpa using h
 | a :: as,_,_,_,_,_,⟨c1,c2,F1,F2,rfl,rfl,h1,h2⟩,h=>⟨c1,c2++_,F1,F2++_,by simp,by simp,h1,repL_append h2 h⟩
theorem repL_split:∀ {xs ys:List α} {cs:List Value} {F:List Nat},repL T o w (xs++ys) cs F →
 ∃ c1 c2 F1 F2,cs=c1++c2∧F=F1++F2∧repL T o w xs c1 F1∧repL T o w ys c2 F2
 | [],_,cs,F,h=>⟨[],cs,[],F,rfl,rfl,⟨rfl,rfl⟩,h⟩
 | a :: as,_,_,_,⟨c1,c2,F1,F2,rfl,rfl,h1,h2⟩=>by
   obtain ⟨d1,d2,G1,G2,rfl,rfl,k1,k2⟩:=repL_split h2;exact ⟨c1++d1,d2,F1++G1,G2,by simp,by simp,⟨c1,d1,F1,G1,rfl,rfl,h1,k1⟩,k2⟩
theorem repL_single {a:α} {cs:List Value} {F:List Nat}:repL T o w [a] cs F↔T.rep o w a cs F:=by
 constructor
 · rintro ⟨c1,c2,F1,F2,rfl,rfl,h1,rfl,rfl⟩; simpa using h1
 · intro h; exact ⟨cs,[],F,[],by simp,by simp,h,rfl,rfl⟩
theorem repL_get {xs:List α} {cs:List Value} {F:List Nat} (h:repL T o w xs cs F) (k:Nat) (hk:k < xs.length) :
 ∃ c1 ck c2 F1 Fk F2,cs=c1++(ck++c2)∧F=F1++(Fk++F2)∧c1.length=k * T.size∧ck.length=T.size∧repL T o w (xs.take k) c1 F1∧T.rep o w xs[k] ck Fk∧repL T o w (xs.drop (k+1)) c2 F2:=by
 have e:xs=xs.take k++([xs[k]]++xs.drop (k+1)):=by
  rw [List.singleton_append,← List.drop_eq_getElem_cons hk,List.take_append_drop]
 rw [e] at h;obtain ⟨c1,c',F1,F',rfl,rfl,h1,h'⟩:=repL_split h;obtain ⟨ck,c2,Fk,F2,rfl,rfl,hk',h2⟩:=repL_split h';have hr:=repL_single.1 hk';refine ⟨c1,ck,c2,F1,Fk,F2,rfl,rfl,?_,T.len hr,h1,hr,h2⟩;rw [repL_len h1,List.length_take,Nat.min_eq_left (by omega)]
end
def Ty.slice {α:Type} (T:Ty α) (e:TypeId):Ty (List α) where
 size:=1
 rep o w xs cs F:=∃ A c ec F0 F1,cs=[.slice A xs.length c]∧F=F0++F1∧xs.length≤c∧c≤maxLen∧repL T o w xs ec F1∧(∀ b∈F0,b < w.heap.size) ∧
  (0 < xs.length→∃ b off,A=some ⟨b,off,none⟩∧b∈F0∧∀ j u,ec[j]?=some u→w.cell? ⟨b,off+j,none⟩=some u) ∧
  (o=true→w.ownsRow 0 e T.size (.slice A xs.length c) xs.length ec∧F0=((Value.slice A xs.length c).ownBlock).toList)
 len:=by rintro _ _ _ _ _ ⟨A,c,ec,F0,F1,rfl,_⟩; rfl
 one:=by rintro _ _ _ _ _ ⟨A,c,ec,F0,F1,rfl,_⟩ u hu; simp at hu; subst hu; rfl
 kept:=by
  rintro o w w' xs cs F ⟨A,c,ec,F0,F1,rfl,rfl,hl,hc,hr,hlt,ha,ho⟩ hk;have hb:∀ b∈F0,w'.heap[b]?=w.heap[b]?:=fun b hb=>hk b (by simp [hb])
  refine ⟨A,c,ec,F0,F1,rfl,rfl,hl,hc,repL_kept hr (fun b hb=>hk b (by simp [hb])),fun b h=>?_,fun hn=>?_,fun e=>?_⟩
  · have h1:=hb b h
    have h2:=hlt b h;rw [Array.getElem?_eq_getElem h2] at h1;exact (Array.getElem?_eq_some_iff.1 h1).1
  · obtain ⟨b,off,rfl,hin,hcell⟩:=ha hn
    exact ⟨b,off,rfl,hin,fun j u hu=>(World.cell?_of_block (w:=w) (hb b hin)).trans (hcell j u hu)⟩
  · obtain ⟨h1,h2⟩:=ho e
    refine ⟨⟨h1.1,?_⟩,h2⟩;rcases h1.2 with h3 | ⟨g,cap,cur,hv,hbg,hh,rest⟩
    · exact .inl h3
    · refine .inr ⟨g,cap,cur,hv,hbg,?_,rest⟩
      rw [hb g (by rw [h2,hv]; simp [Value.ownBlock])];exact hh
 lt:=by
  rintro o w xs cs F ⟨A,c,ec,F0,F1,rfl,rfl,hl,hc,hr,hlt,ha,ho⟩ b hb;rcases List.mem_append.1 hb with h | h
  · exact hlt b h
  · exact repL_lt hr b h
 read:=by
  rintro o w xs cs F ⟨A,c,ec,F0,F1,rfl,rfl,hl,hc,hr,hlt,ha,ho⟩;exact ⟨A,c,ec,F0,F1,rfl,rfl,hl,hc,repL_read hr,hlt,ha,fun h=>by cases h⟩
def Fresh (B:Nat) (F:List Nat):Prop:=F.Nodup∧∀ b∈F,B≤b
theorem Fresh.nil (B:Nat):Fresh B []:=⟨List.nodup_nil,by simp⟩
theorem Fresh.mono {B B':Nat} {F:List Nat} (h:Fresh B F) (hb:B'≤B):Fresh B' F:=⟨h.1,fun b hb'=>Nat.le_trans hb (h.2 b hb')⟩
section
variable {α:Type} {T:Ty α} {o:Bool} {w w':World} {a:α} {cs:List Value} {F:List Nat}
theorem Ty.rep.below (h:T.rep o w a cs F) (hb:Below w.heap.size w w'):T.rep o w' a cs F :=
 T.kept h fun b hin=>hb.block b (T.lt h b hin)
theorem Ty.rep.alloc (h:T.rep o w a cs F) (x:Obj):T.rep o (w.alloc x) a cs F :=
 T.kept h fun b hin=>Below.heap_alloc w x b (T.lt h b hin)
theorem Ty.rep.blocks (h:T.rep o w a cs F):∀ b∈F,b < w.heap.size:=T.lt h
theorem Ty.rep.drew (h:T.rep o w a cs F):T.rep o w.drew a cs F:=T.kept h fun _ _=>rfl
theorem Ty.rep.drewN (h:T.rep o w a cs F) (n:Nat):T.rep o (w.drewN n) a cs F:=T.kept h fun _ _=>rfl
theorem Ty.rep.setCell (h:T.rep o w a cs F) {p:Addr} (hp:p.block∉F) (u:Value):T.rep o (w.setCell p u) a cs F :=
 T.kept h fun b hin=>Below.heap_setCell w p u b (fun e=>hp (e ▸ hin))
end
section
variable {α:Type} {T:Ty α} {e:TypeId} {o:Bool} {w:World} {xs:List α} {v:Value} {F:List Nat}
theorem slice_open (h:(T.slice e).rep o w xs [v] F) :
 ∃ A c,v=.slice A xs.length c∧xs.length≤c∧c≤maxLen∧∀ k (hk:k < xs.length),∃ b off ck Fk,A=some ⟨b,off,none⟩∧b < w.heap.size∧b∈F∧T.rep o w xs[k] ck Fk∧(∀ x∈Fk,x∈F) ∧
  ∀ j u,ck[j]?=some u→w.cell? ⟨b,off+(k * T.size+j),none⟩=some u:=by
 obtain ⟨A,c,ec,F0,F1,hv,rfl,hl,hc,hr,hlt,ha,ho⟩:=h;refine ⟨A,c,by simpa using hv,hl,hc,fun k hk=>?_⟩;obtain ⟨b,off,rfl,hin,hcell⟩:=ha (by omega);obtain ⟨c1,ck,c2,G1,Fk,G2,rfl,rfl,hl1,hlk,_,hrk,_⟩:=repL_get hr k hk;refine ⟨b,off,ck,Fk,rfl,hlt b hin,by simp [hin],hrk,fun x hx=>by simp [hx],fun j u hu=>hcell _ _ ?_⟩;have hj:j < ck.length:=(List.getElem?_eq_some_iff.1 hu).1;rw [List.getElem?_append_right (by omega),List.getElem?_append_left (by omega)];rw [hl1,Nat.add_sub_cancel_left];exact hu
theorem slice_nil (T:Ty α) (e:TypeId) (o:Bool) (w:World):(T.slice e).rep o w [] [.slice none 0 0] [] :=
 ⟨none,0,[],[],[],rfl,rfl,Nat.le_refl _,Nat.zero_le _,⟨rfl,rfl⟩,by simp,by simp,fun _=>⟨World.ownsRow_nil w 0 e T.size,rfl⟩⟩
theorem slice_len (h:(T.slice e).rep o w xs [v] F):∃ A c,v=.slice A xs.length c:=by
 obtain ⟨A,c,hv,_⟩:=slice_open h;exact ⟨A,c,hv⟩
end
end Go.Proofs.YtafgknkcjohjeaaGreatDoor

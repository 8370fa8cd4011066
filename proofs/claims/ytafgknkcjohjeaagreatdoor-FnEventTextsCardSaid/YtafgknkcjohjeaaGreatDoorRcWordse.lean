/- A pause finishes the word that can be read, as plain data. No program is named here. Conditions: none. -/
import Derived.Test.YtafgknkcjohjeaaGreatDoorRcRead2e
import Derived.Test.YtafgknkcjohjeaaGreatDoorSlOpse
import Derived.Test.YtafgknkcjohjeaaGreatDoorRcFune
import Derived.Test.YtafgknkcjohjeaaGreatDoorLibe
import Derived.Shelf.Strconv.Itoa0
import Derived.Test.YtafgknkcjohjeaaGreatDoorProg
import Derived.Test.YtafgknkcjohjeaaGreatDoorStrSe
import Derived.Test.YtafgknkcjohjeaaGreatDoorMarke
import Derived.Deep.MidRow
import Derived.Deep.Cut
namespace Go.Proofs.YtafgknkcjohjeaaGreatDoor
open Go Go.RowKit
set_option maxHeartbeats 8000000
set_option maxRecDepth 100000
def rdZ (q:PSess):Option ByteArray:=if (readZ q).2.2=0 then some (readZ q).1 else none
theorem rdZ_ok (q:PSess) (w:ByteArray) (h:sessB q=true) (hw:rdZ q=some w):isWordB w=true:=by
 rw [rdZ] at hw
 split at hw
 · rename_i h0
   injection hw with hw
   rw [← hw]; exact readZ_word h h0
 · cases hw
theorem insS_weak {α:Type} {lt:α→α→Bool} (o:STO lt) {l:List α} {h:α} (hl:l.Pairwise fun x y=>lt y x=false):(insS lt h l).Pairwise fun x y=>lt y x=false:=by
 unfold insS;refine List.pairwise_append.2 ⟨hl.filter _,List.pairwise_cons.2 ⟨fun x hx=>?_,hl.filter _⟩,fun x hx y hy=>?_⟩
 · exact o.asym (List.mem_filter.1 hx).2
 · have h2:lt h x=false:=by simpa using (List.mem_filter.1 hx).2
   rcases List.mem_cons.1 hy with rfl | hy
   · exact h2
   · have h3:=(List.mem_filter.1 hy).2
     rw [Bool.eq_false_iff];intro h4;rw [o.tr _ _ _ h3 h4] at h2; cases h2
theorem sortedF_weak (l:List FoundZ):(sortedF l).Pairwise fun x y=>foundLt y x=false:=by
 have key:∀ (l s:List FoundZ),(s.Pairwise fun x y=>foundLt y x=false)→(l.foldl (fun l h=>insS foundLt h l) s).Pairwise fun x y=>foundLt y x=false:=by
  intro l
  induction l with
  | nil=>intro s h; exact h
  | cons a l ih=>intro s h; rw [List.foldl_cons]; exact ih _ (insS_weak foundLt_sto h)
 exact key l [] .nil
theorem pairZ_pos {p:PSetup} (hp:setupB p=true) (a b:ByteArray):0≤pairZ p a b∧pairZ p a b≤1000000:=by
 obtain ⟨-,-,-,-,-,-,-,s8,-⟩:=setup_parts hp;rw [modelB,Bool.and_eq_true,Bool.and_eq_true] at s8;obtain ⟨m1,m2,m3⟩:=s8;simp only [costB,inR,Bool.and_eq_true,decide_eq_true_iff] at m2
 have key:∀ n,n≤p.bigrams.length→bigsOk p.bigrams n=true→∀ k,k < n→bigOk p.bigrams k=true:=by
  intro n
  induction n with
  | zero=>intro _ _ k hk; omega
  | succ n ih =>
    intro hn h k hk;rw [bigsOk,Bool.and_eq_true] at h
    by_cases e:k=n
    · subst e; exact h.2
    · exact ih (by omega) h.1 k (by omega)
 rw [pairZ];cases e:p.bigrams.find? fun g=>decide (g.first=a) && decide (g.second=b) with
 | none=>exact m2
 | some g =>
   have hm:=List.mem_of_find?_eq_some e;obtain ⟨k,hk,rfl⟩:=List.mem_iff_getElem.1 hm;have:=key _ (Nat.le_refl _) m1 k hk;rw [bigOk,Bool.and_eq_true,bigAt_get hk] at this;have hb:=this.1;simp only [bigB,costB,inR,Bool.and_eq_true,decide_eq_true_iff] at hb;exact hb.2.2
def edgeLt (x y:LEdge):Bool:=decide (x.src < y.src) || (decide (x.src=y.src) && (decide (x.dst < y.dst) || (decide (x.dst=y.dst) && (bLess x.lab y.lab || (decide (x.lab=y.lab) && decide (x.cost < y.cost))))))
theorem edgeLt_iff {x y:LEdge}:edgeLt x y=true↔x.src < y.src∨x.src=y.src∧(x.dst < y.dst∨x.dst=y.dst∧(bLess x.lab y.lab=true∨x.lab=y.lab∧x.cost < y.cost)):=by
 simp only [edgeLt,Bool.or_eq_true,Bool.and_eq_true,decide_eq_true_iff]
theorem edgeLt_sto:STO edgeLt:=by
 refine ⟨fun a=>?_,fun a b c h1 h2=>?_,fun a b h1 h2=>?_⟩
 · rw [Bool.eq_false_iff,Ne,edgeLt_iff,bLess_sto.irr]; simp
 · rw [edgeLt_iff] at *
   rcases h1 with h1 | ⟨h1,h1'⟩
   · rcases h2 with h2 | ⟨h2,_⟩
     · left; omega
     · left; omega
   · rcases h2 with h2 | ⟨h2,h2'⟩
     · left; omega
     · refine .inr ⟨by omega,?_⟩
       rcases h1' with h1' | ⟨h1',h1''⟩
       · rcases h2' with h2' | ⟨h2',_⟩
         · left; omega
         · left; omega
       · rcases h2' with h2' | ⟨h2',h2''⟩
         · left; omega
         · refine .inr ⟨by omega,?_⟩
           rcases h1'' with k1 | ⟨k1,k1'⟩
           · rcases h2'' with k2 | ⟨k2,_⟩
             · exact .inl (bLess_sto.tr _ _ _ k1 k2)
             · exact .inl (k2 ▸ k1)
           · rcases h2'' with k2 | ⟨k2,k2'⟩
             · exact .inl (k1 ▸ k2)
             · exact .inr ⟨k1.trans k2,by omega⟩
 · rw [Bool.eq_false_iff,Ne,edgeLt_iff] at h1 h2
   have hs:a.src=b.src:=by
    rcases Nat.lt_trichotomy a.src b.src with h | h | h
    · exact absurd (.inl h) h1
    · exact h
    · exact absurd (.inl h) h2
   have hd:a.dst=b.dst:=by
    rcases Nat.lt_trichotomy a.dst b.dst with h | h | h
    · exact absurd (.inr ⟨hs,.inl h⟩) h1
    · exact h
    · exact absurd (.inr ⟨hs.symm,.inl h⟩) h2
   have hl:a.lab=b.lab:=bLess_sto.tot _ _ (by rw [Bool.eq_false_iff]; exact fun h=>h1 (.inr ⟨hs,.inr ⟨hd,.inl h⟩⟩)) (by rw [Bool.eq_false_iff]; exact fun h=>h2 (.inr ⟨hs.symm,.inr ⟨hd.symm,.inl h⟩⟩))
   have hc:a.cost=b.cost:=by
    rcases Int.lt_trichotomy a.cost b.cost with h | h | h
    · exact absurd (.inr ⟨hs,.inr ⟨hd,.inr ⟨hl,h⟩⟩⟩) h1
    · exact h
    · exact absurd (.inr ⟨hs.symm,.inr ⟨hd.symm,.inr ⟨hl.symm,h⟩⟩⟩) h2
   obtain ⟨s,d,l,c⟩:=a;obtain ⟨s',d',l',c'⟩:=b;simp only at hs hd hl hc;rw [hs,hd,hl,hc]
def SameKey (x y:LEdge):Prop:=x.src=y.src∧x.dst=y.dst∧x.lab=y.lab
theorem groupE_ends {p:PSetup} {xs:List PStroke} {g:Nat × Nat} {e:LEdge} (h:e∈groupE p xs g):e.src=g.1∧e.dst=g.2:=by
 rw [groupE] at h
 split at h
 · obtain ⟨x,_,rfl⟩:=List.mem_map.1 h; exact ⟨rfl,rfl⟩
 · cases h
theorem groupsZ_nodup (n:Nat):(groupsZ n).Nodup:=by
 rw [groupsZ,List.Nodup,List.pairwise_flatMap];refine ⟨fun a _=>?_,List.nodup_range.imp fun {a b} hab x hx y hy he=>?_⟩
 · rw [List.pairwise_map]
   exact (List.nodup_range.filter _).imp fun hne he=>hne (Prod.mk.inj he).2
 · obtain ⟨c,_,rfl⟩:=List.mem_map.1 hx
   obtain ⟨d,_,rfl⟩:=List.mem_map.1 hy;exact hab (Prod.mk.inj he).1
theorem edgesZ_keys (p:PSetup) (xs:List PStroke):(edgesZ p xs).Pairwise fun x y=>¬ SameKey x y:=by
 rw [edgesZ,List.pairwise_flatMap];refine ⟨fun g _=>?_,(groupsZ_nodup _).imp fun {g h} hgh x hx y hy hk=>?_⟩
 · rw [groupE]
   split
   · rw [List.pairwise_map]
     exact (hypsZ_labels p _).imp fun hne hk=>hne hk.2.2
   · exact .nil
 · have h1:=groupE_ends hx
   have h2:=groupE_ends hy;apply hgh;obtain ⟨a,b⟩:=g;obtain ⟨c,d⟩:=h;simp only at h1 h2;rw [← h1.1,← h1.2,hk.1,hk.2.1,h2.1,h2.2]
def sortedE (l:List LEdge):List LEdge:=l.foldl (fun l h=>insS edgeLt h l) []
theorem sortedE_perm (l:List LEdge):(sortedE l).Perm l:=by
 have key:∀ (l s:List LEdge),(l.foldl (fun l h=>insS edgeLt h l) s).Perm (l.reverse++s):=by
  intro l
  induction l with
  | nil=>intro s; exact List.Perm.refl _
  | cons a l ih =>
    intro s;rw [List.foldl_cons,List.reverse_cons,List.append_assoc];exact (ih _).trans ((insS_perm a s).append_left _)
 have:=key l [];rw [List.append_nil] at this;exact this.trans (List.reverse_perm l)
theorem sortedE_weak (l:List LEdge):(sortedE l).Pairwise fun x y=>edgeLt y x=false:=by
 have key:∀ (l s:List LEdge),(s.Pairwise fun x y=>edgeLt y x=false)→(l.foldl (fun l h=>insS edgeLt h l) s).Pairwise fun x y=>edgeLt y x=false:=by
  intro l
  induction l with
  | nil=>intro s h; exact h
  | cons a l ih=>intro s h; rw [List.foldl_cons]; exact ih _ (insS_weak edgeLt_sto h)
 exact key l [] .nil
theorem lcE_perm {es fs:List LEdge} (h:es.Perm fs) (tx:Nat→ByteArray):∀ k v,lcE es tx k v=lcE fs tx k v
 | 0,v=>rfl
 | k+1,v=>by
   rw [lcE,lcE];have ih:=lcE_perm h tx k
   have e:(fun e:LEdge=>(lcE es tx k e.src).map (·+e.cost))=fun e=>(lcE fs tx k e.src).map (·+e.cost):=by
    funext e; rw [ih]
   rw [e];exact minsO_perm ((h.filter _).map _)
section
variable {α:Type} {n:Nat} {enc:α→List Value} {ok:α→Prop} {h1:∀ a,(enc a).length=n} {h2:∀ a u,u∈enc a→u.oneCell'=true} {o:Bool} {w:World}
theorem flat_repL:∀ (xs:List α),(∀ s∈xs,ok s)→repL (Ty.flat n enc ok h1 h2) o w xs (xs.flatMap enc) []
 | [],_=>⟨rfl,rfl⟩
 | s :: r,h=>⟨_,_,[],[],rfl,rfl,⟨rfl,rfl,h s (by simp)⟩,flat_repL r (fun t ht=>h t (by simp [ht]))⟩
theorem flat_repL_inv:∀ {xs:List α} {cs:List Value} {F:List Nat},repL (Ty.flat n enc ok h1 h2) o w xs cs F→cs=xs.flatMap enc∧F=[]∧∀ s∈xs,ok s
 | [],_,_,⟨rfl,rfl⟩=>⟨rfl,rfl,by simp⟩
 | s :: r,_,_,⟨c1,c2,F1,F2,rfl,rfl,g1,g2⟩=>by
   obtain ⟨rfl,rfl,g3⟩:=g1;obtain ⟨rfl,rfl,g4⟩:=flat_repL_inv g2;exact ⟨rfl,rfl,fun t ht=>(List.mem_cons.1 ht).elim (fun e=>e ▸ g3) (g4 t)⟩
theorem flat_open {e:TypeId} {xs:List α} {v:Value} {F:List Nat} (h:((Ty.flat n enc ok h1 h2).slice e).rep o w xs [v] F) :
 ∃ A c,v=.slice A xs.length c∧xs.length≤c∧c≤maxLen∧∀ k (hk:k < xs.length),∃ b off,A=some ⟨b,off,none⟩∧b < w.heap.size∧b∈F ∧
  (∀ j u,(enc xs[k])[j]?=some u→w.cell? ⟨b,off+(k * n+j),none⟩=some u)∧ok xs[k]:=by
 obtain ⟨A,c,hv,g1,g2,g3⟩:=slice_open h;refine ⟨A,c,hv,g1,g2,fun k hk=>?_⟩;obtain ⟨b,off,ck,Fk,hA,hb,hin,hr,_,hc⟩:=g3 k hk;obtain ⟨rfl,rfl,i0⟩:=hr;exact ⟨b,off,hA,hb,hin,hc,i0⟩
theorem flat_ok {e:TypeId} {xs:List α} {v:Value} {F:List Nat} (h:((Ty.flat n enc ok h1 h2).slice e).rep o w xs [v] F):∀ s∈xs,ok s:=by
 obtain ⟨_,_,_,_,_,hr⟩:=flat_open h;intro s hs;obtain ⟨k,hk,rfl⟩:=List.getElem_of_mem hs;obtain ⟨_,_,_,_,_,_,h⟩:=hr k hk;exact h
end
def pMatch:Ty (Nat × Int):=.flat 2 (fun m=>[.int .i64 m.1,.int .i64 m.2]) (fun m=>m.1 < 1048576∧I64 m.2) (fun _=>rfl) (by intro a u h; simp at h; rcases h with rfl | rfl <;> rfl)
def pHyp:Ty HypZ:=.flat 2 (fun h=>[.string h.label,.int .i64 h.cost]) (fun h=>h.label.size≤maxLen∧I64 h.cost) (fun _=>rfl) (by intro a u h; simp at h; rcases h with rfl | rfl <;> rfl)
def pGroup:Ty (Nat × Nat):=.flat 2 (fun m=>[.int .i64 m.1,.int .i64 m.2]) (fun _=>True) (fun _=>rfl) (by intro a u h; simp at h; rcases h with rfl | rfl <;> rfl)
def pEdge:Ty LEdge:=.flat 4 (fun e=>[.int .i64 e.src,.int .i64 e.dst,.string e.lab,.int .i64 e.cost]) (fun e=>e.src < 1048576∧e.dst < 1048576∧e.lab.size≤maxLen∧I64 e.cost) (fun _=>rfl) (by intro a u h; simp at h; rcases h with rfl | rfl | rfl | rfl <;> rfl)
def pFound:Ty FoundZ:=.flat 3 (fun f=>[.string f.word,.int .i64 f.path,.int .i64 f.own]) (fun f=>f.word.size≤maxLen∧I64 f.path∧I64 f.own) (fun _=>rfl) (by intro a u h; simp at h; rcases h with rfl | rfl | rfl <;> rfl)
theorem infoMatch:(Tryz.prog.info? 207).map (fun i=>(i.zero,i.size,i.bytes))=some (some (.agg #[.int .i64 0,.int .i64 0]),pMatch.size,16):=by kernel_rfl
theorem infoHyp:(Tryz.prog.info? 169).map (fun i=>(i.zero,i.size,i.bytes))=some (some (.agg #[.string .empty,.int .i64 0]),pHyp.size,24):=by kernel_rfl
theorem infoGroup:(Tryz.prog.info? 163).map (fun i=>(i.zero,i.size,i.bytes))=some (some (.agg #[.int .i64 0,.int .i64 0]),pGroup.size,16):=by kernel_rfl
theorem infoEdge:(Tryz.prog.info? 171).map (fun i=>(i.zero,i.size,i.bytes))=some (some (.agg #[.int .i64 0,.int .i64 0,.string .empty,.int .i64 0]),pEdge.size,40):=by kernel_rfl
theorem infoFound:(Tryz.prog.info? 129).map (fun i=>(i.zero,i.size,i.bytes))=some (some (.agg #[.string .empty,.int .i64 0,.int .i64 0]),pFound.size,32):=by kernel_rfl
section
variable {o:Bool} {w:World} {e:TypeId} {v:Value} {F:List Nat}
theorem pMatchs_open {xs:List (Nat × Int)} (h:(pMatch.slice e).rep o w xs [v] F):∃ A c,v=.slice A xs.length c∧xs.length≤c∧c≤maxLen∧∀ k (hk:k < xs.length),∃ b off,A=some ⟨b,off,none⟩∧b < w.heap.size∧b∈F ∧
 w.cell? ⟨b,off+k * 2,none⟩=some (.int .i64 xs[k].1)∧w.cell? ⟨b,off+k * 2+1,none⟩=some (.int .i64 xs[k].2)∧xs[k].1 < 1048576∧I64 xs[k].2:=by
 obtain ⟨A,c,g1,g2,g3,g4⟩:=flat_open h;refine ⟨A,c,g1,g2,g3,fun k hk=>?_⟩;obtain ⟨b,off,hA,hb,hin,hc,i0⟩:=g4 k hk;exact ⟨b,off,hA,hb,hin,hc 0 _ rfl,by rw [Nat.add_assoc]; exact hc 1 _ rfl,i0⟩
theorem pHyps_open {xs:List HypZ} (h:(pHyp.slice e).rep o w xs [v] F):∃ A c,v=.slice A xs.length c∧xs.length≤c∧c≤maxLen∧∀ k (hk:k < xs.length),∃ b off,A=some ⟨b,off,none⟩∧b < w.heap.size∧b∈F ∧
 w.cell? ⟨b,off+k * 2,none⟩=some (.string xs[k].label)∧w.cell? ⟨b,off+k * 2+1,none⟩=some (.int .i64 xs[k].cost)∧xs[k].label.size≤maxLen∧I64 xs[k].cost:=by
 obtain ⟨A,c,g1,g2,g3,g4⟩:=flat_open h;refine ⟨A,c,g1,g2,g3,fun k hk=>?_⟩;obtain ⟨b,off,hA,hb,hin,hc,i0⟩:=g4 k hk;exact ⟨b,off,hA,hb,hin,hc 0 _ rfl,by rw [Nat.add_assoc]; exact hc 1 _ rfl,i0⟩
theorem pGroups_open {xs:List (Nat × Nat)} (h:(pGroup.slice e).rep o w xs [v] F):∃ A c,v=.slice A xs.length c∧xs.length≤c∧c≤maxLen∧∀ k (hk:k < xs.length),∃ b off,A=some ⟨b,off,none⟩∧b < w.heap.size∧b∈F ∧
 w.cell? ⟨b,off+k * 2,none⟩=some (.int .i64 xs[k].1)∧w.cell? ⟨b,off+k * 2+1,none⟩=some (.int .i64 xs[k].2):=by
 obtain ⟨A,c,g1,g2,g3,g4⟩:=flat_open h;refine ⟨A,c,g1,g2,g3,fun k hk=>?_⟩;obtain ⟨b,off,hA,hb,hin,hc,i0⟩:=g4 k hk;exact ⟨b,off,hA,hb,hin,hc 0 _ rfl,by rw [Nat.add_assoc]; exact hc 1 _ rfl⟩
theorem pEdges_open {xs:List LEdge} (h:(pEdge.slice e).rep o w xs [v] F):∃ A c,v=.slice A xs.length c∧xs.length≤c∧c≤maxLen∧∀ k (hk:k < xs.length),∃ b off,A=some ⟨b,off,none⟩∧b < w.heap.size∧b∈F ∧
 w.cell? ⟨b,off+k * 4,none⟩=some (.int .i64 xs[k].src)∧w.cell? ⟨b,off+k * 4+1,none⟩=some (.int .i64 xs[k].dst)∧w.cell? ⟨b,off+k * 4+2,none⟩=some (.string xs[k].lab)∧w.cell? ⟨b,off+k * 4+3,none⟩=some (.int .i64 xs[k].cost)∧(xs[k].src < 1048576∧xs[k].dst < 1048576∧xs[k].lab.size≤maxLen∧I64 xs[k].cost):=by
 obtain ⟨A,c,g1,g2,g3,g4⟩:=flat_open h;refine ⟨A,c,g1,g2,g3,fun k hk=>?_⟩;obtain ⟨b,off,hA,hb,hin,hc,i0⟩:=g4 k hk;exact ⟨b,off,hA,hb,hin,hc 0 _ rfl,by rw [Nat.add_assoc]; exact hc 1 _ rfl,by rw [Nat.add_assoc]; exact hc 2 _ rfl,by rw [Nat.add_assoc]; exact hc 3 _ rfl,i0⟩
theorem pFounds_open {xs:List FoundZ} (h:(pFound.slice e).rep o w xs [v] F):∃ A c,v=.slice A xs.length c∧xs.length≤c∧c≤maxLen∧∀ k (hk:k < xs.length),∃ b off,A=some ⟨b,off,none⟩∧b < w.heap.size∧b∈F ∧
 w.cell? ⟨b,off+k * 3,none⟩=some (.string xs[k].word)∧w.cell? ⟨b,off+k * 3+1,none⟩=some (.int .i64 xs[k].path)∧w.cell? ⟨b,off+k * 3+2,none⟩=some (.int .i64 xs[k].own)∧(xs[k].word.size≤maxLen∧I64 xs[k].path∧I64 xs[k].own):=by
 obtain ⟨A,c,g1,g2,g3,g4⟩:=flat_open h;refine ⟨A,c,g1,g2,g3,fun k hk=>?_⟩;obtain ⟨b,off,hA,hb,hin,hc,i0⟩:=g4 k hk;exact ⟨b,off,hA,hb,hin,hc 0 _ rfl,by rw [Nat.add_assoc]; exact hc 1 _ rfl,by rw [Nat.add_assoc]; exact hc 2 _ rfl,i0⟩
end
section
variable {α:Type} {lt:α→α→Bool}
theorem ins_at (o:STO lt) {l:List α} {e:α} {k:Nat} (hl:l.Pairwise (fun x y=>lt x y=true)) (hk:k≤l.length) (h1:∀ j (hj:j < l.length),k≤j→lt e l[j]=true) (h2:∀ (h:0 < k),lt e (l[k - 1]'(by omega))=false):l.take k++e :: l.drop k=insS lt e l:=by
 have a1:∀ x∈l.take k,lt e x=false:=by
  intro x hx;obtain ⟨j,hj,rfl⟩:=List.getElem_of_mem hx;rw [List.length_take] at hj;rw [List.getElem_take];cases hc:lt e (l[j]'(by omega)) with
  | false=>rfl
  | true =>
    have h3:=h2 (by omega);rcases Nat.lt_or_ge j (k - 1) with h | h
    · have:=List.pairwise_iff_getElem.1 hl j (k - 1) (by omega) (by omega) h
      rw [o.tr _ _ _ hc this] at h3; cases h3
    · have:j=k - 1:=by omega
      subst this;rw [hc] at h3; cases h3
 have a2:∀ x∈l.drop k,lt e x=true:=by
  intro x hx;obtain ⟨j,hj,rfl⟩:=List.getElem_of_mem hx;rw [List.getElem_drop];exact h1 _ _ (by omega)
 have e1:l.filter (fun x=>!lt e x)=l.take k:=by
  conv=>lhs; rw [← List.take_append_drop k l]
  rw [List.filter_append,List.filter_eq_self.2 (by intro x hx; simp [a1 x hx]),List.filter_eq_nil_iff.2 (by intro x hx; simp [a2 x hx]),List.append_nil]
 have e2:l.filter (fun x=>lt e x)=l.drop k:=by
  conv=>lhs; rw [← List.take_append_drop k l]
  rw [List.filter_append,List.filter_eq_nil_iff.2 (by intro x hx; simp [a1 x hx]),List.filter_eq_self.2 (by intro x hx; simp [a2 x hx]),List.nil_append]
 rw [insS,e1,e2]
end
section
variable {α:Type} {T:Ty α} {e:TypeId} {w w':World} {xs ys:List α} {v u:Value} {F G G1 Gk G2 Gy:List Nat} {g c k:Nat} {c1 c2 cs rest:List Value} {ck:Value}
theorem row_take (h:Row w g e (cs++rest)) (n:Nat):CellsAt w (some ⟨g,0,none⟩) (cs.take n):=fun _=>⟨g,0,rfl,fun j u hu=>by
 rw [Nat.zero_add];refine h.cell' ?_;have hj:=(List.getElem?_eq_some_iff.1 hu).1;rw [List.length_take] at hj;rw [List.getElem?_append_left (by omega)];rw [List.getElem?_take] at hu
 split at hu
 · exact hu
 · cases hu⟩
theorem own_cases (h:(T.slice e).rep true w xs [v] F):(v=.slice none 0 0∧xs=[]) ∨
 ∃ g c cs rest G,v=.slice (some ⟨g,0,none⟩) xs.length c∧xs.length≤c∧c≤maxLen∧Row w g e (cs++rest)∧repL T true w xs cs G∧(cs++rest).length=c * T.size∧F=g :: G:=by
 have h':=h;obtain ⟨A,c,ec,F0,F1,hv,rfl,hl,hc,hr,hlt,ha,ho⟩:=h;obtain ⟨h1,h2⟩:=ho rfl;rcases h1.2 with ⟨h3,hn⟩ | ⟨g,cap,cur,h3,_⟩
 · simp only [List.cons.injEq,and_true] at hv
   exact .inl ⟨hv.trans h3,List.eq_nil_of_length_eq_zero hn⟩
 · rw [h3] at h1
   obtain ⟨rest,hrow,_,hlen,_,_⟩:=Row.of_owns h1;injection h3 with e1 _ e2
   subst e1; subst e2
   refine .inr ⟨g,c,ec,rest,F1,by simpa using hv,hl,hc,hrow,hr,hlen,?_⟩;rw [h2]; simp [Value.ownBlock]
end
theorem nodup_app {F G:List Nat} (hF:F.Nodup) (hG:G.Nodup) (h:∀ x,x∈F→x∈G→False):(F++G).Nodup:=List.nodup_append.2 ⟨hF,hG,fun x h1 _ h2 e=>h x h1 (e ▸ h2)⟩
theorem spec_l13Before_c (x y:HypZ) (w:World):Calls Tryz.prog 129 #[.agg #[.string x.label,.int .i64 x.cost],.agg #[.string y.label,.int .i64 y.cost]] w fun e w'=>e=.returned (.bool (hypLt x y))∧Below w.heap.size w w':=by
 obtain ⟨a,n⟩:=x;obtain ⟨b,m⟩:=y;have b2:Below w.heap.size w ((w.alloc (.cells #[.string a,.int .i64 n] 169)).alloc (.cells #[.string b,.int .i64 m] 169)):=((Below.refl _ _).alloc (Nat.le_refl _) _).alloc (by simp) _
 by_cases h1:n < m
 · have e1:decide (n < m)=true:=decide_eq_true h1
   have HE:=Lib.hid (show hypLt ⟨a,n⟩ ⟨b,m⟩=true by simp [hypLt,h1])
   go_enter Tryz.func129,Tryz.ntmps129
   go_wp2_with fail
   go_ret;exact ⟨by rw [HE.out]; rfl,b2⟩
 · have e1:decide (n < m)=false:=decide_eq_false h1
   by_cases h2:n=m
   · subst h2
     have e2:(n == n)=true:=by simp
     cases h3:bLess a b
     all_goals
      have HE:=Lib.hid (show hypLt ⟨a,n⟩ ⟨b,n⟩=bLess a b by simp [hypLt]);rw [h3] at HE;unfold bLess at h3
      go_enter Tryz.func129,Tryz.ntmps129
      go_wp2_with fail
      go_ret;exact ⟨by rw [HE.out]; rfl,b2⟩
   · have e2:(n == m)=false:=beq_false_of_ne h2
     have HE:=Lib.hid (show hypLt ⟨a,n⟩ ⟨b,m⟩=false by simp [hypLt,h1,h2])
     go_enter Tryz.func129,Tryz.ntmps129
     go_wp2_with fail
     go_ret;exact ⟨by rw [HE.out]; rfl,b2⟩
theorem row_dropN {w:World} {g k c sz:Nat} {e:TypeId} {cs rest:List Value} (h:Row w g e (cs++rest)) (hc:(cs++rest).length=c * sz) (hn:k * sz≤cs.length):∃ AD:Addr,(if c=k then (some ⟨g,0,none⟩:Option Addr) else some ⟨g,k * sz,none⟩)=some AD∧CellsAt w (some AD) (cs.drop (k * sz)):=by
 by_cases hcn:c=k
 · refine ⟨⟨g,0,none⟩,by rw [if_pos hcn],fun hp=>?_⟩
   rw [List.length_append] at hc;rw [List.length_drop] at hp;subst hcn; omega
 · refine ⟨⟨g,k * sz,none⟩,by rw [if_neg hcn],fun _=>⟨g,k * sz,rfl,fun j u hu=>h.cell' ?_⟩⟩
   have hj:=(List.getElem?_eq_some_iff.1 hu).1;rw [List.length_drop] at hj;rw [List.getElem?_append_left (by omega)]
   rwa [List.getElem?_drop] at hu
theorem cellsAt_later {w w':World} {A:Option Addr} {cs:List Value} (h:CellsAt w A cs) (hl:∀ a,A=some a→a.block < w.heap.size) (hb:Below w.heap.size w w'):CellsAt w' A cs:=fun h0=>by
 obtain ⟨b,off,rfl,hc⟩:=h h0;exact ⟨b,off,rfl,fun j u hu=>(hb.cell (p:=⟨b,off+j,none⟩) (hl ⟨b,off,none⟩ rfl)).trans (hc j u hu)⟩
section
variable {α:Type} {n:Nat} {enc:α→List Value} {ok:α→Prop} {h1:∀ a,(enc a).length=n} {h2:∀ a u,u∈enc a→u.oneCell'=true} {w:World} {e:TypeId}
theorem flatMap_take (h1:∀ a,(enc a).length=n):∀ (xs:List α) (k:Nat),(xs.flatMap enc).take (k * n)=(xs.take k).flatMap enc
 | [],k=>by simp
 | x :: xs,0=>by simp
 | x :: xs,k+1=>by
   rw [List.flatMap_cons,List.take_succ_cons,List.flatMap_cons,Nat.add_mul,Nat.one_mul,Nat.add_comm,List.take_append,List.take_of_length_le (by rw [h1]; omega),h1,Nat.add_sub_cancel_left,flatMap_take h1 xs k]
theorem flatMap_drop (h1:∀ a,(enc a).length=n):∀ (xs:List α) (k:Nat),(xs.flatMap enc).drop (k * n)=(xs.drop k).flatMap enc
 | [],k=>by simp
 | x :: xs,0=>by simp
 | x :: xs,k+1=>by
   rw [List.flatMap_cons,List.drop_succ_cons,Nat.add_mul,Nat.one_mul,Nat.add_comm,List.drop_append,h1,Nat.add_sub_cancel_left,List.drop_of_length_le (by rw [h1]; omega),List.nil_append,flatMap_drop h1 xs k]
theorem flat_parts {xs:List α} {v:Value} {F:List Nat} (h:((Ty.flat n enc ok h1 h2).slice e).rep true w xs [v] F) {k:Nat} (hk:k≤xs.length) :
 (v=.slice none 0 0∧xs=[])∨∃ g c AD,v=.slice (some ⟨g,0,none⟩) xs.length c∧xs.length≤c∧c≤maxLen∧F=[g]∧g < w.heap.size∧CellsAt w (some ⟨g,0,none⟩) ((xs.take k).flatMap enc)∧(if c=k then (some ⟨g,0,none⟩:Option Addr) else some ⟨g,k * n,none⟩)=some AD∧CellsAt w (some AD) ((xs.drop k).flatMap enc):=by
 rcases own_cases h with ⟨h3,h4⟩ | ⟨g,c,cs,rest,G,h3,h4,h5,h6,h7,h8,h9⟩
 · exact .inl ⟨h3,h4⟩
 · obtain ⟨rfl,rfl,-⟩:=flat_repL_inv h7
   have hl:(xs.flatMap enc).length=xs.length * n:=by
    have:=repL_len (T:=Ty.flat n enc ok h1 h2) h7;exact this
   obtain ⟨AD,h10,h11⟩:=row_dropN (k:=k) (sz:=n) h6 h8 (by rw [hl]; exact Nat.mul_le_mul_right n hk);have ht:=row_take h6 (k * n);rw [flatMap_take h1] at ht;rw [flatMap_drop h1] at h11;exact .inr ⟨g,c,AD,h3,h4,h5,h9,h6.lt,ht,h10,h11⟩
end
theorem tdiv_small {n d m:Int} (h:-m≤n∧n≤m):-m≤n.tdiv d∧n.tdiv d≤m:=by
 have:=Int.natAbs_tdiv_le_natAbs n d;omega
theorem tmod_small {n d:Int} (hd:0 < d):-d < n.tmod d∧n.tmod d < d:=⟨Int.lt_tmod_of_pos n hd,Int.tmod_lt_of_pos n hd⟩
theorem spec_l05Down_c (n d:Int) (w:World) (hd:0 < d) (hn:-4611686018427387904≤n∧n≤4611686018427387904) (hd2:d≤4611686018427387904) :
 Calls Tryz.prog 133 #[.int .i64 n,.int .i64 d] w fun e w'=>e=.returned (.int .i64 (n / d))∧w'=w:=by
 have hq:=floor_div (n:=n) hd;have h1:=tdiv_small (d:=d) hn;have h2:=tmod_small (n:=n) hd;have nz:(d == 0)=false:=by simp; omega
 have nz2:¬ d=0:=by omega
 have k1:=IntWalk.i64_in (n.tdiv d) (by omega);have k2:=IntWalk.i64_in (n.tmod d) (by omega);have k3:=IntWalk.i64_in (n.tdiv d - 1) (by omega)
 by_cases hlt:n.tmod d < 0
 · rw [if_pos hlt] at hq
   rw [← hq];clear hq
   go_enter Tryz.func133,Tryz.ntmps133
   go_wp2_with fail
   go_ret;exact ⟨rfl,rfl⟩
 · rw [if_neg hlt] at hq
   rw [← hq];clear hq
   go_enter Tryz.func133,Tryz.ntmps133
   go_wp2_with fail
   go_ret;exact ⟨rfl,rfl⟩
theorem spec_l05Near_c (n d:Int) (w:World) (hd:0 < d) (hn:-1152921504606846976≤n∧n≤1152921504606846976) (hd2:d≤1152921504606846976) :
 Calls Tryz.prog 121 #[.int .i64 n,.int .i64 d] w fun e w'=>e=.returned (.int .i64 (nearZ n d))∧w'=w:=by
 have C:=Lib.hid (spec_l05Down_c (2 * n+d) (2 * d) w (by omega) (by omega) (by omega));have k1:=IntWalk.i64_in (2 * n) (by omega);have k2:=IntWalk.i64_in (2 * n+d) (by omega);have k3:=IntWalk.i64_in (2 * d) (by omega)
 go_enter Tryz.func121,Tryz.ntmps121
 go_wp2_with fail
 refine C.out.mono ?_;rintro e w1 ⟨rfl,rfl⟩
 go_wp2_with fail
 go_ret;exact ⟨rfl,rfl⟩
def stepZ (n r:Int):Int:=(r+n / r) / 2
theorem stepZ_nat (n r:Nat):stepZ n r=(((r+n / r) / 2:Nat):Int):=by unfold stepZ; omega
structure Newt (n r:Int):Prop where
 pos:0 < r
 ge:((rootN n.toNat:Nat):Int)≤r
 le:r≤131072
 quo:0≤n / r∧n / r≤8585740800
theorem Newt.of {n:Int} {r:Nat} (h0:0≤n) (hn:n≤8585740800) (hr:0 < r) (h:rootN n.toNat≤r) (hl:r≤131072):Newt n r :=
 ⟨by omega,by omega,by omega,⟨Int.ediv_nonneg h0 (by omega),Int.le_trans (Int.ediv_le_self _ h0) hn⟩⟩
theorem Newt.next {n r:Int} (h0:0 < n) (hn:n≤8585740800) (h:Newt n r) (hlt:stepZ n r < r):Newt n (stepZ n r):=by
 obtain ⟨m,rfl⟩:=Int.eq_ofNat_of_zero_le (show 0≤n by omega);obtain ⟨k,rfl⟩:=Int.eq_ofNat_of_zero_le (show 0≤r by have:=h.pos; omega);have hp:=h.pos;have hl:=h.le;rw [stepZ_nat] at *;have hge:=newton_ge (r:=k) (n:=m) (by omega)
 have hr1:0 < rootN m:=by
  have:=rootN_is m;rcases Nat.eq_zero_or_pos (rootN m) with h | h
  · have h2:=this.2; rw [h] at h2; omega
  · exact h
 exact Newt.of (by omega) hn (by omega) (by rw [Int.toNat_natCast]; exact hge) (by omega)
theorem Newt.done {n r:Int} (h0:0 < n) (h:Newt n r) (hge:¬ stepZ n r < r):r=((rootN n.toNat:Nat):Int):=by
 obtain ⟨m,rfl⟩:=Int.eq_ofNat_of_zero_le (show 0≤n by omega);obtain ⟨k,rfl⟩:=Int.eq_ofNat_of_zero_le (show 0≤r by have:=h.pos; omega);have hp:=h.pos;have hg:=h.ge;rw [stepZ_nat] at hge;rw [Int.toNat_natCast] at *;have:=newton_done (r:=k) (n:=m) (by omega) (by omega) (by omega);omega
structure NewtW (n r:Int):Prop where
 a:IntKind.i64.wrap (n / r)=n / r
 b:IntKind.i64.wrap (r+n / r)=r+n / r
 c:IntKind.i64.wrap ((r+n / r) / 2)=stepZ n r
 d:n.tdiv r=n / r
 e:(r+n / r).tdiv 2=(r+n / r) / 2
 f:(r == 0)=false
 g:r≠0
theorem Newt.walk {n r:Int} (h0:0≤n) (h:Newt n r):NewtW n r:=by
 have hp:=h.pos;have hl:=h.le;have hq:=h.quo;exact ⟨IntWalk.i64_in _ (by omega),IntWalk.i64_in _ (by omega),IntWalk.i64_in _ (by omega),Int.tdiv_eq_ediv_of_nonneg h0,Int.tdiv_eq_ediv_of_nonneg (by omega),by simp; omega,by omega⟩
theorem root_iff {m n:Nat}:m * m≤n↔m≤rootN n:=by
 have h:=rootN_is n;constructor
 · intro hm
   rcases Nat.lt_or_ge (rootN n) m with h1 | h1
   · have:(rootN n+1) * (rootN n+1)≤m * m:=Nat.mul_le_mul (by omega) (by omega)
     have:=h.2; omega
   · exact h1
 · intro hm
   exact Nat.le_trans (Nat.mul_le_mul hm hm) h.1
theorem root_iffZ {m n:Int} (hm:0≤m) (hn:0≤n):m * m≤n↔m≤((rootN n.toNat:Nat):Int):=by
 obtain ⟨k,rfl⟩:=Int.eq_ofNat_of_zero_le hm;obtain ⟨j,rfl⟩:=Int.eq_ofNat_of_zero_le hn;rw [Int.toNat_natCast];have:=root_iff (m:=k) (n:=j);constructor
 · intro h
   have h2:k * k≤j:=by exact_mod_cast h
   have:=this.1 h2; omega
 · intro h
   have h2:k≤rootN j:=by omega
   exact_mod_cast this.2 h2
theorem spec_l05Root_c (n:Int) (w:World) (hn0:0≤n) (hn:n≤8585740800) :
 Calls Tryz.prog 137 #[.int .i64 n] w fun e w'=>e=.returned (.int .i64 (rootN n.toNat:Nat))∧w'=w:=by
 have hR0:((rootN n.toNat:Nat):Int)≤40000000:=by
  have:=rootN_le (n:=n.toNat) (b:=40000000) (by omega); omega
 generalize hR:((rootN n.toNat:Nat):Int)=R at hR0 ⊢;have hR1:0≤R:=by omega
 have HI:=Lib.hid (fun m (hm:0≤m)=>(root_iffZ hm hn0).trans (by rw [hR]));clear hR
 go_enter Tryz.func137,Tryz.ntmps137
 go_wp2_with fail
 go_loopw [3,4] (fun a b wr=>∃ lo hi:Int,a=.int .i64 lo∧b=.int .i64 hi∧0≤lo∧lo≤R∧R≤hi∧hi≤40000000∧wr=w) (fun a b _=>(intOf b - intOf a).toNat)
 case atStart=>exact ⟨0,40000000,rfl,rfl,by omega,hR1,hR0,by omega,rfl⟩
 case round =>
  obtain ⟨lo,hi,rfl,rfl,h0,h1,h2,h3,rfl⟩:=hrel
  by_cases hlt:lo < hi
  · have k1:=IntWalk.i64_in (lo+hi) (by omega)
    have k2:=IntWalk.i64_in (lo+hi+1) (by omega);have k3:(lo+hi+1).tdiv 2=(lo+hi+1) / 2:=Int.tdiv_eq_ediv_of_nonneg (by omega);have k4:=IntWalk.i64_in ((lo+hi+1) / 2) (by omega);obtain ⟨m,hm⟩:∃ m,(lo+hi+1) / 2=m:=⟨_,rfl⟩
    have hm1:lo < m∧m≤hi:=by omega
    rw [hm] at k3 k4;have hmm:=HI.out m (by omega)
    have hmx:0≤m * m∧m * m≤1600000000000000:=by
     constructor
     · exact Int.mul_nonneg (by omega) (by omega)
     · exact Int.le_trans (Int.mul_le_mul (show m≤40000000 by omega) (show m≤40000000 by omega) (by omega) (by omega)) (by omega)
    have k5:=IntWalk.i64_in (m * m) (by omega);have k6:=IntWalk.i64_in (m - 1) (by omega)
    by_cases hle:m * m≤n
    · have hmr:=hmm.1 hle
      clear hmm hmx;have HM:=Lib.hid hm;clear hm
      go_wp2_with fail
      go_roundw
      case rel=>exact ⟨m,hi,rfl,rfl,by omega,by omega,by omega,by omega,by first | rfl | trivial⟩
      case measure=>simp [intOf]; omega
    · have hmr:¬ m≤R:=fun h=>hle (hmm.2 h)
      clear hmm hmx;have HM:=Lib.hid hm;clear hm
      go_wp2_with fail
      go_roundw
      case rel=>exact ⟨lo,m - 1,rfl,by go_num,by omega,by omega,by omega,by omega,by first | rfl | trivial⟩
      case measure=>simp [intOf]; omega
  · obtain rfl:lo=R:=by omega
    go_wp2_with fail
    go_ret;exact ⟨rfl,rfl⟩
theorem spec_l05Far_c (a b:PPoint) (w:World) (ha:pointB a=true) (hb:pointB b=true) :
 Calls Tryz.prog 138 #[.agg #[.int .i64 a.x,.int .i64 a.y,.int .i64 a.t],.agg #[.int .i64 b.x,.int .i64 b.y,.int .i64 b.t]] w fun e w'=>e=.returned (.int .i64 (farZ a b))∧Below w.heap.size w w':=by
 obtain ⟨a1,a2,a3,a4,a5,a6⟩:=pointB_in ha;obtain ⟨b1,b2,b3,b4,b5,b6⟩:=pointB_in hb;have k1:=IntWalk.i64_in (a.x - b.x) (by omega);have k2:=IntWalk.i64_in (a.y - b.y) (by omega);have s1:=sq_small (x:=a.x - b.x) (by omega) (by omega);have s2:=sq_small (x:=a.y - b.y) (by omega) (by omega);have k3:=IntWalk.i64_in ((a.x - b.x) * (a.x - b.x)) (by omega);have k4:=IntWalk.i64_in ((a.y - b.y) * (a.y - b.y)) (by omega);have k5:=IntWalk.i64_in ((a.x - b.x) * (a.x - b.x)+(a.y - b.y) * (a.y - b.y)) (by omega);have bb:Below w.heap.size w ((w.alloc (.cells #[.int .i64 a.x,.int .i64 a.y,.int .i64 a.t] 85)).alloc (.cells #[.int .i64 b.x,.int .i64 b.y,.int .i64 b.t] 85)):=((Below.refl _ _).alloc (Nat.le_refl _) _).alloc (by simp) _;clear a1 a2 a3 a4 a5 a6 b1 b2 b3 b4 b5 b6 s1 s2
 go_enter Tryz.func138,Tryz.ntmps138
 go_wp2_with fail
 go_ret;exact ⟨rfl,bb⟩
theorem spec_l05Length_c (a b:PPoint) (w:World) (ha:pointB a=true) (hb:pointB b=true) :
 Calls Tryz.prog 131 #[.agg #[.int .i64 a.x,.int .i64 a.y,.int .i64 a.t],.agg #[.int .i64 b.x,.int .i64 b.y,.int .i64 b.t]] w fun e w'=>e=.returned (.int .i64 (lenZ a b))∧Below w.heap.size w w':=by
 have bb:Below w.heap.size w ((w.alloc (.cells #[.int .i64 a.x,.int .i64 a.y,.int .i64 a.t] 85)).alloc (.cells #[.int .i64 b.x,.int .i64 b.y,.int .i64 b.t] 85)):=((Below.refl _ _).alloc (Nat.le_refl _) _).alloc (by simp) _;have CF:=Lib.hid (spec_l05Far_c a b ((w.alloc (.cells #[.int .i64 a.x,.int .i64 a.y,.int .i64 a.t] 85)).alloc (.cells #[.int .i64 b.x,.int .i64 b.y,.int .i64 b.t] 85)) ha hb);have hf:=farZ_small ha hb;have k1:=IntWalk.i64_in (256 * farZ a b) (by omega);have CR:=Lib.hid (fun w=>spec_l05Root_c (256 * farZ a b) w (by omega) (by omega));have hl:lenZ a b=((rootN (256 * farZ a b).toNat:Nat):Int):=rfl;rw [hl];generalize farZ a b=f at *;clear hl hf ha hb
 go_enter Tryz.func131,Tryz.ntmps131
 go_wp2_with fail
 refine CF.out.mono ?_;rintro e w1 ⟨rfl,b1⟩;replace bb:=bb.trans (b1.mono bb.size)
 go_wp2_with fail
 refine (CR.out _).mono ?_;rintro e w2 ⟨rfl,rfl⟩
 go_wp2_with fail
 go_ret;exact ⟨rfl,bb⟩
def nums (e:TypeId):Ty (List Int):=int64.slice e
theorem nums_open {o:Bool} {w:World} {e:TypeId} {xs:List Int} {v:Value} {F:List Nat} (h:(nums e).rep o w xs [v] F) :
 ∃ A c,v=.slice A xs.length c∧xs.length≤c∧c≤maxLen∧∀ k (hk:k < xs.length),∃ b off,A=some ⟨b,off,none⟩∧b < w.heap.size∧b∈F∧w.cell? ⟨b,off+k,none⟩=some (.int .i64 xs[k])∧I64 xs[k]:=by
 obtain ⟨A,c,hv,h1,h2,h3⟩:=slice_open h;refine ⟨A,c,hv,h1,h2,fun k hk=>?_⟩;obtain ⟨b,off,ck,Fk,hA,hb,hin,hr,_,hc⟩:=h3 k hk;obtain ⟨rfl,rfl,i1⟩:=int64_rep.1 hr;have h0:=hc 0 _ rfl;rw [show k * int64.size+0=k from Nat.mul_one k] at h0;exact ⟨b,off,hA,hb,hin,h0,i1⟩
theorem repL_nums {o:Bool} {w:World}:∀ (xs:List Int),(∀ s∈xs,I64 s)→repL int64 o w xs (xs.map (.int .i64)) []
 | [],_=>⟨rfl,rfl⟩
 | s :: r,h=>⟨[.int .i64 s],_,[],[],rfl,rfl,int64_rep.2 ⟨rfl,rfl,h s (by simp)⟩,repL_nums r (fun t ht=>h t (by simp [ht]))⟩
section
variable {w:World} {g:Nat} {e:TypeId} {cs:List Value}
theorem Row.range (R:Row w g e cs):w.rangeAt g 0 cs:=fun j v hv=>by rw [Nat.zero_add]; exact R.cell' hv
theorem Row.there (R:Row w g e cs):w.there g 0 cs.length:=fun j hj=>by
 obtain ⟨⟨u,hu⟩,hf⟩:=R.can (i:=j) hj;rw [Nat.zero_add];exact ⟨by rw [hu]; rfl,hf⟩
theorem Row.setCells_at:∀ (vs cs pre:List Value) (w:World),vs.length=cs.length→Row w g e (pre++cs)→Row (w.setCells g pre.length vs) g e (pre++vs)
 | [],[],pre,w,_,R=>R
 | [],_ :: _,_,_,h,_=>by simp at h
 | _ :: _,[],_,_,h,_=>by simp at h
 | v :: r,c :: cs,pre,w,h,R=>by
   have R1:=R.set pre.length v;have e1:(pre++c :: cs).set pre.length v=(pre++[v])++cs:=by rw [List.set_append_right _ _ (Nat.le_refl _),Nat.sub_self]; simp
   rw [e1] at R1;have R2:=Row.setCells_at r cs (pre++[v]) _ (by simpa using h) R1;rw [List.length_append,List.length_singleton,List.append_assoc] at R2;exact R2
theorem Row.setCells (R:Row w g e cs) {vs:List Value} (h:vs.length=cs.length):Row (w.setCells g 0 vs) g e vs:=Row.setCells_at vs cs [] w h R
end
theorem Only.setCells {F:List Nat} {a:World} {b:Nat} (hb:b∈F):∀ (vs:List Value) (o:Nat) (w:World),Only F a w→Only F a (w.setCells b o vs)
 | [],_,_,h=>h
 | v :: r,o,_w,h=>Only.setCells hb r (o+1) _ (h.set (p:=⟨b,o,none⟩) hb v)
end Go.Proofs.YtafgknkcjohjeaaGreatDoor

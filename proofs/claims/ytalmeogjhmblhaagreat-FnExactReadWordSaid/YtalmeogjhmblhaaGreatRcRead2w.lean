/- The recogniser as plain functions: orders, groups, small costs; a word that is read is a word. No program is named here. Conditions: none. -/
import Derived.Test.YtalmeogjhmblhaaGreatInkFw
import Derived.Deep.RegionHeld3
import Derived.Test.YtalmeogjhmblhaaGreatTyStepw
import Derived.Test.YtalmeogjhmblhaaGreatRows
import Derived.Test.YtalmeogjhmblhaaGreatAppendw
namespace Go.Proofs.YtalmeogjhmblhaaGreat
open Go Go.RowKit
theorem hypLt_iff {x y:HypZ}:hypLt x y=true↔x.cost < y.cost∨x.cost=y.cost∧bLess x.label y.label=true:=by
 rw [hypLt,Bool.or_eq_true,Bool.and_eq_true,decide_eq_true_iff,decide_eq_true_iff]
theorem hypLt_sto:STO hypLt:=by
 refine ⟨fun a=>?_,fun a b c h1 h2=>?_,fun a b h1 h2=>?_⟩
 · rw [Bool.eq_false_iff,Ne,hypLt_iff,bLess_sto.irr]; simp
 · rw [hypLt_iff] at *
   rcases h1 with h1 | ⟨h1,h1'⟩
   · rcases h2 with h2 | ⟨h2,_⟩
     · left; omega
     · left; omega
   · rcases h2 with h2 | ⟨h2,h2'⟩
     · left; omega
     · exact .inr ⟨by omega,bLess_sto.tr _ _ _ h1' h2'⟩
 · rw [Bool.eq_false_iff,Ne,hypLt_iff] at h1 h2
   have hc:a.cost=b.cost:=by
    rcases Int.lt_trichotomy a.cost b.cost with h | h | h
    · exact absurd (.inl h) h1
    · exact h
    · exact absurd (.inl h) h2
   have hl:a.label=b.label:=bLess_sto.tot _ _ (by rw [Bool.eq_false_iff]; exact fun h=>h1 (.inr ⟨hc,h⟩)) (by rw [Bool.eq_false_iff]; exact fun h=>h2 (.inr ⟨hc.symm,h⟩));obtain ⟨l,c⟩:=a;obtain ⟨l',c'⟩:=b;simp only at hc hl;rw [hc,hl]
theorem foundLt_iff {x y:FoundZ}:foundLt x y=true↔x.path+x.own < y.path+y.own∨x.path+x.own=y.path+y.own∧(x.word.size < y.word.size∨x.word.size=y.word.size∧(bLess x.word y.word=true∨x.word=y.word∧x.path < y.path)):=by
 simp only [foundLt,Bool.or_eq_true,Bool.and_eq_true,decide_eq_true_iff]
theorem foundLt_sto:STO foundLt:=by
 refine ⟨fun a=>?_,fun a b c h1 h2=>?_,fun a b h1 h2=>?_⟩
 · rw [Bool.eq_false_iff,Ne,foundLt_iff,bLess_sto.irr]; simp
 · rw [foundLt_iff] at *
   rcases h1 with h1 | ⟨h1,h1'⟩
   · rcases h2 with h2 | ⟨h2,_⟩
     · left; omega
     · left; omega
   · rcases h2 with h2 | ⟨h2,h2'⟩
     · left; omega
     · refine .inr ⟨by omega,?_⟩
       rcases h1' with h1' | ⟨h1',h1''⟩
       · rcases h2' with h2' | ⟨h2',_⟩
         · left; omega
         · left; omega
       · rcases h2' with h2' | ⟨h2',h2''⟩
         · left; omega
         · refine .inr ⟨by omega,?_⟩
           rcases h1'' with k1 | ⟨k1,k1'⟩
           · rcases h2'' with k2 | ⟨k2,_⟩
             · exact .inl (bLess_sto.tr _ _ _ k1 k2)
             · exact .inl (k2 ▸ k1)
           · rcases h2'' with k2 | ⟨k2,k2'⟩
             · exact .inl (k1 ▸ k2)
             · exact .inr ⟨k1.trans k2,by omega⟩
 · rw [Bool.eq_false_iff,Ne,foundLt_iff] at h1 h2
   have hs:a.path+a.own=b.path+b.own:=by
    rcases Int.lt_trichotomy (a.path+a.own) (b.path+b.own) with h | h | h
    · exact absurd (.inl h) h1
    · exact h
    · exact absurd (.inl h) h2
   have hw:a.word.size=b.word.size:=by
    rcases Nat.lt_trichotomy a.word.size b.word.size with h | h | h
    · exact absurd (.inr ⟨hs,.inl h⟩) h1
    · exact h
    · exact absurd (.inr ⟨hs.symm,.inl h⟩) h2
   have hword:a.word=b.word:=bLess_sto.tot _ _ (by rw [Bool.eq_false_iff]; exact fun h=>h1 (.inr ⟨hs,.inr ⟨hw,.inl h⟩⟩)) (by rw [Bool.eq_false_iff]; exact fun h=>h2 (.inr ⟨hs.symm,.inr ⟨hw.symm,.inl h⟩⟩))
   have hp:a.path=b.path:=by
    rcases Int.lt_trichotomy a.path b.path with h | h | h
    · exact absurd (.inr ⟨hs,.inr ⟨hw,.inr ⟨hword,h⟩⟩⟩) h1
    · exact h
    · exact absurd (.inr ⟨hs.symm,.inr ⟨hw.symm,.inr ⟨hword.symm,h⟩⟩⟩) h2
   obtain ⟨w,q,o⟩:=a;obtain ⟨w',q',o'⟩:=b;simp only at hs hword hp;have ho:o=o':=by omega
   rw [hword,hp,ho]
theorem mem_groupsZ {n a b:Nat}:(a,b)∈groupsZ n↔a < b∧b≤a+3∧b≤n:=by
 rw [groupsZ,List.mem_flatMap];constructor
 · rintro ⟨c,hc,h⟩
   obtain ⟨d,hd,he⟩:=List.mem_map.1 h;rw [List.mem_filter,List.mem_range,Bool.and_eq_true,decide_eq_true_iff,decide_eq_true_iff] at hd;rw [List.mem_range] at hc;obtain ⟨rfl,rfl⟩:=Prod.mk.inj he;omega
 · rintro ⟨h1,h2,h3⟩
   refine ⟨a,List.mem_range.2 (by omega),List.mem_map.2 ⟨b,?_,rfl⟩⟩;rw [List.mem_filter,List.mem_range,Bool.and_eq_true,decide_eq_true_iff,decide_eq_true_iff];omega
theorem orderZ_home (xs:List PStroke) (d h:Nat) (hh:(if d < xs.length then homeZ xs d else none)=some h):h < xs.length∧(if h < xs.length then homeZ xs h else none)=none:=by
 split at hh
 · rename_i hd
   have:=homeZ_ok xs d h hh;exact ⟨by omega,by rw [if_pos (by omega)]; exact this.2⟩
 · cases hh
theorem orderZ_perm (xs:List PStroke):(orderZ xs).Perm (List.range xs.length):=orderN_perm _ _ (orderZ_home xs)
theorem orderZ_len (xs:List PStroke):(orderZ xs).length=xs.length:=orderN_len _ _ (orderZ_home xs)
theorem orderZ_nodup (xs:List PStroke):(orderZ xs).Nodup:=orderN_nodup _ _
theorem orderZ_lt {xs:List PStroke} {k:Nat} (h:k∈orderZ xs):k < xs.length:=List.mem_range.1 ((orderZ_perm xs).mem_iff.1 h)
theorem groupInk_len {xs:List PStroke} {a b:Nat} (h:b≤xs.length):(groupInk xs a b).length=b - a:=by
 rw [groupInk,List.length_map];have hn:(((orderZ xs).take b).drop a).Nodup:=((orderZ_nodup xs).sublist (List.take_sublist b _)).sublist (List.drop_sublist a _)
 have hp:((List.range xs.length).filter fun k=>decide (k∈((orderZ xs).take b).drop a)).Perm (((orderZ xs).take b).drop a):=by
  refine (List.perm_ext_iff_of_nodup (List.nodup_range.filter _) hn).2 fun k=>?_
  rw [List.mem_filter,List.mem_range,decide_eq_true_iff];exact ⟨fun h=>h.2,fun h=>⟨orderZ_lt (List.mem_of_mem_take (List.mem_of_mem_drop h)),h⟩⟩
 rw [hp.length_eq,List.length_drop,List.length_take,orderZ_len];omega
theorem groupInk_ok {xs:List PStroke} (hx:inkB xs=true) (a b:Nat):∀ s∈groupInk xs a b,strokeB s=true:=by
 intro s hs;obtain ⟨k,hk,rfl⟩:=List.mem_map.1 hs;have:=List.mem_range.1 (List.mem_filter.1 hk).1;rw [strk_get this];exact inkB_stroke hx this
theorem setup_parts {p:PSetup} (h:setupB p=true):(∀ t∈p.temps,tempB t=true)∧(0≤p.band∧p.band≤72)∧p.temps.length≤40∧(2≤p.points∧p.points≤24)∧(1≤p.most∧p.most≤8)∧(0≤p.pen∧p.pen≤1000)∧lexB p.entries=true∧modelB p.dflt p.bigrams=true∧(1≤p.pause∧p.pause≤60000):=by
 simp only [setupB,storeB,settingB,inR,Bool.and_eq_true,decide_eq_true_eq,List.all_eq_true] at h;exact ⟨h.1.1,h.1.2.1,h.1.2.2,h.2.1.1,h.2.1.2.1,h.2.1.2.2,h.2.2.1,h.2.2.2.1,h.2.2.2.2⟩
theorem tempB_parts {t:PTemp} (h:tempB t=true):labelB t.label=true∧(∀ f∈t.feats,featB f=true)∧1≤t.feats.length∧t.feats.length≤72:=by
 simp only [tempB,featsB,Bool.and_eq_true,decide_eq_true_eq,List.all_eq_true] at h;exact ⟨h.1,h.2.1,h.2.2⟩
theorem rawHyps_ok {p:PSetup} (hp:setupB p=true) {xs:List PStroke} (hx:∀ s∈xs,strokeB s=true) (h1:1≤xs.length) (h3:xs.length≤3) (h72:(xs.length:Int) * p.points≤72):∀ h∈rawHyps p (featsInk xs p.points.toNat) (p.pen * ((xs.length:Int) - 1)),labelB h.label=true∧0≤h.cost∧h.cost≤84082:=by
 intro h hh;obtain ⟨s1,s2,s3,s4,s5,s6,-,-,-⟩:=setup_parts hp;obtain ⟨t,ht,rfl⟩:=List.mem_map.1 hh;obtain ⟨ht,hb⟩:=List.mem_filter.1 ht;obtain ⟨t1,t2,t3,t4⟩:=tempB_parts (s1 t ht);have hlen:=featsInk_len xs p.points.toNat;have hpt:(p.points.toNat:Int)=p.points:=Int.toNat_of_nonneg (by omega);have hl:((xs.length * p.points.toNat:Nat):Int)=(xs.length:Int) * p.points:=by push_cast; rw [hpt]
 have hl1:1≤xs.length * p.points.toNat:=Nat.mul_pos h1 (by omega);obtain ⟨v,hv,v0,v1⟩:=elZ_some (featsInk_ok hx (by omega)) t2 (by rw [hlen]; exact hl1) t3 (by rw [hlen]; omega) t4 hb;have hpen0:0≤p.pen * ((xs.length:Int) - 1):=Int.mul_nonneg s6.1 (by omega);have hpen1:p.pen * ((xs.length:Int) - 1)≤1000 * 2:=Int.mul_le_mul s6.2 (by omega) (by omega) (by decide);refine ⟨t1,?_,?_⟩
 · show 0≤(elZ _ _ _).getD 0+_
   rw [hv,Option.getD_some]; omega
 · show (elZ _ _ _).getD 0+_≤84082
   rw [hv,Option.getD_some]; omega
theorem hypsZ_best (p:PSetup) (xs:List PStroke):Best hypLt HypZ.label (rawHyps p (featsInk xs p.points.toNat) (p.pen * ((xs.length:Int) - 1))) ((rawHyps p (featsInk xs p.points.toNat) (p.pen * ((xs.length:Int) - 1))).foldl (insK hypLt HypZ.label) []):=by
 have:=best_ins (key:=HypZ.label) hypLt_sto (rawHyps p (featsInk xs p.points.toNat) (p.pen * ((xs.length:Int) - 1))) [] [] .nil
 rwa [List.nil_append] at this
theorem hypsZ_mem {p:PSetup} {xs:List PStroke} {h:HypZ} (hh:h∈hypsZ p xs):h∈rawHyps p (featsInk xs p.points.toNat) (p.pen * ((xs.length:Int) - 1)) :=
 (((hypsZ_best p xs).mem h).1 (List.mem_of_mem_take hh)).1
theorem hypsZ_few {p:PSetup} (hp:setupB p=true) (xs:List PStroke):(hypsZ p xs).length≤8:=by
 obtain ⟨s1,s2,s3,s4,s5,s6,-,-,-⟩:=setup_parts hp;rw [hypsZ,List.length_take]; omega
theorem hypsZ_labels (p:PSetup) (xs:List PStroke):(hypsZ p xs).Pairwise fun x y=>x.label≠y.label:=by
 have b:=hypsZ_best p xs
 have key:((rawHyps p (featsInk xs p.points.toNat) (p.pen * ((xs.length:Int) - 1))).foldl (insK hypLt HypZ.label) []).Pairwise fun x y=>x.label≠y.label:=by
  refine List.Pairwise.imp_of_mem ?_ b.sorted;intro x y hx hy hlt he;have:=((b.mem y).1 hy).2 x ((b.mem x).1 hx).1 he;rw [hlt] at this; cases this
 rw [hypsZ];exact key.sublist (List.take_sublist _ _)
theorem edgesZ_ok {p:PSetup} (hp:setupB p=true) {xs:List PStroke} (hx:inkB xs=true):∀ e∈edgesZ p xs,e.src < e.dst∧e.dst≤xs.length∧labelB e.lab=true∧0≤e.cost∧e.cost≤84082:=by
 intro e he;obtain ⟨⟨a,b⟩,hg,he⟩:=List.mem_flatMap.1 he;rw [mem_groupsZ] at hg;obtain ⟨g1,g2,g3⟩:=hg;rw [groupE] at he
 split at he
 · rename_i h72
   obtain ⟨h,hh,rfl⟩:=List.mem_map.1 he;have hl:=groupInk_len (a:=a) g3;have:=rawHyps_ok hp (groupInk_ok hx a b) (by omega) (by omega) (by rw [hl]; exact h72) h (hypsZ_mem hh);exact ⟨g1,g3,this⟩
 · cases he
theorem insS_perm {α:Type} {lt:α→α→Bool} (h:α) (l:List α):(insS lt h l).Perm (h :: l):=by
 rw [insS];refine List.perm_middle.trans (List.Perm.cons _ ?_);have e:(fun x=>lt h x)=fun x=>!(fun x=>!lt h x) x:=by funext x; simp
 rw [e];exact List.filter_append_perm _ _
theorem sortedF_perm (l:List FoundZ):(sortedF l).Perm l:=by
 have key:∀ (l s:List FoundZ),(l.foldl (fun l h=>insS foundLt h l) s).Perm (l.reverse++s):=by
  intro l
  induction l with
  | nil=>intro s; exact List.Perm.refl _
  | cons a l ih =>
    intro s;rw [List.foldl_cons,List.reverse_cons,List.append_assoc];exact (ih _).trans ((insS_perm a s).append_left _)
 have:=key l [];rw [List.append_nil] at this;exact this.trans (List.reverse_perm l)
theorem bestF_mem {p:PSetup} {last:ByteArray}:∀ {l:List FoundZ} {w:ByteArray} {c:Int},bestF p last l=some (w,c)→∃ f∈l,w=f.word∧c=f.path+f.own+pairZ p last f.word:=by
 have key:∀ (l:List FoundZ) (m:Option (ByteArray × Int)) (P:List FoundZ),(∀ w c,m=some (w,c)→∃ f∈P,w=f.word∧c=f.path+f.own+pairZ p last f.word) →
  ∀ w c,l.foldl (fun m f=>match m with
   | none=>some (f.word,f.path+f.own+pairZ p last f.word)
   | some (w,c)=>if f.path+f.own+pairZ p last f.word < c then some (f.word,f.path+f.own+pairZ p last f.word) else some (w,c)) m=some (w,c)→∃ f∈P++l,w=f.word∧c=f.path+f.own+pairZ p last f.word:=by
  intro l
  induction l with
  | nil=>intro m P h w c hm; rw [List.append_nil]; exact h w c hm
  | cons a l ih =>
    intro m P h w c hm;rw [List.foldl_cons] at hm;have:=ih _ (P++[a]) ?_ w c hm
    · rwa [List.append_assoc] at this
    · intro w' c' hm'
      cases m with
      | none =>
        simp only [Option.some.injEq,Prod.mk.injEq] at hm';exact ⟨a,by simp,hm'.1.symm,hm'.2.symm⟩
      | some x =>
        obtain ⟨w0,c0⟩:=x;simp only at hm'
        split at hm'
        · simp only [Option.some.injEq,Prod.mk.injEq] at hm'
          exact ⟨a,by simp,hm'.1.symm,hm'.2.symm⟩
        · obtain ⟨f,hf,h1,h2⟩:=h w' c' hm'
          exact ⟨f,List.mem_append_left _ hf,h1,h2⟩
 intro l w c h;exact key l none [] (fun _ _ h=>by cases h) w c h
theorem entry_ok {xs:List PEntry} (h:lexB xs=true) {e:PEntry} (he:e∈xs):isWordB e.word=true∧0≤e.cost∧e.cost≤1000000:=by
 rw [lexB,Bool.and_eq_true] at h
 have key:∀ n,n≤xs.length→entsOk xs n=true→∀ k,k < n→entOk xs k=true:=by
  intro n
  induction n with
  | zero=>intro _ _ k hk; omega
  | succ n ih =>
    intro hn h k hk;rw [entsOk,Bool.and_eq_true] at h
    by_cases e:k=n
    · subst e; exact h.2
    · exact ih (by omega) h.1 k (by omega)
 obtain ⟨k,hk,rfl⟩:=List.mem_iff_getElem.1 he;have:=key xs.length (Nat.le_refl _) h.1 k hk;rw [entOk,entAt_get hk] at this;simp only [costB,inR,Bool.and_eq_true,decide_eq_true_iff] at this;exact ⟨this.1,this.2.1⟩
section
variable {P:Program} {md:Region.Mode} {ops:Array Oper} {Q:Exit→Act→World→Prop} {S:World→Prop}
def StillCall (P:Program) (ops:Array Oper) (S:World→Prop) (o:Oper) (v:Value) (a:Act):Prop :=
 Region.wanted o (yielded ops a.tmps)=true∧∃ f args,∀ w,S w→(execOp a.eval o).run P w=.ok (.enter f args) w∧Calls P f args w fun e w'=>e=.returned v∧w'=w
theorem StillCall.now {i:Nat} {o:Oper} {v:Value} {a:Act} (hi:ops[i]?=some o) (hy:StillCall P ops S o v a) {K:Act→World→Prop} {w:World} (hS:S w) (h:K (a.put o.dst v) w):wpOp P ops Q i K a w:=by
 obtain ⟨hw,f,args,hc⟩:=hy;obtain ⟨h1,h2⟩:=hc w hS;unfold Go.wpOp;simp only [hi,hw,if_true,Oper.wp,h1,Oper.upon];refine .inl (h2.mono fun e w' ⟨he,hw'⟩=>?_);subst he; subst hw'
 exact h
theorem StillCall.same {o:Oper} {v:Value} {a a':Act} (hy:StillCall P ops S o v a) (he:execOp a'.eval o=execOp a.eval o)
 (hw:Region.wanted o (yielded ops a'.tmps)=Region.wanted o (yielded ops a.tmps)):StillCall P ops S o v a':=by
 unfold StillCall at *;rw [he,hw];exact hy
theorem other_call {j:Nat} {oi oj:Oper} {v:Value} (hj:ops[j]?=some oj) (hap:oi.apart ops oj=true)
 (hsi:∀ cs b,oi.op≠.select cs b) (hsj:∀ cs b,oj.op≠.select cs b)
 (hQ:∀ c a w,Q (.panic c) (a.put oi.dst v) w→Q (.panic c) a w) {K:Act→World→Prop} {a:Act} {w:World}
 (hy:StillCall P ops S oi v a) (h:wpOp P ops Q j K (a.put oi.dst v) w) :
 wpOp P ops Q j (fun a' w'=>StillCall P ops S oi v a'∧K (a'.put oi.dst v) w') a w:=by
 obtain ⟨h1,h2,h3⟩:=Oper.apart_spec hap
 have keep:∀ (a:Act),StillCall P ops S oi v a→∀ u,StillCall P ops S oi v (a.put oj.dst u):=fun a hy u =>
  hy.same (execOp_put oi hsi a oj.dst u h3) (wanted_put oi a oj.dst u h3)
 have fin:∀ {u w'},K ((a.put oi.dst v).put oj.dst u) w'→StillCall P ops S oi v (a.put oj.dst u)∧K ((a.put oj.dst u).put oi.dst v) w':=fun {u w'} hk =>
  ⟨keep a hy u,by rw [← Act.put_comm a v u h2]; exact hk⟩
 unfold wpOp at *;simp only [hj] at *;rw [wanted_put oj a oi.dst v h1] at h
 by_cases hw:Region.wanted oj (yielded ops a.tmps)=true
 · rw [if_pos hw] at h ⊢
   rcases h with h | ⟨hasks,hlets⟩
   · refine .inl ?_
     unfold Oper.wp at *;rw [execOp_put oj hsj a oi.dst v h1] at h;generalize (execOp a.eval oj).run P w=r at *
     match r,h with
     | .ok (.value u) w',h=>exact fin h
     | .ok .skip w',h=>exact fin h
     | .ok (.defer d) w',h =>
       have hd:StillCall P ops S oi v { a with defers:=d :: a.defers }:=hy.same rfl rfl;refine ⟨hd.same (execOp_put oi hsi _ oj.dst undef h3) (wanted_put oi _ oj.dst undef h3),?_⟩;simp only [Oper.upon] at h;rw [← Act.put_comm _ v undef h2,← Act.put_defers];exact h
     | .ok (.enter f args) w',h =>
       refine Calls.mono h fun e w'' he=>?_
       match e,he with
       | .returned u,he=>exact fin he
       | .panicked c,he=>exact hQ _ _ _ he
       | .outgrown,he=>exact he
     | .ok (.row row args) w',h=>exact Rows.mono h fun u w'' he=>fin he
     | .halt x w',h =>
       cases x <;> simp only [Oper.upon] at h ⊢
       case panic u=>exact hQ _ _ _ h
   · exact .inr ⟨by unfold Oper.asks at *; rw [execOp_put oj hsj a oi.dst v h1] at hasks; exact hasks,hlets⟩
 · rw [if_neg hw] at h ⊢
   exact fin h
theorem first_call {i:Nat} {oi:Oper} {v:Value} (hi:ops[i]?=some oi) (hsel:∀ (j:Nat) (o:Oper) cs b,ops[j]?=some o→o.op≠.select cs b)
 (hQ:∀ c a w,Q (.panic c) (a.put oi.dst v) w→Q (.panic c) a w) :
 ∀ (fuel:Nat) (listed:Array Bool) (a:Act) (w:World),
  (∀ j oj,ops[j]?=some oj→j≠i→listed.getD j true=false→(∀ e∈oj.after,Region.binds md e=true→e.on≠i)→oi.apart ops oj=true) →
  i∈Region.ready md ops listed→StillCall P ops S oi v a→S w →
  wpAnyH P md ops Q S fuel (listed.setIfInBounds i true) (a.put oi.dst v) w→wpAnyH P md ops Q S (fuel+1) listed a w
 | fuel,listed,a,w,hfree,hr,hy,hS,H=>by
   refine ⟨fun h=>by rw [h] at hr; (cases hr),fun j hj=>?_⟩
   by_cases hji:j=i
   · subst hji; exact hy.now hi hS ⟨hS,H⟩
   · have hj':=ready_mono hj hji
     match fuel,H with
     | 0,H=>rw [H.1] at hj'; cases hj'
     | fuel+1,H =>
       obtain ⟨hjun,oj,hoj,hall⟩:=mem_ready.1 hj
       have hnot:∀ e∈oj.after,Region.binds md e=true→e.on≠i:=fun e he hb heq=>by
        have h1:=hall e he hb;have h0:=(mem_ready.1 hr).1;rw [heq] at h1;rcases Nat.lt_or_ge i listed.size with h' | h'
        · simp [h'] at h0 h1; rw [h0] at h1; cases h1
        · simp [Array.getElem?_eq_none h'] at h1
       have h2:=other_call hoj (hfree j oj hoj hji hjun hnot) (fun cs b=>hsel i oi cs b hi) (fun cs b=>hsel j oj cs b hoj) hQ hy (H.2 j hj');refine wpOp_mono (fun a' w' h3=>⟨h3.2.1,first_call hi hsel hQ fuel (listed.setIfInBounds j true) a' w' (fun k ok hk hki hun hno=>hfree k ok hk hki ?_ hno) (ready_mono hr (Ne.symm hji)) h3.1 h3.2.1 (by rw [Array.setIfInBounds_comm _ _ hji]; exact h3.2.2)⟩) h2
       by_cases hjk:j=k
       · subst hjk; exact hjun
       · rw [getD_set_ne true hjk] at hun; exact hun
theorem take_call {i:Nat} {oi:Oper} {v:Value} {fuel:Nat} {listed:Array Bool} {a:Act} {w:World} (hi:ops[i]?=some oi)
 (hs:Region.noSelect ops=true) (hf:Region.free md ops listed i=true) (hr:(Region.ready md ops listed).contains i=true)
 (hQ:∀ c a w,Q (.panic c) (a.put oi.dst v) w→Q (.panic c) a w) (f:FuncId) (xs:Array Operand) (ts:Array TypeId) (ho:oi.op=.call { callee:=.value (.func f),args:=xs,argTypes:=ts })
 (hw:Region.wanted oi (yielded ops a.tmps)=true) (av:Array Value) (hcall:∀ args w,(callFunc f args).run P w=.ok (.enter f args) w) (hx:xs.map a.eval=av)
 (hC:∀ w,Calls P f av w fun e w'=>e=.returned v∧w'=w) (hS:S w)
 (h:wpAnyH P md ops Q S fuel (listed.setIfInBounds i true) (a.put oi.dst v) w):wpAnyH P md ops Q S (fuel+1) listed a w:=by
 refine first_call hi (Region.noSelect_spec hs) hQ fuel listed a w (Region.free_spec hi hf) (by simpa using hr) ⟨hw,f,av,fun w _=>⟨?_,hC w⟩⟩ hS h;unfold execOp;have he:a.eval (.func f)=.func (.func f) #[] #[]:=rfl;simp only [ho,resolve,invoke,Sem.run_bind,he,hx,Deferred.ofValue,Sem.run_pure,Result.andThen_ok,Array.append_empty,Array.empty_append,hcall]
theorem tC {i:Nat} {oi:Oper} {v:Value} {fuel:Nat} {listed:Array Bool} {a:Act} {w:World} (f:FuncId) (xs:Array Operand) (av:Array Value) (hcall:∀ args w,(callFunc f args).run P w=.ok (.enter f args) w)
 (hC:∀ w,Calls P f av w fun e w'=>e=.returned v∧w'=w) (hS:S w)
 (h:wpAnyH P md ops Q S fuel (listed.setIfInBounds i true) (a.put oi.dst v) w) {ts:Array TypeId} (hi:ops.toList[i]?=some oi:=by rfl)
 (hs:Region.noSelect ops=true:=by kernel_rfl) (hf:Region.free md ops listed i=true:=by kernel_rfl) (hr:(Region.ready md ops listed).contains i=true:=by kernel_rfl)
 (ho:oi.op=.call { callee:=.value (.func f),args:=xs,argTypes:=ts }:=by rfl)
 (hw:Region.wanted oi (yielded ops a.tmps)=true:=by rfl) (hx:xs.map a.eval=av:=by go_simp)
 (hQ:∀ c a w,Q (.panic c) (a.put oi.dst v) w→Q (.panic c) a w:=by exact fun _ _ _ h=>h):wpAnyH P md ops Q S (fuel+1) listed a w :=
 take_call (by simpa using hi) hs hf hr hQ f xs ts ho hw av hcall hx hC hS h
end
theorem insS_weak {α:Type} {lt:α→α→Bool} (o:STO lt) {l:List α} {h:α} (hl:l.Pairwise fun x y=>lt y x=false):(insS lt h l).Pairwise fun x y=>lt y x=false:=by
 unfold insS;refine List.pairwise_append.2 ⟨hl.filter _,List.pairwise_cons.2 ⟨fun x hx=>?_,hl.filter _⟩,fun x hx y hy=>?_⟩
 · exact o.asym (List.mem_filter.1 hx).2
 · have h2:lt h x=false:=by simpa using (List.mem_filter.1 hx).2
   rcases List.mem_cons.1 hy with rfl | hy
   · exact h2
   · have h3:=(List.mem_filter.1 hy).2
     rw [Bool.eq_false_iff];intro h4;rw [o.tr _ _ _ h3 h4] at h2; cases h2
theorem sortedF_weak (l:List FoundZ):(sortedF l).Pairwise fun x y=>foundLt y x=false:=by
 have key:∀ (l s:List FoundZ),(s.Pairwise fun x y=>foundLt y x=false)→(l.foldl (fun l h=>insS foundLt h l) s).Pairwise fun x y=>foundLt y x=false:=by
  intro l
  induction l with
  | nil=>intro s h; exact h
  | cons a l ih=>intro s h; rw [List.foldl_cons]; exact ih _ (insS_weak foundLt_sto h)
 exact key l [] .nil
theorem pairZ_pos {p:PSetup} (hp:setupB p=true) (a b:ByteArray):0≤pairZ p a b∧pairZ p a b≤1000000:=by
 obtain ⟨-,-,-,-,-,-,-,s8,-⟩:=setup_parts hp;rw [modelB,Bool.and_eq_true,Bool.and_eq_true] at s8;obtain ⟨m1,m2,m3⟩:=s8;simp only [costB,inR,Bool.and_eq_true,decide_eq_true_iff] at m2
 have key:∀ n,n≤p.bigrams.length→bigsOk p.bigrams n=true→∀ k,k < n→bigOk p.bigrams k=true:=by
  intro n
  induction n with
  | zero=>intro _ _ k hk; omega
  | succ n ih =>
    intro hn h k hk;rw [bigsOk,Bool.and_eq_true] at h
    by_cases e:k=n
    · subst e; exact h.2
    · exact ih (by omega) h.1 k (by omega)
 rw [pairZ];cases e:p.bigrams.find? fun g=>decide (g.first=a) && decide (g.second=b) with
 | none=>exact m2
 | some g =>
   have hm:=List.mem_of_find?_eq_some e;obtain ⟨k,hk,rfl⟩:=List.mem_iff_getElem.1 hm;have:=key _ (Nat.le_refl _) m1 k hk;rw [bigOk,Bool.and_eq_true,bigAt_get hk] at this;have hb:=this.1;simp only [bigB,costB,inR,Bool.and_eq_true,decide_eq_true_iff] at hb;exact hb.2.2
def edgeLt (x y:LEdge):Bool:=decide (x.src < y.src) || (decide (x.src=y.src) && (decide (x.dst < y.dst) || (decide (x.dst=y.dst) && (bLess x.lab y.lab || (decide (x.lab=y.lab) && decide (x.cost < y.cost))))))
theorem edgeLt_iff {x y:LEdge}:edgeLt x y=true↔x.src < y.src∨x.src=y.src∧(x.dst < y.dst∨x.dst=y.dst∧(bLess x.lab y.lab=true∨x.lab=y.lab∧x.cost < y.cost)):=by
 simp only [edgeLt,Bool.or_eq_true,Bool.and_eq_true,decide_eq_true_iff]
theorem edgeLt_sto:STO edgeLt:=by
 refine ⟨fun a=>?_,fun a b c h1 h2=>?_,fun a b h1 h2=>?_⟩
 · rw [Bool.eq_false_iff,Ne,edgeLt_iff,bLess_sto.irr]; simp
 · rw [edgeLt_iff] at *
   rcases h1 with h1 | ⟨h1,h1'⟩
   · rcases h2 with h2 | ⟨h2,_⟩
     · left; omega
     · left; omega
   · rcases h2 with h2 | ⟨h2,h2'⟩
     · left; omega
     · refine .inr ⟨by omega,?_⟩
       rcases h1' with h1' | ⟨h1',h1''⟩
       · rcases h2' with h2' | ⟨h2',_⟩
         · left; omega
         · left; omega
       · rcases h2' with h2' | ⟨h2',h2''⟩
         · left; omega
         · refine .inr ⟨by omega,?_⟩
           rcases h1'' with k1 | ⟨k1,k1'⟩
           · rcases h2'' with k2 | ⟨k2,_⟩
             · exact .inl (bLess_sto.tr _ _ _ k1 k2)
             · exact .inl (k2 ▸ k1)
           · rcases h2'' with k2 | ⟨k2,k2'⟩
             · exact .inl (k1 ▸ k2)
             · exact .inr ⟨k1.trans k2,by omega⟩
 · rw [Bool.eq_false_iff,Ne,edgeLt_iff] at h1 h2
   have hs:a.src=b.src:=by
    rcases Nat.lt_trichotomy a.src b.src with h | h | h
    · exact absurd (.inl h) h1
    · exact h
    · exact absurd (.inl h) h2
   have hd:a.dst=b.dst:=by
    rcases Nat.lt_trichotomy a.dst b.dst with h | h | h
    · exact absurd (.inr ⟨hs,.inl h⟩) h1
    · exact h
    · exact absurd (.inr ⟨hs.symm,.inl h⟩) h2
   have hl:a.lab=b.lab:=bLess_sto.tot _ _ (by rw [Bool.eq_false_iff]; exact fun h=>h1 (.inr ⟨hs,.inr ⟨hd,.inl h⟩⟩)) (by rw [Bool.eq_false_iff]; exact fun h=>h2 (.inr ⟨hs.symm,.inr ⟨hd.symm,.inl h⟩⟩))
   have hc:a.cost=b.cost:=by
    rcases Int.lt_trichotomy a.cost b.cost with h | h | h
    · exact absurd (.inr ⟨hs,.inr ⟨hd,.inr ⟨hl,h⟩⟩⟩) h1
    · exact h
    · exact absurd (.inr ⟨hs.symm,.inr ⟨hd.symm,.inr ⟨hl.symm,h⟩⟩⟩) h2
   obtain ⟨s,d,l,c⟩:=a;obtain ⟨s',d',l',c'⟩:=b;simp only at hs hd hl hc;rw [hs,hd,hl,hc]
def SameKey (x y:LEdge):Prop:=x.src=y.src∧x.dst=y.dst∧x.lab=y.lab
theorem groupE_ends {p:PSetup} {xs:List PStroke} {g:Nat × Nat} {e:LEdge} (h:e∈groupE p xs g):e.src=g.1∧e.dst=g.2:=by
 rw [groupE] at h
 split at h
 · obtain ⟨x,_,rfl⟩:=List.mem_map.1 h; exact ⟨rfl,rfl⟩
 · cases h
theorem groupsZ_nodup (n:Nat):(groupsZ n).Nodup:=by
 rw [groupsZ,List.Nodup,List.pairwise_flatMap];refine ⟨fun a _=>?_,List.nodup_range.imp fun {a b} hab x hx y hy he=>?_⟩
 · rw [List.pairwise_map]
   exact (List.nodup_range.filter _).imp fun hne he=>hne (Prod.mk.inj he).2
 · obtain ⟨c,_,rfl⟩:=List.mem_map.1 hx
   obtain ⟨d,_,rfl⟩:=List.mem_map.1 hy;exact hab (Prod.mk.inj he).1
theorem edgesZ_keys (p:PSetup) (xs:List PStroke):(edgesZ p xs).Pairwise fun x y=>¬ SameKey x y:=by
 rw [edgesZ,List.pairwise_flatMap];refine ⟨fun g _=>?_,(groupsZ_nodup _).imp fun {g h} hgh x hx y hy hk=>?_⟩
 · rw [groupE]
   split
   · rw [List.pairwise_map]
     exact (hypsZ_labels p _).imp fun hne hk=>hne hk.2.2
   · exact .nil
 · have h1:=groupE_ends hx
   have h2:=groupE_ends hy;apply hgh;obtain ⟨a,b⟩:=g;obtain ⟨c,d⟩:=h;simp only at h1 h2;rw [← h1.1,← h1.2,hk.1,hk.2.1,h2.1,h2.2]
def sortedE (l:List LEdge):List LEdge:=l.foldl (fun l h=>insS edgeLt h l) []
theorem sortedE_perm (l:List LEdge):(sortedE l).Perm l:=by
 have key:∀ (l s:List LEdge),(l.foldl (fun l h=>insS edgeLt h l) s).Perm (l.reverse++s):=by
  intro l
  induction l with
  | nil=>intro s; exact List.Perm.refl _
  | cons a l ih =>
    intro s;rw [List.foldl_cons,List.reverse_cons,List.append_assoc];exact (ih _).trans ((insS_perm a s).append_left _)
 have:=key l [];rw [List.append_nil] at this;exact this.trans (List.reverse_perm l)
theorem sortedE_weak (l:List LEdge):(sortedE l).Pairwise fun x y=>edgeLt y x=false:=by
 have key:∀ (l s:List LEdge),(s.Pairwise fun x y=>edgeLt y x=false)→(l.foldl (fun l h=>insS edgeLt h l) s).Pairwise fun x y=>edgeLt y x=false:=by
  intro l
  induction l with
  | nil=>intro s h; exact h
  | cons a l ih=>intro s h; rw [List.foldl_cons]; exact ih _ (insS_weak edgeLt_sto h)
 exact key l [] .nil
theorem lcE_perm {es fs:List LEdge} (h:es.Perm fs) (tx:Nat→ByteArray):∀ k v,lcE es tx k v=lcE fs tx k v
 | 0,v=>rfl
 | k+1,v=>by
   rw [lcE,lcE];have ih:=lcE_perm h tx k
   have e:(fun e:LEdge=>(lcE es tx k e.src).map (·+e.cost))=fun e=>(lcE fs tx k e.src).map (·+e.cost):=by
    funext e; rw [ih]
   rw [e];exact minsO_perm ((h.filter _).map _)
theorem slice_form {α:Type} {T:Ty α} {e:TypeId} {o:Bool} {w:World} {xs:List α} {v:Value} {F:List Nat} (h:(T.slice e).rep o w xs [v] F):∃ A n c,v=.slice A n c:=by
 obtain ⟨A,c,rfl⟩:=slice_len h;exact ⟨_,_,_,rfl⟩
section
variable {P:Program} {α:Type} {T:Ty α} {t e:TypeId} {z:Value} {bytes:Nat} {w:World} {xs ys:List α} {v:Value} {F Fy:List Nat} {A:Option Addr} {c:Nat} {ec:List Value}
theorem step_append_repX {ops:Array Oper} {o:Oper} {a:Act} {K:Act→World→Prop} {Q:Exit→Act→World→Prop} {E:Prop} (hgd:o.guard=none) (s x:Operand)
 (ho:o.op=.call { callee:=.builtin .append,args:=#[s,x],argTypes:=#[t,t] })
 (ht:P.underlying t=some (.slice e)) (hi:(P.info? e).map (fun i=>(i.zero,i.size,i.bytes))=some (some z,T.size,bytes)) (hz:z.cells.size=T.size) (h0:0 < T.size)
 (hs:a.eval s=v) (hr:(T.slice e).rep true w xs [v] F) (hx:a.eval x=.slice A ys.length c) (hy:repL T true w ys ec Fy) (hat:CellsAt w A ec) (hnd:(F++Fy).Nodup)
 (h63:xs.length+ys.length≤maxLen) (hb:(xs.length+ys.length) * bytes≤140737488355328)
 (h:∀ v' w' F',(T.slice e).rep true w' (xs++ys) [v'] F'→Only F w w'→(∀ B,Fresh B (F++Fy)→B≤w.heap.size→Fresh B F')→((∀ b∈F',b∈F++Fy∨w.heap.size≤b)∧Only v.ownBlock.toList w w'∧∀ b∈v'.ownBlock.toList,b∈v.ownBlock.toList∨w.heap.size≤b)→K (a.put o.dst v') w') :
 if Region.wanted o (yielded ops a.tmps)=true then Oper.wp P o a w K Q else E:=by
 have hw:Region.wanted o (yielded ops a.tmps)=true:=by simp [Region.wanted,hgd]
 rw [if_pos hw];obtain ⟨v',w',F',hrun,h2,h3,h4,h5⟩:=run_append_repX (P:=P) (c:=c) o.type ht hi hz h0 hr hy hat trivial hnd h63 hb;unfold Oper.wp;simp [execOp,ho,resolve,invoke,builtin,hs,hx,hrun,Result.andThen];exact h v' w' F' h2 h3 h4 h5
end
end Go.Proofs.YtalmeogjhmblhaaGreat

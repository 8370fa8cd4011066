/- The recogniser as plain functions: orders, groups, small costs; a word that is read is a word. No program is named here. Conditions: none. -/
import Derived.Test.YtafgknkcjohjeaaGreatDoorRcLate
import Derived.Test.YtafgknkcjohjeaaGreatDoorTyFeate
import Derived.Test.YtafgknkcjohjeaaGreatDoorSlOpse
import Derived.Test.YtafgknkcjohjeaaGreatDoorInkGe
namespace Go.Proofs.YtafgknkcjohjeaaGreatDoor
open Go Go.RowKit
theorem hypLt_iff {x y:HypZ}:hypLt x y=true↔x.cost < y.cost∨x.cost=y.cost∧bLess x.label y.label=true:=by
 rw [hypLt,Bool.or_eq_true,Bool.and_eq_true,decide_eq_true_iff,decide_eq_true_iff]
theorem hypLt_sto:STO hypLt:=by
 refine ⟨fun a=>?_,fun a b c h1 h2=>?_,fun a b h1 h2=>?_⟩
 · rw [Bool.eq_false_iff,Ne,hypLt_iff,bLess_sto.irr]; simp
 · rw [hypLt_iff] at *
   rcases h1 with h1 | ⟨h1,h1'⟩
   · rcases h2 with h2 | ⟨h2,_⟩
     · left; omega
     · left; omega
   · rcases h2 with h2 | ⟨h2,h2'⟩
     · left; omega
     · exact .inr ⟨by omega,bLess_sto.tr _ _ _ h1' h2'⟩
 · rw [Bool.eq_false_iff,Ne,hypLt_iff] at h1 h2
   have hc:a.cost=b.cost:=by
    rcases Int.lt_trichotomy a.cost b.cost with h | h | h
    · exact absurd (.inl h) h1
    · exact h
    · exact absurd (.inl h) h2
   have hl:a.label=b.label:=bLess_sto.tot _ _ (by rw [Bool.eq_false_iff]; exact fun h=>h1 (.inr ⟨hc,h⟩)) (by rw [Bool.eq_false_iff]; exact fun h=>h2 (.inr ⟨hc.symm,h⟩));obtain ⟨l,c⟩:=a;obtain ⟨l',c'⟩:=b;simp only at hc hl;rw [hc,hl]
theorem foundLt_iff {x y:FoundZ}:foundLt x y=true↔x.path+x.own < y.path+y.own∨x.path+x.own=y.path+y.own∧(x.word.size < y.word.size∨x.word.size=y.word.size∧(bLess x.word y.word=true∨x.word=y.word∧x.path < y.path)):=by
 simp only [foundLt,Bool.or_eq_true,Bool.and_eq_true,decide_eq_true_iff]
theorem foundLt_sto:STO foundLt:=by
 refine ⟨fun a=>?_,fun a b c h1 h2=>?_,fun a b h1 h2=>?_⟩
 · rw [Bool.eq_false_iff,Ne,foundLt_iff,bLess_sto.irr]; simp
 · rw [foundLt_iff] at *
   rcases h1 with h1 | ⟨h1,h1'⟩
   · rcases h2 with h2 | ⟨h2,_⟩
     · left; omega
     · left; omega
   · rcases h2 with h2 | ⟨h2,h2'⟩
     · left; omega
     · refine .inr ⟨by omega,?_⟩
       rcases h1' with h1' | ⟨h1',h1''⟩
       · rcases h2' with h2' | ⟨h2',_⟩
         · left; omega
         · left; omega
       · rcases h2' with h2' | ⟨h2',h2''⟩
         · left; omega
         · refine .inr ⟨by omega,?_⟩
           rcases h1'' with k1 | ⟨k1,k1'⟩
           · rcases h2'' with k2 | ⟨k2,_⟩
             · exact .inl (bLess_sto.tr _ _ _ k1 k2)
             · exact .inl (k2 ▸ k1)
           · rcases h2'' with k2 | ⟨k2,k2'⟩
             · exact .inl (k1 ▸ k2)
             · exact .inr ⟨k1.trans k2,by omega⟩
 · rw [Bool.eq_false_iff,Ne,foundLt_iff] at h1 h2
   have hs:a.path+a.own=b.path+b.own:=by
    rcases Int.lt_trichotomy (a.path+a.own) (b.path+b.own) with h | h | h
    · exact absurd (.inl h) h1
    · exact h
    · exact absurd (.inl h) h2
   have hw:a.word.size=b.word.size:=by
    rcases Nat.lt_trichotomy a.word.size b.word.size with h | h | h
    · exact absurd (.inr ⟨hs,.inl h⟩) h1
    · exact h
    · exact absurd (.inr ⟨hs.symm,.inl h⟩) h2
   have hword:a.word=b.word:=bLess_sto.tot _ _ (by rw [Bool.eq_false_iff]; exact fun h=>h1 (.inr ⟨hs,.inr ⟨hw,.inl h⟩⟩)) (by rw [Bool.eq_false_iff]; exact fun h=>h2 (.inr ⟨hs.symm,.inr ⟨hw.symm,.inl h⟩⟩))
   have hp:a.path=b.path:=by
    rcases Int.lt_trichotomy a.path b.path with h | h | h
    · exact absurd (.inr ⟨hs,.inr ⟨hw,.inr ⟨hword,h⟩⟩⟩) h1
    · exact h
    · exact absurd (.inr ⟨hs.symm,.inr ⟨hw.symm,.inr ⟨hword.symm,h⟩⟩⟩) h2
   obtain ⟨w,q,o⟩:=a;obtain ⟨w',q',o'⟩:=b;simp only at hs hword hp;have ho:o=o':=by omega
   rw [hword,hp,ho]
theorem mem_groupsZ {n a b:Nat}:(a,b)∈groupsZ n↔a < b∧b≤a+3∧b≤n:=by
 rw [groupsZ,List.mem_flatMap];constructor
 · rintro ⟨c,hc,h⟩
   obtain ⟨d,hd,he⟩:=List.mem_map.1 h;rw [List.mem_filter,List.mem_range,Bool.and_eq_true,decide_eq_true_iff,decide_eq_true_iff] at hd;rw [List.mem_range] at hc;obtain ⟨rfl,rfl⟩:=Prod.mk.inj he;omega
 · rintro ⟨h1,h2,h3⟩
   refine ⟨a,List.mem_range.2 (by omega),List.mem_map.2 ⟨b,?_,rfl⟩⟩;rw [List.mem_filter,List.mem_range,Bool.and_eq_true,decide_eq_true_iff,decide_eq_true_iff];omega
theorem orderZ_home (xs:List PStroke) (d h:Nat) (hh:(if d < xs.length then homeZ xs d else none)=some h):h < xs.length∧(if h < xs.length then homeZ xs h else none)=none:=by
 split at hh
 · rename_i hd
   have:=homeZ_ok xs d h hh;exact ⟨by omega,by rw [if_pos (by omega)]; exact this.2⟩
 · cases hh
theorem orderZ_perm (xs:List PStroke):(orderZ xs).Perm (List.range xs.length):=orderN_perm _ _ (orderZ_home xs)
theorem orderZ_len (xs:List PStroke):(orderZ xs).length=xs.length:=orderN_len _ _ (orderZ_home xs)
theorem orderZ_nodup (xs:List PStroke):(orderZ xs).Nodup:=orderN_nodup _ _
theorem orderZ_lt {xs:List PStroke} {k:Nat} (h:k∈orderZ xs):k < xs.length:=List.mem_range.1 ((orderZ_perm xs).mem_iff.1 h)
theorem groupInk_len {xs:List PStroke} {a b:Nat} (h:b≤xs.length):(groupInk xs a b).length=b - a:=by
 rw [groupInk,List.length_map];have hn:(((orderZ xs).take b).drop a).Nodup:=((orderZ_nodup xs).sublist (List.take_sublist b _)).sublist (List.drop_sublist a _)
 have hp:((List.range xs.length).filter fun k=>decide (k∈((orderZ xs).take b).drop a)).Perm (((orderZ xs).take b).drop a):=by
  refine (List.perm_ext_iff_of_nodup (List.nodup_range.filter _) hn).2 fun k=>?_
  rw [List.mem_filter,List.mem_range,decide_eq_true_iff];exact ⟨fun h=>h.2,fun h=>⟨orderZ_lt (List.mem_of_mem_take (List.mem_of_mem_drop h)),h⟩⟩
 rw [hp.length_eq,List.length_drop,List.length_take,orderZ_len];omega
theorem groupInk_ok {xs:List PStroke} (hx:inkB xs=true) (a b:Nat):∀ s∈groupInk xs a b,strokeB s=true:=by
 intro s hs;obtain ⟨k,hk,rfl⟩:=List.mem_map.1 hs;have:=List.mem_range.1 (List.mem_filter.1 hk).1;rw [strk_get this];exact inkB_stroke hx this
theorem setup_parts {p:PSetup} (h:setupB p=true):(∀ t∈p.temps,tempB t=true)∧(0≤p.band∧p.band≤72)∧p.temps.length≤40∧(2≤p.points∧p.points≤24)∧(1≤p.most∧p.most≤8)∧(0≤p.pen∧p.pen≤1000)∧lexB p.entries=true∧modelB p.dflt p.bigrams=true∧(1≤p.pause∧p.pause≤60000):=by
 simp only [setupB,storeB,settingB,inR,Bool.and_eq_true,decide_eq_true_eq,List.all_eq_true] at h;exact ⟨h.1.1,h.1.2.1,h.1.2.2,h.2.1.1,h.2.1.2.1,h.2.1.2.2,h.2.2.1,h.2.2.2.1,h.2.2.2.2⟩
theorem tempB_parts {t:PTemp} (h:tempB t=true):labelB t.label=true∧(∀ f∈t.feats,featB f=true)∧1≤t.feats.length∧t.feats.length≤72:=by
 simp only [tempB,featsB,Bool.and_eq_true,decide_eq_true_eq,List.all_eq_true] at h;exact ⟨h.1,h.2.1,h.2.2⟩
theorem rawHyps_ok {p:PSetup} (hp:setupB p=true) {xs:List PStroke} (hx:∀ s∈xs,strokeB s=true) (h1:1≤xs.length) (h3:xs.length≤3) (h72:(xs.length:Int) * p.points≤72):∀ h∈rawHyps p (featsInk xs p.points.toNat) (p.pen * ((xs.length:Int) - 1)),labelB h.label=true∧0≤h.cost∧h.cost≤84082:=by
 intro h hh;obtain ⟨s1,s2,s3,s4,s5,s6,-,-,-⟩:=setup_parts hp;obtain ⟨t,ht,rfl⟩:=List.mem_map.1 hh;obtain ⟨ht,hb⟩:=List.mem_filter.1 ht;obtain ⟨t1,t2,t3,t4⟩:=tempB_parts (s1 t ht);have hlen:=featsInk_len xs p.points.toNat;have hpt:(p.points.toNat:Int)=p.points:=Int.toNat_of_nonneg (by omega);have hl:((xs.length * p.points.toNat:Nat):Int)=(xs.length:Int) * p.points:=by push_cast; rw [hpt]
 have hl1:1≤xs.length * p.points.toNat:=Nat.mul_pos h1 (by omega);obtain ⟨v,hv,v0,v1⟩:=elZ_some (featsInk_ok hx (by omega)) t2 (by rw [hlen]; exact hl1) t3 (by rw [hlen]; omega) t4 hb;have hpen0:0≤p.pen * ((xs.length:Int) - 1):=Int.mul_nonneg s6.1 (by omega);have hpen1:p.pen * ((xs.length:Int) - 1)≤1000 * 2:=Int.mul_le_mul s6.2 (by omega) (by omega) (by decide);refine ⟨t1,?_,?_⟩
 · show 0≤(elZ _ _ _).getD 0+_
   rw [hv,Option.getD_some]; omega
 · show (elZ _ _ _).getD 0+_≤84082
   rw [hv,Option.getD_some]; omega
theorem hypsZ_best (p:PSetup) (xs:List PStroke):Best hypLt HypZ.label (rawHyps p (featsInk xs p.points.toNat) (p.pen * ((xs.length:Int) - 1))) ((rawHyps p (featsInk xs p.points.toNat) (p.pen * ((xs.length:Int) - 1))).foldl (insK hypLt HypZ.label) []):=by
 have:=best_ins (key:=HypZ.label) hypLt_sto (rawHyps p (featsInk xs p.points.toNat) (p.pen * ((xs.length:Int) - 1))) [] [] .nil
 rwa [List.nil_append] at this
theorem hypsZ_mem {p:PSetup} {xs:List PStroke} {h:HypZ} (hh:h∈hypsZ p xs):h∈rawHyps p (featsInk xs p.points.toNat) (p.pen * ((xs.length:Int) - 1)) :=
 (((hypsZ_best p xs).mem h).1 (List.mem_of_mem_take hh)).1
theorem hypsZ_few {p:PSetup} (hp:setupB p=true) (xs:List PStroke):(hypsZ p xs).length≤8:=by
 obtain ⟨s1,s2,s3,s4,s5,s6,-,-,-⟩:=setup_parts hp;rw [hypsZ,List.length_take]; omega
theorem hypsZ_labels (p:PSetup) (xs:List PStroke):(hypsZ p xs).Pairwise fun x y=>x.label≠y.label:=by
 have b:=hypsZ_best p xs
 have key:((rawHyps p (featsInk xs p.points.toNat) (p.pen * ((xs.length:Int) - 1))).foldl (insK hypLt HypZ.label) []).Pairwise fun x y=>x.label≠y.label:=by
  refine List.Pairwise.imp_of_mem ?_ b.sorted;intro x y hx hy hlt he;have:=((b.mem y).1 hy).2 x ((b.mem x).1 hx).1 he;rw [hlt] at this; cases this
 rw [hypsZ];exact key.sublist (List.take_sublist _ _)
theorem edgesZ_ok {p:PSetup} (hp:setupB p=true) {xs:List PStroke} (hx:inkB xs=true):∀ e∈edgesZ p xs,e.src < e.dst∧e.dst≤xs.length∧labelB e.lab=true∧0≤e.cost∧e.cost≤84082:=by
 intro e he;obtain ⟨⟨a,b⟩,hg,he⟩:=List.mem_flatMap.1 he;rw [mem_groupsZ] at hg;obtain ⟨g1,g2,g3⟩:=hg;rw [groupE] at he
 split at he
 · rename_i h72
   obtain ⟨h,hh,rfl⟩:=List.mem_map.1 he;have hl:=groupInk_len (a:=a) g3;have:=rawHyps_ok hp (groupInk_ok hx a b) (by omega) (by omega) (by rw [hl]; exact h72) h (hypsZ_mem hh);exact ⟨g1,g3,this⟩
 · cases he
theorem insS_perm {α:Type} {lt:α→α→Bool} (h:α) (l:List α):(insS lt h l).Perm (h :: l):=by
 rw [insS];refine List.perm_middle.trans (List.Perm.cons _ ?_);have e:(fun x=>lt h x)=fun x=>!(fun x=>!lt h x) x:=by funext x; simp
 rw [e];exact List.filter_append_perm _ _
theorem sortedF_perm (l:List FoundZ):(sortedF l).Perm l:=by
 have key:∀ (l s:List FoundZ),(l.foldl (fun l h=>insS foundLt h l) s).Perm (l.reverse++s):=by
  intro l
  induction l with
  | nil=>intro s; exact List.Perm.refl _
  | cons a l ih =>
    intro s;rw [List.foldl_cons,List.reverse_cons,List.append_assoc];exact (ih _).trans ((insS_perm a s).append_left _)
 have:=key l [];rw [List.append_nil] at this;exact this.trans (List.reverse_perm l)
theorem bestF_mem {p:PSetup} {last:ByteArray}:∀ {l:List FoundZ} {w:ByteArray} {c:Int},bestF p last l=some (w,c)→∃ f∈l,w=f.word∧c=f.path+f.own+pairZ p last f.word:=by
 have key:∀ (l:List FoundZ) (m:Option (ByteArray × Int)) (P:List FoundZ),(∀ w c,m=some (w,c)→∃ f∈P,w=f.word∧c=f.path+f.own+pairZ p last f.word) →
  ∀ w c,l.foldl (fun m f=>match m with
   | none=>some (f.word,f.path+f.own+pairZ p last f.word)
   | some (w,c)=>if f.path+f.own+pairZ p last f.word < c then some (f.word,f.path+f.own+pairZ p last f.word) else some (w,c)) m=some (w,c)→∃ f∈P++l,w=f.word∧c=f.path+f.own+pairZ p last f.word:=by
  intro l
  induction l with
  | nil=>intro m P h w c hm; rw [List.append_nil]; exact h w c hm
  | cons a l ih =>
    intro m P h w c hm;rw [List.foldl_cons] at hm;have:=ih _ (P++[a]) ?_ w c hm
    · rwa [List.append_assoc] at this
    · intro w' c' hm'
      cases m with
      | none =>
        simp only [Option.some.injEq,Prod.mk.injEq] at hm';exact ⟨a,by simp,hm'.1.symm,hm'.2.symm⟩
      | some x =>
        obtain ⟨w0,c0⟩:=x;simp only at hm'
        split at hm'
        · simp only [Option.some.injEq,Prod.mk.injEq] at hm'
          exact ⟨a,by simp,hm'.1.symm,hm'.2.symm⟩
        · obtain ⟨f,hf,h1,h2⟩:=h w' c' hm'
          exact ⟨f,List.mem_append_left _ hf,h1,h2⟩
 intro l w c h;exact key l none [] (fun _ _ h=>by cases h) w c h
theorem mem_foundZ {p:PSetup} {es:List LEdge} {n:Nat} {f:FoundZ} (h:f∈foundZ p es n):∃ e∈p.entries,f.word=e.word∧f.own=e.cost∧lcE es (letterAt e.word) e.word.size n=some f.path:=by
 obtain ⟨e,he,hf⟩:=List.mem_filterMap.1 h;obtain ⟨c,hc,rfl⟩:=Option.map_eq_some_iff.1 hf;exact ⟨e,he,rfl,rfl,hc⟩
theorem entry_ok {xs:List PEntry} (h:lexB xs=true) {e:PEntry} (he:e∈xs):isWordB e.word=true∧0≤e.cost∧e.cost≤1000000:=by
 rw [lexB,Bool.and_eq_true] at h
 have key:∀ n,n≤xs.length→entsOk xs n=true→∀ k,k < n→entOk xs k=true:=by
  intro n
  induction n with
  | zero=>intro _ _ k hk; omega
  | succ n ih =>
    intro hn h k hk;rw [entsOk,Bool.and_eq_true] at h
    by_cases e:k=n
    · subst e; exact h.2
    · exact ih (by omega) h.1 k (by omega)
 obtain ⟨k,hk,rfl⟩:=List.mem_iff_getElem.1 he;have:=key xs.length (Nat.le_refl _) h.1 k hk;rw [entOk,entAt_get hk] at this;simp only [costB,inR,Bool.and_eq_true,decide_eq_true_iff] at this;exact ⟨this.1,this.2.1⟩
theorem readZ_word {q:PSess} (h:sessB q=true) (h0:(readZ q).2.2=0):isWordB (readZ q).1=true:=by
 have hs:setupB q.setup=true:=by simp only [sessB,Bool.and_eq_true] at h; exact h.1
 obtain ⟨-,-,-,-,-,-,s7,-,-⟩:=setup_parts hs
 revert h0
 rw [readZ]
 split
 · intro h0; cases h0
 · split
   · intro h0; cases h0
   · split
     · rename_i w c hb
       intro _;obtain ⟨f,hf,rfl,-⟩:=bestF_mem hb;have hf':=(sortedF_perm _).mem_iff.1 hf;obtain ⟨e,he,h1,-,-⟩:=mem_foundZ hf'
       show isWordB f.word=true
       rw [h1];exact (entry_ok s7 he).1
     · intro h0; cases h0
def possB (e:PEvent):Bool :=
 if e.kind=1∨e.kind=2 then pointB ⟨e.x,e.y,e.t⟩
 else if e.kind=3∨e.kind=4 then decide (e.x=0) && (decide (e.y=0) && inR e.t 0 3600000)
 else false
theorem possB_kind {e:PEvent} (h:possB e=true):(e.kind=1∨e.kind=2)∨(e.kind=3∨e.kind=4):=by
 unfold possB at h
 split at h
 · left; assumption
 · split at h
   · right; assumption
   · cases h
theorem possB_t {e:PEvent} (h:possB e=true):0≤e.t∧e.t≤3600000:=by
 unfold possB at h
 split at h
 · simp only [pointB,inR,Bool.and_eq_true,decide_eq_true_eq] at h; omega
 · split at h
   · simp only [inR,Bool.and_eq_true,decide_eq_true_eq] at h; omega
   · cases h
theorem possB_xy {e:PEvent} (h:possB e=true):0≤e.x∧e.x≤4095∧0≤e.y∧e.y≤4095:=by
 unfold possB at h
 split at h
 · simp only [pointB,inR,Bool.and_eq_true,decide_eq_true_eq] at h; omega
 · split at h
   · simp only [inR,Bool.and_eq_true,decide_eq_true_eq] at h; omega
   · cases h
set_option maxHeartbeats 2000000 in
theorem impl_possible_c (e:PEvent) (w:World) :
 Calls Tryz.prog 20 #[.agg #[.int .i64 e.kind,.int .i64 e.x,.int .i64 e.y,.int .i64 e.t]] w fun en w'=>en=.returned (.bool (possB e))∧w'=w.alloc (.cells #[.int .i64 e.kind,.int .i64 e.x,.int .i64 e.y,.int .i64 e.t] 48):=by
 have CX:=impl_isCoord_c e.x;have CY:=impl_isCoord_c e.y;have CT:=impl_inR_c e.t 0 3600000
 by_cases k12:e.kind=1∨e.kind=2
 · have hv:possB e=(inR e.x 0 4095 && (inR e.y 0 4095 && inR e.t 0 3600000)):=by simp [possB,k12,pointB]
   rw [hv];clear hv;generalize inR e.x 0 4095=bx at CX ⊢;generalize inR e.y 0 4095=cy at CY ⊢;generalize inR e.t 0 3600000=dt at CT ⊢;have HX:=Lib.hid CX;have HY:=Lib.hid CY;have HT:=Lib.hid CT;clear CX CY CT;rcases k12 with hk | hk
   all_goals
    rw [hk];have g1:((1:Int) == 1)=true:=rfl;clear hk;cases bx <;> cases cy
    all_goals
     go_enter Tryz.func20,Tryz.ntmps20
     go_wp2_with (first | (go_at_call_of 38 (Value.int .i64 e.x); refine (HX.out _).mono ?_; rintro en w1 ⟨rfl,rfl⟩) | (go_at_call_of 38 (Value.int .i64 e.y); refine (HY.out _).mono ?_; rintro en w1 ⟨rfl,rfl⟩) | (go_at_call 39; refine (HT.out _).mono ?_; rintro en w1 ⟨rfl,rfl⟩))
     go_ret;exact ⟨rfl,rfl⟩
 · by_cases k34:e.kind=3∨e.kind=4
   · have hv:possB e=(decide (e.x=0) && (decide (e.y=0) && inR e.t 0 3600000)):=by simp [possB,k12,k34]
     rw [hv];clear hv;generalize inR e.t 0 3600000=dt at CT ⊢;have HT:=Lib.hid CT;clear CX CY CT k12
     by_cases hx:e.x=0
     all_goals by_cases hy:e.y=0
     all_goals
      first | (have gx:(e.x == 0)=true:=by simp [hx]) | (have gx:(e.x == 0)=false:=by simp [hx])
      first | (have gy:(e.y == 0)=true:=by simp [hy]) | (have gy:(e.y == 0)=false:=by simp [hy])
      rw [show decide (e.x=0)=(e.x == 0) by rw [Bool.eq_iff_iff]; simp,show decide (e.y=0)=(e.y == 0) by rw [Bool.eq_iff_iff]; simp,gx,gy];clear hx hy;rcases k34 with hk | hk
      all_goals
       rw [hk];clear hk
       go_enter Tryz.func20,Tryz.ntmps20
       go_wp2_with (first | (go_at_call 39; refine (HT.out _).mono ?_; rintro en w1 ⟨rfl,rfl⟩))
       go_ret;exact ⟨rfl,rfl⟩
   · have hv:possB e=false:=by simp [possB,k12,k34]
     rw [hv];have g1:(e.kind == 1)=false:=by simp; omega
     have g2:(e.kind == 2)=false:=by simp; omega
     have g3:(e.kind == 3)=false:=by simp; omega
     have g4:(e.kind == 4)=false:=by simp; omega
     clear hv k12 k34 CX CY CT
     go_enter Tryz.func20,Tryz.ntmps20
     go_wp2_with fail
     go_ret;exact ⟨rfl,rfl⟩
theorem ptsOk_cong {s t:PStroke}:∀ n,(∀ k,k < n→pt s k=pt t k)→ptsOk s n=ptsOk t n
 | 0,_=>rfl
 | n+1,h=>by
   rw [ptsOk,ptsOk,ptsOk_cong n (fun k hk=>h k (by omega)),ptOk,ptOk,h n (by omega)]
   by_cases e:n=0
   · subst e; rfl
   · rw [h (n - 1) (by omega)]
theorem pt_left {s t:PStroke} {k:Nat} (h:k < s.length):pt (s++t) k=pt s k:=by
 rw [pt,pt,List.getD_eq_getElem?_getD,List.getD_eq_getElem?_getD,List.getElem?_append_left h]
theorem pt_last (s:PStroke) (p:PPoint):pt (s++[p]) s.length=p:=by
 rw [pt,List.getD_eq_getElem?_getD,List.getElem?_append_right (Nat.le_refl _),Nat.sub_self]; rfl
theorem ptsOk_snoc (s:PStroke) (p:PPoint):ptsOk (s++[p]) (s++[p]).length=(ptsOk s s.length && (pointB p && (decide (s.length=0) || decide ((pt s (s.length - 1)).t < p.t)))):=by
 rw [List.length_append,List.length_singleton,ptsOk,ptsOk_cong s.length (fun k hk=>pt_left hk),ptOk,pt_last]
 by_cases e:s.length=0
 · simp [e]
 · rw [pt_left (by omega)]
theorem stsOk_cong {s t:List PStroke}:∀ n,(∀ k,k < n→strk s k=strk t k)→stsOk s n=stsOk t n
 | 0,_=>rfl
 | n+1,h=>by
   rw [stsOk,stsOk,stsOk_cong n (fun k hk=>h k (by omega)),stOk,stOk,h n (by omega)]
   by_cases e:n=0
   · subst e; rfl
   · rw [h (n - 1) (by omega)]
theorem strk_left {s t:List PStroke} {k:Nat} (h:k < s.length):strk (s++t) k=strk s k:=by
 rw [strk,strk,List.getD_eq_getElem?_getD,List.getD_eq_getElem?_getD,List.getElem?_append_left h]
theorem strk_last (s:List PStroke) (p:PStroke):strk (s++[p]) s.length=p:=by
 rw [strk,List.getD_eq_getElem?_getD,List.getElem?_append_right (Nat.le_refl _),Nat.sub_self]; rfl
theorem inkEndI_eq (xs:List PStroke):inkEndI xs=if xs.length=0 then -1 else lastT (strk xs (xs.length - 1)):=rfl
theorem inkEndI_snoc (s:List PStroke) (p:PStroke):inkEndI (s++[p])=lastT p:=by
 rw [inkEndI_eq,if_neg (by simp),List.length_append,List.length_singleton,Nat.add_sub_cancel,strk_last]
theorem inkB_snoc {s:List PStroke} {p:PStroke} (h:inkB s=true) (hp:strokeB p=true) (ht:inkEndI s < firstT p) (hl:s.length < 16):inkB (s++[p])=true:=by
 rw [inkB,Bool.and_eq_true] at h ⊢;rw [List.length_append,List.length_singleton,stsOk,stsOk_cong s.length (fun k hk=>strk_left hk),h.1,stOk,strk_last,hp,decide_eq_true_iff];refine ⟨?_,by omega⟩
 by_cases e:s.length=0
 · simp [e]
 · rw [inkEndI_eq,if_neg e] at ht
   rw [strk_left (by omega),decide_eq_true ht]; simp
theorem inkB_nil:inkB []=true:=rfl
theorem inkEnd_none:inkEndI []=-1:=rfl
section
variable (rw':PSess→Option ByteArray)
def laterB (q:PSess) (e:PEvent):Bool:=decide (q.time < e.t) || (decide (e.t=q.time) && (decide (e.kind≠2) && (decide (e.kind≠1) || decide (q.strokes.length=0))))
def codeS (q:PSess) (e:PEvent):Int :=
 if decide (0 < q.opn.length)≠decide (e.kind=2∨e.kind=3) then 6
 else if laterB q e=false then 2
 else if (e.kind=2∧60≤q.opn.length)∨(e.kind=3∧16≤q.strokes.length) then 5
 else 0
def noneT:ByteArray:=⟨#[110,111,110,101]⟩
def wordT:ByteArray:=⟨#[119,111,114,100,32]⟩
def finS (q:PSess):PSess × ByteArray :=
 if q.strokes.length=0 then (q,.empty)
 else match rw' q with
  | some w=>if q.words.length < 60 then ({ q with strokes:=[],words:=q.words++[w] },wordT++w) else ({ q with strokes:=[] },noneT)
  | none=>({ q with strokes:=[] },noneT)
def takeS (q:PSess) (e:PEvent):PSess × ByteArray :=
 if e.kind=1 then
  let r:=if q.time+q.setup.pause≤e.t then finS rw' q else (q,.empty)
  ({ r.1 with opn:=[⟨e.x,e.y,e.t⟩],time:=e.t },r.2)
 else if e.kind=2 then ({ q with opn:=q.opn++[⟨e.x,e.y,e.t⟩],time:=e.t },.empty)
 else if e.kind=3 then ({ q with strokes:=q.strokes++[q.opn],opn:=[],time:=e.t },.empty)
 else let r:=finS rw' q
  ({ r.1 with time:=e.t },r.2)
theorem sessB_parts {q:PSess} (h:sessB q=true):setupB q.setup=true∧inkB q.strokes=true∧(0≤q.time∧q.time≤3600000)∧inkEndI q.strokes≤q.time∧openB q=true∧q.words.all isWordB=true∧q.words.length≤60:=by
 simp only [sessB,Bool.and_eq_true,inR,decide_eq_true_eq] at h;exact ⟨h.1,h.2.1,h.2.2.1,h.2.2.2.1,h.2.2.2.2.1,h.2.2.2.2.2.1,h.2.2.2.2.2.2⟩
theorem sessB_of {q:PSess} (h1:setupB q.setup=true) (h2:inkB q.strokes=true) (h3:0≤q.time∧q.time≤3600000) (h4:inkEndI q.strokes≤q.time) (h5:openB q=true) (h6:q.words.all isWordB=true) (h7:q.words.length≤60):sessB q=true:=by
 simp only [sessB,Bool.and_eq_true,inR,decide_eq_true_eq];exact ⟨h1,h2,h3,h4,h5,h6,h7⟩
theorem finS_is (hrw:∀ q w,sessB q=true→rw' q=some w→isWordB w=true) {q:PSess} (h:sessB q=true):(finS rw' q).1.strokes=[]∧(finS rw' q).1.setup=q.setup∧(finS rw' q).1.opn=q.opn∧(finS rw' q).1.time=q.time∧(finS rw' q).1.words.all isWordB=true∧(finS rw' q).1.words.length≤60:=by
 obtain ⟨h1,h2,h3,h4,h5,h6,h7⟩:=sessB_parts h;rw [finS]
 split
 · rename_i h0
   exact ⟨List.length_eq_zero_iff.1 h0,rfl,rfl,rfl,h6,h7⟩
 · split
   · rename_i w hw
     split
     · rename_i hl
       refine ⟨rfl,rfl,rfl,rfl,?_,?_⟩
       · show (q.words++[w]).all isWordB=true
         rw [List.all_append,h6,List.all_cons,hrw q w h hw]; rfl
       · show (q.words++[w]).length≤60
         rw [List.length_append,List.length_singleton]; omega
     · exact ⟨rfl,rfl,rfl,rfl,h6,h7⟩
   · exact ⟨rfl,rfl,rfl,rfl,h6,h7⟩
theorem codeS_zero {q:PSess} {e:PEvent} (h:codeS q e=0):(0 < q.opn.length↔e.kind=2∨e.kind=3)∧laterB q e=true∧(e.kind=2→q.opn.length < 60)∧(e.kind=3→q.strokes.length < 16):=by
 unfold codeS at h
 split at h
 · cases h
 · rename_i h1
   split at h
   · cases h
   · rename_i h2
     split at h
     · cases h
     · rename_i h3
       refine ⟨?_,by simpa using h2,fun hk=>?_,fun hk=>?_⟩
       · have h1':=Decidable.not_not.1 h1
         rwa [decide_eq_decide] at h1'
       · have:=fun h=>h3 (.inl ⟨hk,h⟩); omega
       · have:=fun h=>h3 (.inr ⟨hk,h⟩); omega
theorem laterB_le {q:PSess} {e:PEvent} (h:laterB q e=true):q.time≤e.t:=by
 unfold laterB at h;simp only [Bool.or_eq_true,Bool.and_eq_true,decide_eq_true_eq] at h;rcases h with h | h <;> omega
theorem takeS_ok (hrw:∀ q w,sessB q=true→rw' q=some w→isWordB w=true) {q:PSess} {e:PEvent} (h:sessB q=true) (hp:possB e=true) (hc:codeS q e=0):sessB (takeS rw' q e).1=true:=by
 obtain ⟨h1,h2,h3,h4,h5,h6,h7⟩:=sessB_parts h;obtain ⟨c1,c2,c3,c4⟩:=codeS_zero hc;have hle:=laterB_le c2;have ht:=possB_t hp;obtain ⟨f1,f2,f3,f4,f5,f6⟩:=finS_is rw' hrw h;rw [takeS]
 by_cases k1:e.kind=1
 · rw [if_pos k1]
   have hpt:pointB ⟨e.x,e.y,e.t⟩=true:=by unfold possB at hp; rwa [if_pos (.inl k1)] at hp
   have hst:strokeB [⟨e.x,e.y,e.t⟩]=true:=by
    have:=ptsOk_snoc [] ⟨e.x,e.y,e.t⟩;rw [List.nil_append] at this;rw [strokeB,this,hpt]; rfl
   have hop:∀ r:PSess,inkEndI r.strokes < e.t→openB { r with opn:=[⟨e.x,e.y,e.t⟩],time:=e.t }=true:=by
    intro r hr;rw [openB];simp only [hst,Bool.true_and];have:(pt [(⟨e.x,e.y,e.t⟩:PPoint)] 0).t=e.t:=rfl;simp [pt,hr]
   by_cases kp:q.time+q.setup.pause≤e.t
   · rw [if_pos kp]
     refine sessB_of ?_ ?_ ht ?_ (hop _ ?_) f5 f6
     · show setupB (finS rw' q).1.setup=true
       rw [f2]; exact h1
     · show inkB (finS rw' q).1.strokes=true
       rw [f1]; rfl
     · show inkEndI (finS rw' q).1.strokes≤e.t
       rw [f1,inkEnd_none]; omega
     · rw [f1,inkEnd_none]; omega
   · rw [if_neg kp]
     refine sessB_of h1 h2 ht (Int.le_trans h4 hle) (hop _ ?_) h6 h7
     show inkEndI q.strokes < e.t
     unfold laterB at c2;simp only [Bool.or_eq_true,Bool.and_eq_true,decide_eq_true_eq] at c2;rcases c2 with c2 | ⟨-,-,c2⟩
     · omega
     · rcases c2 with c2 | c2
       · exact absurd k1 c2
       · rw [inkEndI,if_pos c2]; omega
 · rw [if_neg k1]
   by_cases k2:e.kind=2
   · rw [if_pos k2]
     have hpt:pointB ⟨e.x,e.y,e.t⟩=true:=by unfold possB at hp; rwa [if_pos (.inr k2)] at hp
     have ho:0 < q.opn.length:=c1.2 (.inl k2)
     have hlt:q.time < e.t:=by
      unfold laterB at c2;simp only [Bool.or_eq_true,Bool.and_eq_true,decide_eq_true_eq] at c2;rcases c2 with c2 | ⟨-,c2,-⟩
      · exact c2
      · exact absurd k2 c2
     have h5':=h5;rw [openB,Bool.or_eq_true,decide_eq_true_iff] at h5';rcases h5' with h5' | h5'
     · omega
     · simp only [Bool.and_eq_true,decide_eq_true_eq] at h5'
       obtain ⟨o1,o2,o3⟩:=h5';have o1':=o1;rw [strokeB,Bool.and_eq_true,Bool.and_eq_true,decide_eq_true_iff,decide_eq_true_iff] at o1';refine sessB_of h1 h2 ht (Int.le_trans h4 hle) ?_ h6 h7;rw [openB];simp only [Bool.or_eq_true,Bool.and_eq_true,decide_eq_true_eq];refine .inr ⟨?_,?_,?_⟩
       · rw [strokeB,ptsOk_snoc,o1'.1,hpt]
         have:=c3 k2;simp only [Bool.true_and,Bool.and_eq_true,Bool.or_eq_true,decide_eq_true_eq,List.length_append,List.length_singleton];exact ⟨.inr (by omega),by omega,by omega⟩
       · rw [pt_left ho]; exact o2
       · rw [List.length_append,List.length_singleton,Nat.add_sub_cancel,pt_last]; exact Int.le_refl _
   · rw [if_neg k2]
     by_cases k3:e.kind=3
     · rw [if_pos k3]
       have ho:0 < q.opn.length:=c1.2 (.inr k3);rw [openB,Bool.or_eq_true,decide_eq_true_iff] at h5;rcases h5 with h5 | h5
       · omega
       · simp only [Bool.and_eq_true,decide_eq_true_eq] at h5
         obtain ⟨o1,o2,o3⟩:=h5;refine sessB_of h1 (inkB_snoc h2 o1 o2 (c4 k3)) ht ?_ rfl h6 h7
         show inkEndI (q.strokes++[q.opn])≤e.t
         rw [inkEndI_snoc];exact Int.le_trans o3 hle
     · rw [if_neg k3]
       have ho:q.opn.length=0:=by
        rcases Nat.eq_zero_or_pos q.opn.length with h0 | h0
        · exact h0
        · rcases c1.1 h0 with h' | h'
          · exact absurd h' k2
          · exact absurd h' k3
       refine sessB_of ?_ ?_ ht ?_ ?_ f5 f6
       · show setupB (finS rw' q).1.setup=true
         rw [f2]; exact h1
       · show inkB (finS rw' q).1.strokes=true
         rw [f1]; rfl
       · show inkEndI (finS rw' q).1.strokes≤e.t
         rw [f1,inkEnd_none]; omega
       · rw [openB]
         simp only [f3,ho,decide_true,Bool.true_or]
end
end Go.Proofs.YtafgknkcjohjeaaGreatDoor

/- Found words in order, in the reference. Conditions: none. -/
import Derived.Test.YtafgknkcjohjeaaGreatDoorTke
import Derived.Test.YtafgknkcjohjeaaGreatDoorRzNe
namespace Go.Proofs.YtafgknkcjohjeaaGreatDoor
open Go Go.RowKit
set_option maxHeartbeats 8000000
set_option maxRecDepth 100000
def rdLt (a:ByteArray) (n:Int) (b:ByteArray) (m:Int):Bool:=decide (n < m) || (decide (n=m) && (decide (a.size < b.size) || (decide (a.size=b.size) && bLess a b)))
theorem rdLt_found {x y:FoundZ} (h:x.word≠y.word):rdLt x.word (x.path+x.own) y.word (y.path+y.own)=foundLt x y:=by
 rw [rdLt,foundLt];simp [h]
theorem spec_l16Sum_c {a:ByteArray} {p o:Int} (h:I64 (p+o)) (w:World):Calls Tryz.prog 57 #[.agg #[.string a,.int .i64 p,.int .i64 o]] w fun e w'=>e=.returned (.int .i64 (p+o))∧Below w.heap.size w w':=by
 have b1:Below w.heap.size w (w.alloc (.cells #[.string a,.int .i64 p,.int .i64 o] 129)):=(Below.refl _ _).alloc (Nat.le_refl _) _;have z:IntKind.i64.wrap (p+o)=p+o:=IntWalk.i64_in _ ⟨h.1,h.2⟩
 go_enter Tryz.func57,Tryz.ntmps57
 go_wp2_with fail
 go_ret;exact ⟨rfl,b1⟩
theorem spec_l15Before_c (a b:ByteArray) (n m:Int) (w:World):Calls Tryz.prog 116 #[.agg #[.string a,.int .i64 n],.agg #[.string b,.int .i64 m]] w fun e w'=>e=.returned (.bool (rdLt a n b m))∧Below w.heap.size w w':=by
 have b2:Below w.heap.size w ((w.alloc (.cells #[.string a,.int .i64 n] 214)).alloc (.cells #[.string b,.int .i64 m] 214)):=((Below.refl _ _).alloc (Nat.le_refl _) _).alloc (by simp) _
 by_cases h2:n=m
 · subst h2
   have e2:(n == n)=true:=by simp
   by_cases h3:a.size=b.size
   · have e3:(a.size == b.size)=true:=by simp [h3]
     have e4:decide (a.size=b.size)=true:=by simp [h3]
     cases h4:bLess a b
     all_goals
      have HE:=Lib.hid (show rdLt a n b n=bLess a b by simp [rdLt,h3]);rw [h4] at HE;unfold bLess at h4
      go_enter Tryz.func116,Tryz.ntmps116
      go_wp2_with fail
      go_ret;exact ⟨by rw [HE.out]; rfl,b2⟩
   · have e3:(a.size == b.size)=false:=beq_false_of_ne h3
     have e4:decide (a.size=b.size)=false:=decide_eq_false h3
     by_cases h5:a.size < b.size
     · have e5:decide (a.size < b.size)=true:=decide_eq_true h5
       have HE:=Lib.hid (show rdLt a n b n=true by simp [rdLt,h5])
       go_enter Tryz.func116,Tryz.ntmps116
       go_wp2_with fail
       go_ret;exact ⟨by rw [HE.out]; rfl,b2⟩
     · have e5:decide (a.size < b.size)=false:=decide_eq_false h5
       have HE:=Lib.hid (show rdLt a n b n=false by simp [rdLt,h5,h3])
       go_enter Tryz.func116,Tryz.ntmps116
       go_wp2_with fail
       go_ret;exact ⟨by rw [HE.out]; rfl,b2⟩
 · have e2:(n == m)=false:=beq_false_of_ne h2
   by_cases h1:n < m
   · have e1:decide (n < m)=true:=decide_eq_true h1
     have HE:=Lib.hid (show rdLt a n b m=true by simp [rdLt,h1])
     go_enter Tryz.func116,Tryz.ntmps116
     go_wp2_with fail
     go_ret;exact ⟨by rw [HE.out]; rfl,b2⟩
   · have e1:decide (n < m)=false:=decide_eq_false h1
     have HE:=Lib.hid (show rdLt a n b m=false by simp [rdLt,h1,h2])
     go_enter Tryz.func116,Tryz.ntmps116
     go_wp2_with fail
     go_ret;exact ⟨by rw [HE.out]; rfl,b2⟩
theorem spec_l16Before_c {x y:FoundZ} (hx:I64 (x.path+x.own)) (hy:I64 (y.path+y.own)) (hne:x.word≠y.word) (w:World):Calls Tryz.prog 88 #[.agg #[.string x.word,.int .i64 x.path,.int .i64 x.own],.agg #[.string y.word,.int .i64 y.path,.int .i64 y.own]] w fun e w'=>e=.returned (.bool (foundLt x y))∧Below w.heap.size w w':=by
 rw [← rdLt_found hne];obtain ⟨a,p,o⟩:=x;obtain ⟨b,q,r⟩:=y;dsimp only at hx hy ⊢;have CX:=Lib.hid (fun w=>spec_l16Sum_c (a:=a) hx w);have CY:=Lib.hid (fun w=>spec_l16Sum_c (a:=b) hy w);have CB:=Lib.hid (fun w=>spec_l15Before_c a b (p+o) (q+r) w);have R0:=(Row.new w 129 #[.string a,.int .i64 p,.int .i64 o]).alloc (.cells #[.string b,.int .i64 q,.int .i64 r] 129);have R1:=Row.new (w.alloc (.cells #[.string a,.int .i64 p,.int .i64 o] 129)) 129 #[.string b,.int .i64 q,.int .i64 r];have b0:Below w.heap.size w ((w.alloc (.cells #[.string a,.int .i64 p,.int .i64 o] 129)).alloc (.cells #[.string b,.int .i64 q,.int .i64 r] 129)):=((Below.refl _ _).alloc (Nat.le_refl _) _).alloc (by simp) _;rw [World.size_alloc] at R1;clear hx hy hne
 go_enter Tryz.func88,Tryz.ntmps88
 go_upto_region 1 with fail
 generalize (w.alloc (.cells #[.string a,.int .i64 p,.int .i64 o] 129)).alloc (.cells #[.string b,.int .i64 q,.int .i64 r] 129)=w0 at R0 R1 b0 ⊢;have HS:=Lib.hid (fun (w':World) (b':Below w0.heap.size w0 w')=>show (fun w':World=>w'.cell? ⟨w.heap.size,0,none⟩=some (.string a)∧w'.cell? ⟨w.heap.size,1,none⟩=some (.int .i64 p)∧w'.cell? ⟨w.heap.size,2,none⟩=some (.int .i64 o)∧w'.cell? ⟨w.heap.size+1,0,none⟩=some (.string b)∧w'.cell? ⟨w.heap.size+1,1,none⟩=some (.int .i64 q)∧w'.cell? ⟨w.heap.size+1,2,none⟩=some (.int .i64 r)) w' from ⟨(R0.later b').c0,(R0.later b').c1,(R0.later b').c2,(R1.later b').c0,(R1.later b').c1,(R1.later b').c2⟩);have B0:=Lib.hid b0;have BZ:=Lib.hid ((Below.refl w0.heap.size w0).drew);have hS:=HS.out _ BZ.out;refine wp_region_held_drew (S:=(fun w':World=>w'.cell? ⟨w.heap.size,0,none⟩=some (.string a)∧w'.cell? ⟨w.heap.size,1,none⟩=some (.int .i64 p)∧w'.cell? ⟨w.heap.size,2,none⟩=some (.int .i64 o)∧w'.cell? ⟨w.heap.size+1,0,none⟩=some (.string b)∧w'.cell? ⟨w.heap.size+1,1,none⟩=some (.int .i64 q)∧w'.cell? ⟨w.heap.size+1,2,none⟩=some (.int .i64 r))) (by kernel_rfl) hS (fun _=>?_);clear R0 R1 b0;generalize w0.drew=we at BZ hS ⊢;refine tJ 0 hS ?_;refine tJ 1 hS ?_;refine tJ 2 hS ?_;refine tJ 5 hS ?_;refine tJ 6 hS ?_;refine tJ 7 hS ?_;refine rJ 3 fun K hK=>?_
 refine step_call 57 #[.tmp 7] _ rfl rfl #[.agg #[.string a,.int .i64 p,.int .i64 o]] Tryz.call57 (by go_simp) (CX.out we) ?_;rintro e w1 ⟨rfl,b1⟩;refine ⟨_,rfl,?_⟩;replace BZ:=Lib.hid (BZ.out.trans (b1.mono BZ.out.size));replace hS:=HS.out _ BZ.out;clear b1;refine bJ hK hS ?_;clear hK K;simp only [Act.put,pA,pB,pC];refine tJ 4 hS ?_;refine rJ 8 fun K hK=>?_
 refine step_call 57 #[.tmp 12] _ rfl rfl #[.agg #[.string b,.int .i64 q,.int .i64 r]] Tryz.call57 (by go_simp) (CY.out w1) ?_;rintro e w2 ⟨rfl,b1⟩;refine ⟨_,rfl,?_⟩;replace BZ:=Lib.hid (BZ.out.trans (b1.mono BZ.out.size));replace hS:=HS.out _ BZ.out;clear b1;refine bJ hK hS ?_;clear hK K;simp only [Act.put,pA,pB,pC];refine tJ 9 hS ?_;refine rJ 10 fun K hK=>?_
 refine step_call 116 #[.tmp 9,.tmp 14] _ rfl rfl #[.agg #[.string a,.int .i64 (p+o)],.agg #[.string b,.int .i64 (q+r)]] Tryz.call116 (by go_simp) (CB.out w2) ?_;rintro e w3 ⟨rfl,b1⟩;refine ⟨_,rfl,?_⟩;replace BZ:=Lib.hid (BZ.out.trans (b1.mono BZ.out.size));replace hS:=HS.out _ BZ.out;clear b1;refine bJ hK hS ?_;clear hK K;simp only [Act.put,pA,pB,pC];refine tJ 11 hS ?_;refine wpAnyH_done (by kernel_rfl) ?_ _
 go_wp2_with fail
 go_ret;exact ⟨rfl,B0.out.trans (BZ.out.mono B0.out.size)⟩
def fE (es:List LEdge) (n:Nat) (e:PEntry):Option FoundZ:=(lcE es (letterAt e.word) e.word.size n).map fun c=>⟨e.word,c,e.cost⟩
def foundK (xs:List PEntry) (es:List LEdge) (n i:Nat):List FoundZ:=(xs.take i).filterMap (fE es n)
theorem foundK_all (p:PSetup) (es:List LEdge) (n:Nat):foundK p.entries es n p.entries.length=foundZ p es n:=by rw [foundK,List.take_length]; rfl
theorem foundK_none {xs:List PEntry} {es:List LEdge} {n i:Nat} (h:i < xs.length) (hn:lcE es (letterAt xs[i].word) xs[i].word.size n=none):foundK xs es n (i+1)=foundK xs es n i:=by
 rw [foundK,List.take_succ_eq_append_getElem h,List.filterMap_append,← foundK];have:[xs[i]].filterMap (fE es n)=[]:=by rw [List.filterMap_cons_none (by rw [fE,hn]; rfl)]; rfl
 rw [this,List.append_nil]
theorem foundK_some {xs:List PEntry} {es:List LEdge} {n i:Nat} (h:i < xs.length) {c:Int} (hn:lcE es (letterAt xs[i].word) xs[i].word.size n=some c):foundK xs es n (i+1)=foundK xs es n i++[⟨xs[i].word,c,xs[i].cost⟩]:=by
 rw [foundK,List.take_succ_eq_append_getElem h,List.filterMap_append,← foundK];have:[xs[i]].filterMap (fE es n)=[⟨xs[i].word,c,xs[i].cost⟩]:=by rw [List.filterMap_cons_some (b:=⟨xs[i].word,c,xs[i].cost⟩) (by rw [fE,hn]; rfl)]; rfl
 rw [this]
theorem lex_rises {xs:List PEntry} (h:lexB xs=true):∀ k j,j < k→k < xs.length→bLess (entAt xs j).word (entAt xs k).word=true:=by
 rw [lexB,Bool.and_eq_true] at h
 have key:∀ n,entsOk xs n=true→∀ k,k < n→entOk xs k=true:=by
  intro n
  induction n with
  | zero=>intro _ k hk; omega
  | succ n ih =>
    intro h k hk;rw [entsOk,Bool.and_eq_true] at h
    by_cases e:k=n
    · subst e; exact h.2
    · exact ih h.1 k (by omega)
 intro k
 induction k with
 | zero=>intro j hj; omega
 | succ k ih =>
   intro j hj hk;have h1:=key _ h.1 (k+1) hk;rw [entOk] at h1;simp only [Bool.and_eq_true,Bool.or_eq_true,decide_eq_true_eq] at h1
   have h2:bLess (entAt xs k).word (entAt xs (k+1)).word=true:=by
    rcases h1.2.2 with h3 | h3
    · omega
    · exact h3
   by_cases e:j=k
   · subst e; exact h2
   · exact bLess_sto.tr _ _ _ (ih j (by omega) (by omega)) h2
theorem lex_new {xs:List PEntry} (h:lexB xs=true) {es:List LEdge} {n i:Nat} (hi:i < xs.length):∀ f∈foundK xs es n i,f.word≠xs[i].word:=by
 intro f hf he;obtain ⟨e,he2,hf⟩:=List.mem_filterMap.1 hf;rw [fE] at hf;obtain ⟨c,-,rfl⟩:=Option.map_eq_some_iff.1 hf;obtain ⟨j,hj,rfl⟩:=List.getElem_of_mem he2;rw [List.length_take] at hj;rw [List.getElem_take] at he;have:=lex_rises h i j (by omega) hi;rw [entAt_get (by omega),entAt_get hi] at this;dsimp only at he;rw [he,bLess_sto.irr] at this;cases this
theorem foundK_len (xs:List PEntry) (es:List LEdge) (n i:Nat):(foundK xs es n i).length≤i:=by
 refine Nat.le_trans (List.length_filterMap_le _ _) ?_;rw [List.length_take]; omega
theorem foundK_words {xs:List PEntry} (h:lexB xs=true) (es:List LEdge) (n:Nat):∀ i,i≤xs.length→(foundK xs es n i).Pairwise fun x y=>x.word≠y.word:=by
 intro i
 induction i with
 | zero=>intro _; simp [foundK]
 | succ i ih =>
   intro hi;cases hc:lcE es (letterAt xs[i].word) xs[i].word.size n with
   | none=>rw [foundK_none (by omega) hc]; exact ih (by omega)
   | some c =>
     rw [foundK_some (by omega) hc,List.pairwise_append];exact ⟨ih (by omega),List.pairwise_singleton _ _,fun x hx y hy=>by simp only [List.mem_singleton] at hy; subst hy; exact lex_new h (by omega) x hx⟩
theorem sortedF_strict {l:List FoundZ} (h:l.Pairwise fun x y=>x.word≠y.word):(sortedF l).Pairwise (fun x y=>foundLt x y=true):=by
 have h1:(sortedF l).Pairwise fun x y=>x.word≠y.word:=((sortedF_perm _).pairwise_iff (fun {x y} h k=>h k.symm)).2 h
 refine (List.pairwise_and_iff.2 ⟨sortedF_weak l,h1⟩).imp fun {x y} h=>?_
 cases e:foundLt x y with
 | true=>rfl
 | false=>exact absurd (by rw [foundLt_sto.tot x y e h.1]) h.2
theorem sortedF_snoc (l:List FoundZ) (e:FoundZ):sortedF (l++[e])=insS foundLt e (sortedF l):=by
 rw [sortedF,List.foldl_append]; rfl
theorem sortedF_len (l:List FoundZ):(sortedF l).length=l.length:=(sortedF_perm l).length_eq
theorem foundK_mem {xs:List PEntry} {es:List LEdge} {n i:Nat} {f:FoundZ} (hf:f∈foundK xs es n i):∃ e∈xs,f.word=e.word∧f.own=e.cost∧lcE es (letterAt e.word) e.word.size n=some f.path:=by
 obtain ⟨e,he,hf⟩:=List.mem_filterMap.1 hf;rw [fE] at hf;obtain ⟨c,hc,rfl⟩:=Option.map_eq_some_iff.1 hf;exact ⟨e,List.mem_of_mem_take he,rfl,rfl,hc⟩
end Go.Proofs.YtafgknkcjohjeaaGreatDoor

/- The cost of a word behind another one, in the program. Conditions: none. -/
import Derived.Test.YtalmeogjhmblhaaGreatRzYw
import Derived.Shelf.SortM.Plain
import Derived.Test.YtalmeogjhmblhaaGreatLibw
import Derived.Test.YtalmeogjhmblhaaGreatProg
import Derived.Test.YtalmeogjhmblhaaGreatRyTw
import Derived.Test.YtalmeogjhmblhaaGreatTkw
import Derived.Test.YtalmeogjhmblhaaGreatRyUw
import Derived.Test.YtalmeogjhmblhaaGreatRyJw
namespace Go.Proofs.YtalmeogjhmblhaaGreat
open Go Go.RowKit
set_option maxHeartbeats 8000000
set_option maxRecDepth 100000
theorem bigs_rises {xs:List PBigram} (h:bigsOk xs xs.length=true):∀ k j,j < k→k < xs.length→cLess (bigKey (bigAt xs j)) (bigKey (bigAt xs k))=true:=by
 have key:∀ n,bigsOk xs n=true→∀ k,k < n→bigOk xs k=true:=by
  intro n
  induction n with
  | zero=>intro _ k hk; omega
  | succ n ih =>
    intro h k hk;rw [bigsOk,Bool.and_eq_true] at h
    by_cases e:k=n
    · subst e; exact h.2
    · exact ih h.1 k (by omega)
 intro k
 induction k with
 | zero=>intro j hj; omega
 | succ k ih =>
   intro j hj hk;have h1:=key _ h (k+1) hk;rw [bigOk] at h1;simp only [Bool.and_eq_true,Bool.or_eq_true,decide_eq_true_eq] at h1
   have h2:cLess (bigKey (bigAt xs k)) (bigKey (bigAt xs (k+1)))=true:=by
    rcases h1.2 with h3 | h3
    · omega
    · exact h3
   by_cases e:j=k
   · subst e; exact h2
   · exact cLess_sto.tr _ _ _ (ih j (by omega) (by omega)) h2
theorem impl_pairCost_c {o:Bool} {bg:TypeId} {p:PSetup} {v:Value} {F:List Nat} (a b:ByteArray) (w:World) (h:(pBigrams bg).rep o w p.bigrams [v] F) (hm:modelB p.dflt p.bigrams=true) :
 Calls Tryz.prog 88 #[.agg #[.int .i64 p.dflt,v],.string a,.string b] w fun e w'=>e=.returned (.int .i64 (pairZ p a b))∧Below w.heap.size w w':=by
 have hm2:=hm;simp only [modelB,Bool.and_eq_true,decide_eq_true_iff] at hm2
 have hs:∀ j m (hm:m < p.bigrams.length) (hj:j < m),cLess (bigKey (p.bigrams[j]'(by omega))) (bigKey p.bigrams[m])=true:=fun j m hm hj=>by
  have:=bigs_rises hm2.1 m j hj hm
  rwa [bigAt_get (by omega),bigAt_get hm] at this
 obtain ⟨B,c,rfl,-,-,-⟩:=pBigrams_open h;have R0:=Row.new w 54 #[.int .i64 p.dflt,.slice B p.bigrams.length c];have b0:Below w.heap.size w (w.alloc (.cells #[.int .i64 p.dflt,.slice B p.bigrams.length c] 54)):=(Below.refl _ _).alloc (Nat.le_refl _) _;have C1:=Lib.hid (search_Bigram_c ⟨a,b,0⟩ _ (h.below b0) (by omega) hs)
 have HQ:=Lib.hid (fun (i:Nat) (h1:∀ j (hj:j < p.bigrams.length),j < i→cLess (bigKey p.bigrams[j]) (a,b)=true) (h2:∀ j (hj:j < p.bigrams.length),i≤j→cLess (bigKey p.bigrams[j]) (a,b)=false) =>
  (show (∀ h:i < p.bigrams.length,bigKey p.bigrams[i]=(a,b)→pairZ p a b=p.bigrams[i].cost)∧((¬ ∃ h:i < p.bigrams.length,bigKey p.bigrams[i]=(a,b))→pairZ p a b=p.dflt) from by
    have hne:∀ j (hj:j < p.bigrams.length),bigKey p.bigrams[j]≠(a,b)→(decide (p.bigrams[j].first=a) && decide (p.bigrams[j].second=b))=false:=fun j hj h=>by
     rw [Bool.eq_false_iff];intro hh;rw [Bool.and_eq_true,decide_eq_true_iff,decide_eq_true_iff] at hh;exact h (by rw [bigKey,hh.1,hh.2])
    constructor
    · intro h hk
      rw [pairZ,find_first h (fun j hj hji=>hne j hj (fun e=>by have:=h1 j hj hji; rw [e,cLess_sto.irr] at this; cases this)) (by
       have e1:p.bigrams[i].first=a:=congrArg Prod.fst hk;have e2:p.bigrams[i].second=b:=congrArg Prod.snd hk;simp [e1,e2])]
      rfl
    · intro hno
      rw [pairZ,find_nothing (fun j hj _=>hne j hj (fun e=>by
       rcases Nat.lt_trichotomy j i with h3 | h3 | h3
       · have:=h1 j hj h3; rw [e,cLess_sto.irr] at this; cases this
       · subst h3; exact hno ⟨hj,e⟩
       · have h4:=hs i j hj h3
         rw [e,h2 i (by omega) (Nat.le_refl _)] at h4;cases h4))]
      rfl))
 have H:=Lib.hid h;clear h hs hm hm2
 go_enter Tryz.func88,Tryz.ntmps88
 go_upto_region 1 with fail
 generalize w.alloc (.cells #[.int .i64 p.dflt,.slice B p.bigrams.length c] 54)=w0 at R0 b0 C1 ⊢;have HR0:=Lib.hid R0;have B0:=Lib.hid b0;have x1:=R0.c1;clear R0 b0
 go_wp2_with fail
 refine C1.out.mono ?_;rintro e w1 ⟨i,f,rfl,hi,h1,h2,hf,b1⟩;have R1:=HR0.out.later b1;have y0:=R1.c0;have y1:=R1.c1;have BF:=Lib.hid (B0.out.trans (b1.mono B0.out.size));have HQI:=Lib.hid (HQ.out i h1 h2);clear h1 h2 b1 R1 x1 HQ C1;cases f with
 | true =>
   obtain ⟨hil,hk⟩:=hf.1 rfl;have HP:=Lib.hid (HQI.out.1 hil hk);obtain ⟨A',c',he,-,-,hr⟩:=pBigrams_open (H.out.below BF.out);cases he;obtain ⟨gb,ob,rfl,hgb,-,c0,c1,c2,-⟩:=hr i hil;have gi0:(0:Int)≤(i:Int):=by omega
   have gi1:(i:Int) < (p.bigrams.length:Int):=by omega
   clear hr hf hk HQI;generalize p.bigrams[i]=x at c0 c1 c2 HP
   go_wp2_with fail
   go_ret;exact ⟨by rw [HP.out]; rfl,BF.out⟩
 | false =>
   have HP:=Lib.hid (HQI.out.2 (fun h=>by have:=hf.2 h; cases this));clear hf HQI
   go_wp2_with fail
   go_ret;exact ⟨by rw [HP.out]; rfl,BF.out⟩
theorem ptsOk_at {s:PStroke}:∀ {n k:Nat},ptsOk s n=true→k < n→ptOk s k=true
 | 0,_,_,hk=>by omega
 | n+1,k,h,hk=>by
   simp only [ptsOk,Bool.and_eq_true] at h
   by_cases e:k=n
   · subst e; exact h.2
   · exact ptsOk_at h.1 (by omega)
theorem stroke_rises {s:PStroke} (h:strokeB s=true):firstT s≤lastT s:=by
 simp only [strokeB,Bool.and_eq_true,decide_eq_true_eq] at h
 have key:∀ k,k < s.length→(pt s 0).t≤(pt s k).t:=by
  intro k
  induction k with
  | zero=>intro _; exact Int.le_refl _
  | succ k ih =>
    intro hk;have h1:=ptsOk_at h.1 hk;simp only [ptOk,Bool.and_eq_true,Bool.or_eq_true,decide_eq_true_eq] at h1;have h2:=ih (by omega);rcases h1.2 with h3 | h3
    · omega
    · rw [show k+1 - 1=k from rfl] at h3; omega
 exact key _ (by omega)
theorem ink_rises {xs:List PStroke} (h:inkB xs=true):∀ k j,j < k→k < xs.length→lastT (strk xs j) < firstT (strk xs k):=by
 have h2:=h;simp only [inkB,Bool.and_eq_true,decide_eq_true_eq] at h2;intro k
 induction k with
 | zero=>intro j hj; omega
 | succ k ih =>
   intro j hj hk;have h1:=stsOk_get h2.1 hk;simp only [stOk,Bool.and_eq_true,Bool.or_eq_true,decide_eq_true_eq] at h1
   have h3:lastT (strk xs k) < firstT (strk xs (k+1)):=by
    rcases h1.2 with h4 | h4
    · omega
    · exact h4
   by_cases e:j=k
   · subst e; exact h3
   · have h5:=ih j (by omega) (by omega)
     have h6:=stroke_rises (inkB_stroke h (show k < xs.length by omega));rw [← strk_get] at h6;omega
theorem inkB_of {xs:List PStroke} (h1:∀ s∈xs,strokeB s=true) (h2:xs.Pairwise fun x y=>lastT x < firstT y) (h3:xs.length≤16):inkB xs=true:=by
 have key:∀ n,n≤xs.length→stsOk xs n=true:=by
  intro n
  induction n with
  | zero=>intro _; rfl
  | succ n ih =>
    intro hn;rw [stsOk,ih (by omega),Bool.true_and];refine stOk_step (by omega) (h1 _ (List.getElem_mem (by omega))) ?_;rcases Nat.eq_zero_or_pos n with h | h
    · exact .inl h
    · refine .inr ⟨n - 1,by omega,fun hj=>?_⟩
      exact List.pairwise_iff_getElem.1 h2 (n - 1) n hj (by omega) (by omega)
 rw [inkB,key _ (Nat.le_refl _),decide_eq_true h3]; rfl
theorem map_strk (xs:List PStroke):(List.range xs.length).map (strk xs)=xs:=by
 apply List.ext_getElem
 · simp
 · intro i h1 h2
   rw [List.getElem_map,List.getElem_range,strk_get h2]
theorem groupInk_valid {xs:List PStroke} (h:inkB xs=true) (a b:Nat):inkB (groupInk xs a b)=true:=by
 have hsub:(groupInk xs a b).Sublist xs:=by
  have:=(List.filter_sublist (p:=fun k=>decide (k∈((orderZ xs).take b).drop a)) (l:=List.range xs.length)).map (strk xs);rw [map_strk] at this;exact this
 have h16:xs.length≤16:=by simp only [inkB,Bool.and_eq_true,decide_eq_true_eq] at h; exact h.2
 refine inkB_of (groupInk_ok h a b) ?_ (Nat.le_trans hsub.length_le h16);refine List.Pairwise.sublist hsub (List.pairwise_iff_getElem.2 fun i j hi hj hij=>?_);have:=ink_rises h j i hij hj
 rwa [strk_get hi,strk_get hj] at this
end Go.Proofs.YtalmeogjhmblhaaGreat
namespace Go.Proofs.YtalmeogjhmblhaaGreat
open Go Go.Shelf Go.RowKit
set_option maxHeartbeats 8000000
set_option maxRecDepth 100000
def laysSlM5_f135_ren:Go.Shelf.Ren:=⟨fun | 5=>195 | 8=>197 | 7=>235 | 19=>244 | 20=>245 | 10=>283 | 11=>284 | 12=>285 | 13=>286 | 14=>287 | 15=>288 | 16=>289 | 17=>290 | 18=>291 | 30=>326 | 31=>293 | 32=>294 | 33=>327 | 34=>328 | 35=>246 | 40=>343 | n=>n,fun | 23=>265 | 25=>2 | 3=>3 | 32=>293 | 22=>265 | 0=>0 | 44=>335 | 46=>337 | 4=>4 | 36=>329 | 35=>328 | 41=>231 | 5=>5 | 9=>9 | 53=>374 | 57=>378 | 63=>398 | 64=>399 | n=>n,fun | n=>n⟩
theorem laysSlM5_f135:Go.Proofs.SlLaysM.n5 Tryz.prog laysSlM5_f135_ren:={
 mixed:=by kernel_rfl
 f5:=⟨Tryz.f195.name,by decide,Tryz.func195.trans (congrArg some (by kernel_rfl))⟩
 f7:=⟨Tryz.f235.name,by decide,Tryz.func235.trans (congrArg some (by kernel_rfl))⟩
 f8:=Tryz.func197.trans (congrArg some (by kernel_rfl))
 f10:=⟨Tryz.f283.name,by decide,Tryz.func283.trans (congrArg some (by kernel_rfl))⟩
 f11:=⟨Tryz.f284.name,by decide,Tryz.func284.trans (congrArg some (by kernel_rfl))⟩
 f12:=⟨Tryz.f285.name,by decide,Tryz.func285.trans (congrArg some (by kernel_rfl))⟩
 f13:=⟨Tryz.f286.name,by decide,Tryz.func286.trans (congrArg some (by kernel_rfl))⟩
 f14:=⟨Tryz.f287.name,by decide,Tryz.func287.trans (congrArg some (by kernel_rfl))⟩
 f15:=⟨Tryz.f288.name,by decide,Tryz.func288.trans (congrArg some (by kernel_rfl))⟩
 f16:=⟨Tryz.f289.name,by decide,Tryz.func289.trans (congrArg some (by kernel_rfl))⟩
 f17:=⟨Tryz.f290.name,by decide,Tryz.func290.trans (congrArg some (by kernel_rfl))⟩
 f18:=⟨Tryz.f291.name,by decide,Tryz.func291.trans (congrArg some (by kernel_rfl))⟩
 f19:=Tryz.func244.trans (congrArg some (by kernel_rfl))
 f20:=Tryz.func245.trans (congrArg some (by kernel_rfl))
 f30:=⟨Tryz.f326.name,by decide,Tryz.func326.trans (congrArg some (by kernel_rfl))⟩
 f31:=Tryz.func293.trans (congrArg some (by kernel_rfl))
 f32:=Tryz.func294.trans (congrArg some (by kernel_rfl))
 f33:=⟨Tryz.f327.name,by decide,Tryz.func327.trans (congrArg some (by kernel_rfl))⟩
 f34:=⟨Tryz.f328.name,by decide,Tryz.func328.trans (congrArg some (by kernel_rfl))⟩
 f35:=⟨Tryz.f246.name,by decide,Tryz.func246.trans (congrArg some (by kernel_rfl))⟩
 f40:=⟨Tryz.f343.name,by decide,Tryz.func343.trans (congrArg some (by kernel_rfl))⟩
 t0:=Tryz.underlying0
 a0:=Tryz.isAgg0
 z0:=Tryz.sizeOf0
 v0:=Tryz.zeroValue0
 t3:=Tryz.underlying3
 a3:=Tryz.isAgg3
 z3:=Tryz.sizeOf3
 v3:=Tryz.zeroValue3
 t4:=Tryz.underlying4
 a4:=Tryz.isAgg4
 z4:=Tryz.sizeOf4
 v4:=Tryz.zeroValue4
 t5:=Tryz.underlying5
 a5:=Tryz.isAgg5
 z5:=Tryz.sizeOf5
 v5:=Tryz.zeroValue5
 t9:=Tryz.underlying9
 a9:=Tryz.isAgg9
 z9:=Tryz.sizeOf9
 v9:=Tryz.zeroValue9
 t22:=Tryz.underlying265
 a22:=Tryz.isAgg265
 z22:=Tryz.sizeOf265
 v22:=Tryz.zeroValue265
 t23:=Tryz.underlying265
 a23:=Tryz.isAgg265
 z23:=Tryz.sizeOf265
 v23:=Tryz.zeroValue265
 t25:=Tryz.underlying2
 a25:=Tryz.isAgg2
 z25:=Tryz.sizeOf2
 v25:=Tryz.zeroValue2
 t32:=Tryz.underlying293
 a32:=Tryz.isAgg293
 z32:=Tryz.sizeOf293
 v32:=Tryz.zeroValue293
 t35:=Tryz.underlying328
 a35:=Tryz.isAgg328
 z35:=Tryz.sizeOf328
 v35:=Tryz.zeroValue328
 t36:=Tryz.underlying329
 a36:=Tryz.isAgg329
 z36:=Tryz.sizeOf329
 v36:=Tryz.zeroValue329
 t41:=Tryz.underlying231
 a41:=Tryz.isAgg231
 z41:=Tryz.sizeOf231
 v41:=Tryz.zeroValue231
 t44:=Tryz.underlying335
 a44:=Tryz.isAgg335
 z44:=Tryz.sizeOf335
 v44:=Tryz.zeroValue335
 t46:=Tryz.underlying337
 a46:=Tryz.isAgg337
 z46:=Tryz.sizeOf337
 v46:=Tryz.zeroValue337
 t53:=Tryz.underlying374
 a53:=Tryz.isAgg374
 z53:=Tryz.sizeOf374
 v53:=Tryz.zeroValue374
 t57:=Tryz.underlying378
 a57:=Tryz.isAgg378
 z57:=Tryz.sizeOf378
 v57:=Tryz.zeroValue378
 t63:=Tryz.underlying398
 a63:=Tryz.isAgg398
 z63:=Tryz.sizeOf398
 v63:=Tryz.zeroValue398
 t64:=Tryz.underlying399
 a64:=Tryz.isAgg399
 z64:=Tryz.sizeOf399
 v64:=Tryz.zeroValue399 }
open Go.Sort Go.RowKit in
theorem slices_Sort_int (blk off cap:Nat) (zs:List Int) (w:World) (hH:Holds (Value.int .i64) w blk off zs.toArray) (hblk:blk < w.heap.size) (hsz:zs.length < 4611686018427387904) :
 Calls Tryz.prog 195 #[.slice (some ⟨blk,off,none⟩) zs.length cap] w fun e w' =>
  e=.returned (.tuple #[])∧∃ n os,w'=grow (putRow (Value.int .i64) (Sort.ahead w n) blk off (zs.mergeSort fun x y=>decide (x≤y)).toArray) os:=AnyM.slices_Sort_int laysSlM5_f135 blk off cap zs w hH hblk hsz
end Go.Proofs.YtalmeogjhmblhaaGreat
namespace Go.Proofs.YtalmeogjhmblhaaGreat
open Go Go.RowKit Go.Shelf
set_option maxHeartbeats 8000000
set_option maxRecDepth 100000
theorem put_cell {w:World} {g a n:Nat} {e:TypeId} {cs:List Value} {d:Array Int} {os:Array Obj} (h:Row w g e cs) {j:Nat} (hj:j < d.size) (hl:a+d.size≤cs.length) :
 (Sort.grow (Sort.putRow (Value.int .i64) (Sort.ahead w n) g a d) os).cell? ⟨g,a+j,none⟩=some (.int .i64 d[j]):=by
 have h1:(Sort.putRow (Value.int .i64) (Sort.ahead w n) g a d).heap[g]?=some (.cells (Sort.putCells (Value.int .i64) a d cs.toArray) e (0,0)):=by
  show (w.heap.modify g _)[g]?=_
  rw [Array.getElem?_modify,if_pos rfl,show w.heap[g]?=some (.cells cs.toArray e (0,0)) from h];rfl
 have h2:(Sort.grow (Sort.putRow (Value.int .i64) (Sort.ahead w n) g a d) os).heap[g]?=some (.cells (Sort.putCells (Value.int .i64) a d cs.toArray) e (0,0)):=by
  show ((Sort.putRow (Value.int .i64) (Sort.ahead w n) g a d).heap++os)[g]?=_
  rw [Array.getElem?_append_left (Array.getElem?_eq_some_iff.1 h1).1,h1]
 have h3:(Sort.putCells (Value.int .i64) a d cs.toArray)[a+j]?=some (.int .i64 d[j]):=by
  simp only [Sort.putCells,Array.getElem?_mapIdx];rw [Array.getElem?_eq_getElem (by simp; omega)];simp [show a+j < a+d.size by omega,hj]
 simp [World.cell?,h2,h3]
theorem put_only {w:World} {g a n:Nat} {d:Array Int} {os:Array Obj}:Only [g] w (Sort.grow (Sort.putRow (Value.int .i64) (Sort.ahead w n) g a d) os):=by
 refine ⟨rfl,rfl,rfl,?_,fun i hi hne=>?_⟩
 · show w.heap.size≤((Sort.putRow (Value.int .i64) (Sort.ahead w n) g a d).heap++os).size
   simp [Sort.putRow,Sort.mapBlock,Sort.ahead]
 · show ((Sort.putRow (Value.int .i64) (Sort.ahead w n) g a d).heap++os)[i]?=_
   have e:(Sort.putRow (Value.int .i64) (Sort.ahead w n) g a d).heap=w.heap.modify g (Sort.onCells (Sort.putCells (Value.int .i64) a d)):=rfl;rw [e,Array.getElem?_append_left (by simpa using hi),Array.getElem?_modify,if_neg (by simp at hne; omega)]
theorem sort_part {g a cap N:Nat} {e:TypeId} {cs:List Value} {part:List Nat} {w:World} (h:Row w g e cs) (hc:∀ j (hj:j < part.length),cs[a+j]?=some (.int .i64 (part[j]:Nat))) (hl:a+part.length≤cs.length) (hn:part.Nodup) (hlt:∀ k∈part,k < N) (h63:part.length≤1000) :
 Calls Tryz.prog 195 #[.slice (some ⟨g,a,none⟩) part.length cap] w fun en w'=>en=.returned (.tuple #[])∧Only [g] w w'∧((List.range N).filter fun k=>decide (k∈part)).length=part.length∧PartAt w' (some ⟨g,a,none⟩) ((List.range N).filter fun k=>decide (k∈part)):=by
 have hH:Sort.Holds (Value.int .i64) w g a (natI part).toArray:=by
  intro j hj;have hj':j < part.length:=by simpa [natI] using hj
  refine ⟨?_,h.frozen _⟩;rw [h.cell,hc j hj'];simp [natI,hj']
 have C:=slices_Sort_int g a cap (natI part) w hH h.lt (by rw [natI_len]; omega);rw [natI_len] at C;refine C.mono ?_;rintro en w' ⟨rfl,n,os,rfl⟩;obtain ⟨m,hm⟩:∃ m,((natI part).mergeSort fun x y=>decide (x≤y))=m:=⟨_,rfl⟩
 have hp:m.Perm (natI part):=by rw [← hm]; exact List.mergeSort_perm _ _
 have hs:m.Pairwise fun x y=>x≤y:=by
  have:=List.pairwise_mergeSort (le:=fun x y:Int=>decide (x≤y)) (fun x y z h1 h2=>by simp only [decide_eq_true_eq] at *; omega) (fun x y=>by simp only [Bool.or_eq_true,decide_eq_true_eq]; omega) (natI part);rw [hm] at this;exact this.imp fun {x y} h=>by simpa using h
 have hmem:∀ x∈m,∃ k:Nat,k∈part∧x=(k:Int):=fun x hx=>by
  have:=hp.mem_iff.1 hx;rw [natI,List.mem_map] at this;obtain ⟨k,hk,rfl⟩:=this;exact ⟨k,hk,rfl⟩
 have hr:=sorted_range (n:=N) (l:=part) (m:=m.map Int.toNat) (by
  have:=hp.map Int.toNat;have e2:(natI part).map Int.toNat=part:=by simp [natI,Function.comp_def]
  rwa [e2] at this) (by
  rw [List.pairwise_map];exact hs.imp fun {x y} h=>Int.toNat_le_toNat h) hn hlt
 have hml:m.length=part.length:=by rw [hp.length_eq,natI_len]
 refine ⟨rfl,put_only,by rw [← hr,List.length_map,hml],fun j hj=>?_⟩;have hj2:j < m.length:=by rw [← hr,List.length_map] at hj; exact hj
 refine ⟨g,a,rfl,?_,?_⟩
 · exact Nat.lt_of_lt_of_le h.lt put_only.size
 · have:=put_cell (n:=n) (d:=m.toArray) (os:=os) (a:=a) h (j:=j) (by simpa using hj2) (by simp; omega)
   rw [hm,this];obtain ⟨k,hk,hx⟩:=hmem _ (List.getElem_mem hj2)
   have e3:((List.range N).filter fun k=>decide (k∈part))[j]=k:=by
    have:(m.map Int.toNat)[j]'(by simpa using hj2)=((List.range N).filter fun k=>decide (k∈part))[j]:=by simp only [hr]
    rw [← this,List.getElem_map,hx]; simp
   rw [e3,List.getElem_toArray,hx]
structure SlV where
 adr:Option Addr
 len:Nat
 cap:Nat
def SlV.val (s:SlV):Value:=.slice s.adr s.len s.cap
def pSlV:Ty SlV:=.flat 1 (fun s=>[s.val]) (fun _=>True) (fun _=>rfl) (by intro a u h; simp at h; subst h; rfl)
theorem infoSlV:(Tryz.prog.info? 124).map (fun i=>(i.zero,i.size,i.bytes))=some (some (.agg #[.slice none 0 0]),pSlV.size,24):=by kernel_rfl
theorem strokes_of_SlV {pe st:TypeId} {w:World} {ss:List SlV} {xs:List PStroke} {v:Value} {G F1:List Nat} (h:(pSlV.slice st).rep true w ss [v] G) (hr:repL (pStroke pe) false w xs (ss.flatMap fun s=>[s.val]) F1) (hl:ss.length=xs.length):∃ F,(pStrokes pe st).rep false w xs [v] F:=by
 obtain ⟨A,c,ec,F0,F1',hv,rfl,hlc,hc,hrr,hb,ha,-⟩:=h;obtain ⟨rfl,rfl,-⟩:=flat_repL_inv hrr;exact ⟨F0++F1,A,c,_,F0,F1,by rw [hv,hl],rfl,by omega,hc,hr,hb,by rw [← hl]; exact ha,fun h=>absurd h (by decide)⟩
theorem repL_pick {pe:TypeId} {w:World} {xs:List PStroke} {sv:Nat→SlV}:∀ (ks:List Nat),(∀ k∈ks,∃ Fk,(pStroke pe).rep false w (strk xs k) [(sv k).val] Fk)→∃ F,repL (pStroke pe) false w (ks.map (strk xs)) ((ks.map sv).flatMap fun s=>[s.val]) F
 | [],_=>⟨[],rfl,rfl⟩
 | k :: ks,h=>by
   obtain ⟨Fk,hk⟩:=h k (by simp);obtain ⟨F,hr⟩:=repL_pick ks (fun j hj=>h j (by simp [hj]));exact ⟨Fk++F,[(sv k).val],_,Fk,F,rfl,rfl,hk,hr⟩
theorem strokes_slices {o:Bool} {pe st:TypeId} {w:World} {xs:List PStroke} {v:Value} {F:List Nat} (h:(pStrokes pe st).rep o w xs [v] F) :
 ∃ sv:Nat→SlV,∀ k (hk:k < xs.length),(∃ b off c,v=.slice (some ⟨b,off,none⟩) xs.length c∧b < w.heap.size∧w.cell? ⟨b,off+k,none⟩=some (sv k).val)∧∃ Fk,(pStroke pe).rep false w xs[k] [(sv k).val] Fk:=by
 obtain ⟨A,c,rfl,-,-,hr⟩:=pStrokes_open h
 have key:∀ k:Nat,∃ s:SlV,∀ hk:k < xs.length,(∃ b off c',(Value.slice A xs.length c)=.slice (some ⟨b,off,none⟩) xs.length c'∧b < w.heap.size∧w.cell? ⟨b,off+k,none⟩=some s.val)∧∃ Fk,(pStroke pe).rep false w xs[k] [s.val] Fk:=by
  intro k
  by_cases hk:k < xs.length
  · obtain ⟨b,off,u,Fk,hA,hb,-,rs,-,cs⟩:=hr k hk
    obtain ⟨As,ks,rfl,-,-,-⟩:=pPoints_open rs;exact ⟨⟨As,xs[k].length,ks⟩,fun _=>⟨⟨b,off,c,by rw [hA],hb,cs⟩,Fk,Ty.read _ rs⟩⟩
  · exact ⟨⟨none,0,0⟩,fun h=>absurd h hk⟩
 exact ⟨fun k=>Classical.choose (key k),fun k hk=>Classical.choose_spec (key k) hk⟩
theorem impl_inkOfGroup_c {o:Bool} {pe st:TypeId} {xs:List PStroke} {v:Value} {F:List Nat} {a b:Nat} (w:World) (h:(pStrokes pe st).rep o w xs [v] F) (hi:inkB xs=true) (hab:a < b) (hb:b≤xs.length) :
 Calls Tryz.prog 143 #[.agg #[v],.agg #[.int .i64 (a:Nat),.int .i64 (b:Nat)]] w fun e w'=>∃ u F,e=.returned (.agg #[u])∧(pStrokes 128 124).rep true w' (groupInk xs a b) [u] F∧Fresh w.heap.size F∧Below w.heap.size w w':=by
 have h16:xs.length≤16:=by simp only [inkB,Bool.and_eq_true,decide_eq_true_eq] at hi; exact hi.2
 have hst:∀ s∈xs,strokeB s=true:=fun s hs=>by
  obtain ⟨k,hk,rfl⟩:=List.getElem_of_mem hs;exact inkB_stroke hi hk
 have hol:=orderZ_len xs;obtain ⟨A,c,rfl,-,-,-⟩:=pStrokes_open h;have CO:=Lib.hid (fun (wr:World) (b:Below w.heap.size w wr)=>impl_orderOf_c wr (h.below b) hst h16);have H:=Lib.hid h;have R0:=((Row.new w 59 #[.slice A xs.length c]).alloc (.cells #[.int .i64 (a:Nat),.int .i64 (b:Nat)] 198)).alloc (.cells #[.slice none 0 0] 59);have R1:=(Row.new (w.alloc (.cells #[.slice A xs.length c] 59)) 198 #[.int .i64 (a:Nat),.int .i64 (b:Nat)]).alloc (.cells #[.slice none 0 0] 59);have R2:=Row.new ((w.alloc (.cells #[.slice A xs.length c] 59)).alloc (.cells #[.int .i64 (a:Nat),.int .i64 (b:Nat)] 198)) 59 #[.slice none 0 0];have b0:Below w.heap.size w (((w.alloc (.cells #[.slice A xs.length c] 59)).alloc (.cells #[.int .i64 (a:Nat),.int .i64 (b:Nat)] 198)).alloc (.cells #[.slice none 0 0] 59)):=(((Below.refl _ _).alloc (Nat.le_refl _) _).alloc (by simp) _).alloc (by simp; omega) _;rw [World.size_alloc] at R1;rw [World.size_alloc,World.size_alloc] at R2;clear h
 go_enter Tryz.func143,Tryz.ntmps143
 go_upto_region 1 with fail
 generalize ((w.alloc (.cells #[.slice A xs.length c] 59)).alloc (.cells #[.int .i64 (a:Nat),.int .i64 (b:Nat)] 198)).alloc (.cells #[.slice none 0 0] 59)=w0 at R0 R1 R2 b0 ⊢;have HR0:=Lib.hid R0.drew;have HR2:=Lib.hid R2.drew;have B0:=Lib.hid b0.drew;have HSX:=Lib.hid (fun (w':World) (b':Below w0.drew.heap.size w0.drew w')=>show (fun w':World=>w'.cell? ⟨w.heap.size,0,none⟩=some (.slice A xs.length c)∧w'.cell? ⟨w.heap.size+1,0,none⟩=some (.int .i64 (a:Nat))∧w'.cell? ⟨w.heap.size+1,1,none⟩=some (.int .i64 (b:Nat))) w' from ⟨(R0.drew.later b').c0,(R1.drew.later b').c0,(R1.drew.later b').c1⟩);have hS:=HSX.out _ (Below.refl _ _);refine wp_region_held_drew (S:=(fun w':World=>w'.cell? ⟨w.heap.size,0,none⟩=some (.slice A xs.length c)∧w'.cell? ⟨w.heap.size+1,0,none⟩=some (.int .i64 (a:Nat))∧w'.cell? ⟨w.heap.size+1,1,none⟩=some (.int .i64 (b:Nat)))) (by kernel_rfl) hS (fun _=>?_);clear R0 R1 R2 b0;generalize w0.drew=we at HR0 HR2 B0 HSX hS ⊢;have hlw:w.heap.size+1+1 < we.heap.size:=HR2.out.lt;refine tJ 0 hS ?_;refine tJ 2 hS ?_;refine tJ 3 hS ?_;refine tJ 4 hS ?_;refine tJ 5 hS ?_;refine rJ 1 fun K hK=>?_
 refine step_call 194 #[.tmp 9] _ rfl rfl #[.agg #[.slice A xs.length c]] Tryz.call194 (by go_simp) (CO.out we B0.out) ?_;rintro e w1 ⟨vo,Fo,rfl,ro,fo,b1⟩;refine ⟨_,rfl,?_⟩;replace hS:=HSX.out w1 b1;have B1:=Lib.hid (B0.out.trans (b1.mono B0.out.size));replace HR0:=Lib.hid (HR0.out.later b1);replace HR2:=Lib.hid (HR2.out.later b1);refine bJ hK hS ?_;clear hK K;simp only [Act.put,pA,pB,pC];obtain ⟨gO,cO,cs,rest,G,hvo,hlc,hcm,hrow,hrep,hlen,hFo⟩:=row_of_slice ro (by rw [natI_len,hol]; omega);obtain ⟨rfl,-,-⟩:=flat_repL_inv hrep;rw [natI_len,hol] at hvo hlc;subst hvo;have hgO:=fo.2 gO (by rw [hFo]; simp);have hif:(if cO=a then (some ⟨gO,0,none⟩:Option Addr) else some ⟨gO,a,none⟩)=some ⟨gO,a,none⟩:=if_neg (by omega);have hsl:(((orderZ xs).take b).drop a).length=b - a:=by rw [List.length_drop,List.length_take,hol]; omega
 have CSO:=Lib.hid (sort_part (cap:=cO - a) (N:=xs.length) (part:=((orderZ xs).take b).drop a) (a:=a) hrow (fun j hj=>by
  rw [hsl] at hj
  have e5:(natI (orderZ xs)).flatMap (fun n=>[Value.int .i64 n])=(natI (orderZ xs)).map (fun n=>Value.int .i64 n):=by
   generalize natI (orderZ xs)=m
   induction m with
   | nil=>rfl
   | cons x m ih=>rw [List.flatMap_cons,List.map_cons,ih]; rfl
  rw [e5,List.getElem?_append_left (by rw [List.length_map,natI_len,hol]; omega),List.getElem?_map,natI,List.getElem?_map,List.getElem?_eq_getElem (by rw [hol]; omega)];simp) (by rw [List.length_append,flat_len (k:=1) (fun _=>rfl),natI_len,hol,hsl]; omega) (((orderZ_nodup xs).sublist (List.take_sublist b _)).sublist (List.drop_sublist a _)) (fun k hk=>orderZ_lt (List.mem_of_mem_take (List.mem_of_mem_drop hk))) (by rw [hsl]; omega))
 rw [hsl] at CSO;have ga0:(0:Int)≤(a:Int):=by omega
 have gab:(a:Int)≤(b:Int):=by omega
 have gb1:(b:Int)≤(cO:Int):=by omega
 have gb2:b≤cO:=by omega
 have gb3:a≤b:=by omega
 clear ro fo hrow hrep hlen b1 hsl;refine tJ 6 hS ?_;refine tJ 7 hS ?_;refine wpAnyH_done (by kernel_rfl) ?_ _;clear hS HSX
 go_wp2_with fail
 refine CSO.out.mono ?_;rintro e w2 ⟨rfl,o2,hl2,hpart⟩;have hne0:w.heap.size∉[gO]:=by simp only [List.mem_singleton]; omega
 have hne2:w.heap.size+1+1∉[gO]:=by simp only [List.mem_singleton]; omega
 have B2:=Lib.hid (B1.out.trans (o2.below B1.out.size (by intro x hx; simp only [List.mem_singleton] at hx; omega)));replace HR0:=Lib.hid (HR0.out.onl o2 hne0);replace HR2:=Lib.hid (HR2.out.onl o2 hne2);have HGI:=Lib.hid (show groupInk xs a b=((List.range xs.length).filter fun k=>decide (k∈((orderZ xs).take b).drop a)).map (strk xs) from rfl);have HMS:=Lib.hid (show ∀ k∈(List.range xs.length).filter (fun k=>decide (k∈((orderZ xs).take b).drop a)),k < xs.length from fun k hk=>List.mem_range.1 (List.mem_filter.1 hk).1);have HV:=Lib.hid (groupInk_valid hi a b);have hgl:=groupInk_len (xs:=xs) (a:=a) hb;generalize ((List.range xs.length).filter fun k=>decide (k∈((orderZ xs).take b).drop a))=ms at hl2 hpart HGI HMS;obtain ⟨sv,hsv⟩:=strokes_slices H.out;have HSV:=Lib.hid hsv;have HP:=Lib.hid hpart;have RI:=Row.new w2 59 #[.slice none 0 0];have bI:Below w2.heap.size w2 (w2.alloc (.cells #[.slice none 0 0] 59)):=(Below.refl _ _).alloc (Nat.le_refl _) _;have hwz:=B2.out.size;clear hsv hpart o2 hne0 hne2 CSO CO hif B1 B0 hst
 go_upto_region 4 with fail
 generalize w2.alloc (.cells #[.slice none 0 0] 59)=w3 at RI bI ⊢;have HRI:=Lib.hid RI;have HBI:=Lib.hid bI;clear RI bI
 go_wp2_with fail
 go_loopw [20] (fun i wr=>∃ (k:Nat) (u:Value) (G:List Nat),i=.int .i64 k∧k≤b - a∧Hid (Row wr w2.heap.size 59 [u]∧(pSlV.slice 124).rep true wr ((ms.take k).map sv) [u] G∧Fresh (w2.heap.size+1) G∧Below w2.heap.size w2 wr)) (fun i _=>(b - a) - (intOf i).toNat)
 case atStart=>exact ⟨0,_,[],rfl,by omega,Lib.hid ⟨HRI.out,slice_nil _ _ _ _,⟨by simp,by simp⟩,HBI.out⟩⟩
 case round =>
  obtain ⟨k,u,G,rfl,hk,all⟩:=hrel;have ALL:=Lib.hid all.out;clear all;obtain ⟨U,un,uc,rfl⟩:=slice_form ALL.out.2.1
  by_cases hlt:k < b - a
  · have gk:(k:Int) < ((b - a:Nat):Int):=by omega
    have gk0:(0:Int)≤(k:Int):=by omega
    have kw:=IntWalk.i64_in ((k:Int)+1) (by omega);have hkm:k < ms.length:=by omega
    obtain ⟨gO',a',he,hgO2,hce⟩:=HP.out.below ALL.out.2.2.2 k hkm;injection he with he; injection he with he1 he2 _; subst he1; subst he2
    have hkx:=HMS.out _ (List.getElem_mem hkm);have HN:=Lib.hid (show (ms.take (k+1)).map sv=(ms.take k).map sv++[sv ms[k]] by rw [List.take_succ_eq_append_getElem hkm,List.map_append]; rfl);have LN:=Lib.hid (show ((ms.take k).map sv).length≤k by rw [List.length_map,List.length_take]; omega);obtain ⟨kk,hkk⟩:∃ x,ms[k]=x:=⟨_,rfl⟩
    rw [hkk] at hce hkx;simp only [hkk] at HN;clear hkk;obtain ⟨⟨bx,ox,c',hv,hbx,hcx⟩,-⟩:=HSV.out kk hkx;cases hv;obtain ⟨⟨SA,sn,sc⟩,hs⟩:∃ s,sv kk=s:=⟨_,rfl⟩
    rw [hs] at hcx HN;clear hs;have HSX:=Lib.hid (fun (w':World) (b':Below w2.heap.size w2 w')=>show (fun w':World=>w'.cell? ⟨w.heap.size,0,none⟩=some (.slice (some ⟨bx,ox,none⟩) xs.length c)∧w'.cell? ⟨bx,ox+kk,none⟩=some (.slice SA sn sc)) w' from ⟨(HR0.out.later b').c0,((B2.out.trans (b'.mono hwz)).cell (p:=⟨bx,_,none⟩) hbx).trans hcx⟩);have gx0:(0:Int)≤(kk:Int):=by omega
    have gx1:(kk:Int) < (xs.length:Int):=by omega
    have hS:=HSX.out wr.drew ALL.out.2.2.2.drew;clear hcx
    go_upto_region 7 with fail
    refine wp_region_held_drew (S:=(fun w':World=>w'.cell? ⟨w.heap.size,0,none⟩=some (.slice (some ⟨bx,ox,none⟩) xs.length c)∧w'.cell? ⟨bx,ox+kk,none⟩=some (.slice SA sn sc))) (by kernel_rfl) hS (fun _=>?_);have BW:=Lib.hid ALL.out.2.2.2.drew;have RW:=Lib.hid ALL.out.1.drew;have RP:=Lib.hid ALL.out.2.1.drew;have FR:=Lib.hid ALL.out.2.2.1;clear ALL hce hgO2;generalize wr.drew=we2 at BW RW RP hS ⊢;refine tJ 0 hS ?_;refine tJ 2 hS ?_;refine tJ 3 hS ?_;refine tJ 4 hS ?_;refine tJ 5 hS ?_;refine tJ 6 hS ?_;refine rJ2 1 7 (fun K hK=>?ga) (fun K hK=>?gb)
    case' ga =>
     have y0:=RW.out.c0
     go_simp
     refine bJ hK hS ?_;clear hK K y0;refine rJ 7 fun K hK=>?_
    all_goals (
     go_simp
     have hal:Below we2.heap.size we2 (we2.alloc (.cells #[.slice SA sn sc] 124)):=(Below.refl _ _).alloc (Nat.le_refl _) _;have hat:CellsAt (we2.alloc (.cells #[.slice SA sn sc] 124)) (some ⟨we2.heap.size,0,none⟩) [.slice SA sn sc]:=cellsAt_new _ _ _;have RW5:=Lib.hid (RW.out.later hal);have BW5:=Lib.hid (BW.out.trans (hal.mono BW.out.size));have RP5:=Lib.hid (RP.out.below hal);replace hS:=HSX.out _ BW5.out;refine bJ hK hS ?_;generalize we2.alloc (.cells #[.slice SA sn sc] 124)=w5 at hat RW5 BW5 RP5 hS ⊢;clear hK K hal
     )
    case' gb =>
     have y0:=RW5.out.c0;refine rJ 1 fun K hK=>?_
     go_simp
     refine bJ hK hS ?_;clear hK K y0
    all_goals (
     refine rJ 8 fun K hK=>?_
     refine step_append_repX (T:=pSlV) (e:=124) (ys:=[⟨SA,sn,sc⟩]) (ec:=[.slice SA sn sc]) rfl (.tmp 25) (.tmp 31) rfl Tryz.underlying57 infoSlV rfl (by decide) rfl RP5.out rfl (flat_repL _ (fun _ _=>trivial)) hat (by rw [List.append_nil]; exact FR.out.1) (by have:=LN.out; simp only [List.length_singleton,maxLen]; omega) (by have:=LN.out; simp only [List.length_singleton]; omega) ?_;intro v6 w6 F6 r6 o6 f6 x6;have hbn:w2.heap.size∉G:=fun hin=>by have:=FR.out.2 _ hin; omega
     have RI6:Row w6 w2.heap.size 59 [.slice U un uc]:=(o6.block _ RW5.out.lt hbn).trans RW5.out;have BW6:=Lib.hid (BW5.out.trans (o6.below (B:=w2.heap.size) BW5.out.size (fun b hb=>by have:=FR.out.2 _ hb; omega)));have f6':=f6 (w2.heap.size+1) (by rw [List.append_nil]; exact FR.out) (Nat.succ_le_of_lt RW5.out.lt);obtain ⟨V6,n6,c6,rfl⟩:=slice_form r6;replace hS:=HSX.out w6 BW6.out;refine bJ hK hS ?_;have BW7:=Lib.hid (BW6.out.setCell (p:=⟨w2.heap.size,0,none⟩) (Nat.le_refl _) (.slice V6 n6 c6));have RW7:=Lib.hid (RI6.set 0 (.slice V6 n6 c6));have RP7:=Lib.hid (Ty.rep.setCell (T:=pSlV.slice 124) r6 (p:=⟨w2.heap.size,0,none⟩) (fun hin=>by have:=f6'.2 _ hin; dsimp only at this; omega) (.slice V6 n6 c6));have HF6:=Lib.hid f6';have v0:=RI6.c0;have vF:=RI6.frozen;clear hK K r6 o6 f6 x6 hat BW5 RW5 RP5 RI6 f6' hbn BW6;refine tJ 9 hS ?_;refine rJ 10 fun K hK=>?_
     go_simp
     replace hS:=HSX.out _ BW7.out;refine bJ hK hS ?_;clear hK K hS v0 vF;refine wpAnyH_done (by kernel_rfl) ?_ _
     go_wp2_with fail
     exact ⟨⟨k+1,_,F6,by go_num,by omega,Lib.hid ⟨RW7.out,by rw [HN.out]; exact RP7.out,HF6.out,BW7.out⟩⟩,by simp [intOf]; omega⟩
     )
  · obtain rfl:k=b - a:=by omega
    have gk:¬ (((b - a:Nat):Int) < ((b - a:Nat):Int)):=by omega
    have e1:ms.take (b - a)=ms:=List.take_of_length_le (by omega);have RPA:=ALL.out.2.1;rw [e1] at RPA;have HBW:=Lib.hid (B2.out.trans (ALL.out.2.2.2.mono hwz))
    obtain ⟨F1,hr1⟩:=repL_pick (pe:=pe) (w:=wr) (xs:=xs) (sv:=sv) ms (fun k hk=>by
     obtain ⟨-,Fk,hf⟩:=HSV.out k (HMS.out k hk);exact ⟨Fk,by rw [strk_get (HMS.out k hk)]; exact hf.below HBW.out⟩)
    obtain ⟨F2,hr2⟩:=strokes_of_SlV RPA hr1 (by simp);rw [← HGI.out] at hr2;have CC:=Lib.hid (impl_copyInk_c wr hr2 (by omega) (fun l hl=>by have:=strokeB_len (groupInk_ok hi a b l hl); omega));have y0:=ALL.out.1.c0;have HR2b:=Lib.hid (HR2.out.later ALL.out.2.2.2);have hrz:w.heap.size+1+1 < wr.heap.size:=HR2b.out.lt;clear e1 RPA hr1 hr2
    go_wp2_with fail
    refine CC.out.mono ?_;rintro e w4 ⟨u4,F4,rfl,r4,f4,b4⟩;have R1:=HR2b.out.later b4;obtain ⟨U4,n4,c4,rfl⟩:=slice_form r4;have v0:=R1.c0;have vF:=R1.frozen;have e0:=(R1.set 0 (.slice U4 n4 c4)).c0;have hne:w.heap.size+1+1∉F4:=fun hin=>by have:=f4.2 _ hin; omega
    have RES:=Lib.hid (Ty.rep.setCell (T:=pStrokes 128 124) r4 (p:=⟨w.heap.size+1+1,0,none⟩) hne (.slice U4 n4 c4));have BF:=Lib.hid ((HBW.out.trans (b4.mono HBW.out.size)).setCell (p:=⟨w.heap.size+1+1,0,none⟩) (by show w.heap.size≤w.heap.size+1+1; omega) (.slice U4 n4 c4));have FRR:=Lib.hid (f4.mono (show w.heap.size≤wr.heap.size by omega));clear R1 hne r4 f4 b4 y0 CC
    go_wp2_with fail
    refine bodyPost_ret (v:=.agg #[.slice U4 n4 c4]) (by simp only [results,Tryz.results143]; go_simp) rfl ?_;exact ⟨_,F4,rfl,RES.out,FRR.out,BF.out⟩
theorem keep_one (most:Nat) (out:List HypZ) (h:HypZ) (b:Bool) (hb:b=out.any fun x=>decide (x.label=h.label)) (hm:out.length < most):keepM HypZ.label most out h=if b=true then out else out++[h]:=by
 subst hb;unfold keepM
 by_cases e:(out.any fun x=>decide (x.label=h.label))=true
 · rw [if_neg (fun g=>g.2 e),if_pos e]
 · rw [if_pos ⟨hm,e⟩,if_neg e]
theorem keep_full {most:Nat} {out:List HypZ} {h:HypZ} (hm:¬ out.length < most):keepM HypZ.label most out h=out:=by
 unfold keepM; rw [if_neg (fun g=>hm g.1)]
theorem impl_hypsOf_c {o:Bool} {e:TypeId} {xs:List HypZ} {v:Value} {F:List Nat} {most:Int} (w:World) (r:(pHyp.slice e).rep o w xs [v] F) (hx:xs.length≤1000) (hm:0≤most∧most≤1000) :
 Calls Tryz.prog 193 #[v,.int .i64 most] w (GivesO (pHyp.slice 204) ((xs.foldl (insK hypLt HypZ.label) []).take most.toNat) w):=by
 have C1:=Lib.hid (Clone_Hyp w r (by omega) (fun h=>by obtain ⟨rfl,rfl,h3⟩:=flat_repL_inv h; exact flat_repL _ h3));obtain ⟨A,n,c,rfl⟩:=slice_form r;have HX:=Lib.hid hx;obtain ⟨mn,hmn⟩:∃ m:Nat,most=(m:Int):=⟨most.toNat,by omega⟩
 subst hmn;rw [Int.toNat_natCast];clear r
 go_enter Tryz.func193,Tryz.ntmps193
 go_wp2_with fail
 refine C1.out.mono ?_;rintro e w1 ⟨u1,F1,rfl,r1,f1,b1⟩;have R1:=Lib.hid r1;have FR1:=Lib.hid f1;have B1:=Lib.hid b1;obtain ⟨V1,n1,c1,rfl⟩:=slice_form r1;clear r1 f1 b1 C1
 go_wp2_with fail
 refine (sort_Hyp w1 R1.out (by have:=HX.out; omega)).mono ?_;rintro e w2 ⟨rfl,ys,hperm,hsort,r2,o2⟩;have HSAME:=Lib.hid (hyps_same (key:=HypZ.label) hypLt_sto hperm hsort mn);have hlen:=hperm.length_eq;have B2:=Lib.hid (B1.out.trans (o2.below (B:=w.heap.size) B1.out.size FR1.out.2));have R2:=Lib.hid r2;have hyl:ys.length≤1000:=by rw [hlen]; exact hx
 obtain ⟨A2,c2,hv,-,-,-⟩:=pHyps_open r2;simp only [Value.slice.injEq] at hv;obtain ⟨hv1,hv2,hv3⟩:=hv;subst hv1;subst hv2;subst hv3;clear r2 o2 R1 FR1 hperm hsort hlen B1 hx
 go_wp2_with fail
 go_loopw [6,15] (fun l i wr=>∃ (k:Nat) (v:Value) (G:List Nat),l=v∧i=.int .i64 k∧k≤ys.length∧Hid ((pHyp.slice 204).rep true wr ((ys.take k).foldl (keepM HypZ.label mn) []) [v] G∧Fresh w2.heap.size G∧Below w2.heap.size w2 wr)) (fun _ i _=>ys.length - (intOf i).toNat)
 case atStart=>exact ⟨0,_,[],rfl,rfl,by omega,Lib.hid ⟨slice_nil pHyp _ _ _,⟨by simp,by simp⟩,Below.refl _ _⟩⟩
 case round =>
  obtain ⟨k,vk,G,rfl,rfl,hk,all⟩:=hrel;obtain ⟨rep,fr,hb⟩:=all.out
  by_cases hlt:k < ys.length
  · obtain ⟨A',c',he,-,-,hr⟩:=pHyps_open (R2.out.below hb)
    cases he;obtain ⟨gb,ob,rfl,hgb,-,y0,y1,o1,o2⟩:=hr k hlt;have HN:=Lib.hid (show (ys.take (k+1)).foldl (keepM HypZ.label mn) []=keepM HypZ.label mn ((ys.take k).foldl (keepM HypZ.label mn) []) ys[k] by rw [List.take_succ_eq_append_getElem hlt,List.foldl_append]; rfl)
    have LN:=Lib.hid (show ((ys.take k).foldl (keepM HypZ.label mn) []).length≤1000 by
     have:=keepAll_len (most:=mn) (ys.take k) [];rw [List.length_take,List.length_nil] at this; omega)
    generalize ys[k]=y at y0 y1 o1 o2 HN;generalize (ys.take k).foldl (keepM HypZ.label mn) []=us at rep HN LN;obtain ⟨U,uc,rfl,-,-,-⟩:=pHyps_open rep;have gk:(k:Int) < (ys.length:Int):=by omega
    have gk0:(0:Int)≤(k:Int):=by omega
    have kw:=IntWalk.i64_in ((k:Int)+1) (by omega);have OK:=Lib.hid (And.intro o1 o2);have hal:Below wr.heap.size wr (wr.alloc (.cells #[.string y.label,.int .i64 y.cost] 204)):=(Below.refl _ _).alloc (Nat.le_refl _) _;have RH:=Row.new wr 204 #[.string y.label,.int .i64 y.cost];have REP:=Lib.hid (rep.below hal);have HBW:=Lib.hid (hb.trans (hal.mono hb.size));have FR:=Lib.hid fr;have lh:wr.heap.size < (wr.alloc (.cells #[.string y.label,.int .i64 y.cost] 204)).heap.size:=by simp
    clear hr rep fr all hb hal o1 o2
    go_upto_region 7 with fail
    generalize wr.alloc (.cells #[.string y.label,.int .i64 y.cost] 204)=wq at RH REP HBW lh ⊢;clear y0 y1;have x0:=RH.c0;have x1:=RH.c1;have HRH:=Lib.hid RH;clear RH
    by_cases hm1:us.length < mn
    · have e1:decide ((us.length:Int) < (mn:Int))=true:=decide_eq_true (by omega)
      have e2:decide (us.length < mn)=true:=decide_eq_true hm1;have CC:=Lib.hid (ContainsFunc_Hyp 233 (fun x=>decide (x.label=y.label)) wq REP.out (by have:=LN.out; omega) Tryz.call233 (fun s _ w' b'=>hypsOf1_c s w' ((b'.cell (p:=⟨wr.heap.size,0,none⟩) lh).trans HRH.out.c0) (Nat.lt_of_lt_of_le lh b'.size)));obtain ⟨bq,hbq⟩:∃ b,(us.any fun x=>decide (x.label=y.label))=b:=⟨_,rfl⟩
      rw [hbq] at CC;have HK1:=Lib.hid (keep_one mn us y bq hbq.symm hm1);clear hbq hm1
      go_wp2_with fail
      refine CC.out.mono ?_;rintro e w3 ⟨rfl,b3⟩;replace REP:=Lib.hid (REP.out.below b3);have RH3:=HRH.out.later b3;replace HBW:=Lib.hid (HBW.out.trans (b3.mono HBW.out.size));replace x0:=RH3.c0;replace x1:=RH3.c1;clear b3 RH3 CC HRH;cases bq
      · go_wp2_with (at_builtin; refine wpList_append_repX (T:=pHyp) (e:=204) (ys:=[y]) (ec:=[.string y.label,.int .i64 y.cost]) rfl (.tmp 29) (.tmp 31) rfl Tryz.underlying200 infoHyp rfl (by decide) rfl (REP.out.alloc _) rfl (flat_repL _ (by intro z hz; simp only [List.mem_singleton] at hz; subst hz; exact OK.out)) (cellsAt_new _ _ _) trivial (by rw [List.append_nil]; exact FR.out.1) (by have:=LN.out; simp only [List.length_singleton,maxLen]; omega) (by have:=LN.out; simp only [List.length_singleton]; omega) ?_; intro v6 w6 F6 r6 o6 f6 x6)
        have hz:=HBW.out.size;have HB6:=(HBW.out.alloc hz (.cells #[.string y.label,.int .i64 y.cost] 204)).trans (o6.below (B:=w2.heap.size) (by simp only [World.size_alloc]; omega) FR.out.2);have f6':=f6 w2.heap.size (by rw [List.append_nil]; exact FR.out) (by simp only [World.size_alloc]; omega);exact ⟨⟨k+1,_,F6,rfl,by go_num,by omega,Lib.hid ⟨by rw [HN.out,HK1.out]; exact r6,f6',HB6⟩⟩,by simp [intOf]; omega⟩
      · go_wp2_with fail
        exact ⟨⟨k+1,_,G,rfl,by go_num,by omega,Lib.hid ⟨by rw [HN.out,HK1.out]; exact REP.out,FR.out,HBW.out⟩⟩,by simp [intOf]; omega⟩
    · have e1:decide ((us.length:Int) < (mn:Int))=false:=decide_eq_false (by omega)
      have e2:decide (us.length < mn)=false:=decide_eq_false hm1;have HK1:=Lib.hid (keep_full (h:=y) hm1);clear hm1
      go_wp2_with fail
      exact ⟨⟨k+1,_,G,rfl,by go_num,by omega,Lib.hid ⟨by rw [HN.out,HK1.out]; exact REP.out,FR.out,HBW.out⟩⟩,by simp [intOf]; omega⟩
  · obtain rfl:k=ys.length:=by omega
    have gk:¬ (ys.length:Int) < (ys.length:Int):=by omega
    rw [List.take_length] at rep;have REP:=Lib.hid rep;have FR:=Lib.hid fr;have HBW:=Lib.hid hb;obtain ⟨U,un,uc,rfl⟩:=slice_form rep;clear rep fr all hb
    go_wp2_with fail
    go_ret;exact ⟨_,G,rfl,by rw [← HSAME.out]; exact REP.out,FR.out.mono B2.out.size,B2.out.trans (HBW.out.mono B2.out.size)⟩
end Go.Proofs.YtalmeogjhmblhaaGreat

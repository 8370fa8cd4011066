/- Lattices as plain data: the least cost of a way with a text, letter by letter and node by node. No program is named here. Conditions: none. -/
import Derived.Test.YtafgknkcjohjeaaGreatDoorRcFune
import Derived.Test.YtafgknkcjohjeaaGreatDoorSlOpse
import Derived.Test.YtafgknkcjohjeaaGreatDoorInkGe
namespace Go.Proofs.YtafgknkcjohjeaaGreatDoor
open Go Go.RowKit
theorem minO_none (x:Option Int):minO x none=x:=by cases x <;> rfl
theorem none_minO (x:Option Int):minO none x=x:=rfl
theorem minO_comm (x y:Option Int):minO x y=minO y x:=by
 cases x <;> cases y <;> simp [minO,Int.min_comm]
theorem minO_assoc (x y z:Option Int):minO (minO x y) z=minO x (minO y z):=by
 cases x <;> cases y <;> cases z <;> simp [minO,Int.min_assoc]
def minsO (l:List (Option Int)):Option Int:=l.foldl minO none
theorem foldl_minO (x:Option Int):∀ l:List (Option Int),l.foldl minO x=minO x (minsO l)
 | []=>(minO_none x).symm
 | y :: l=>by rw [minsO,List.foldl_cons,List.foldl_cons,none_minO,foldl_minO (minO x y),foldl_minO y,minO_assoc]
theorem minsO_append (l r:List (Option Int)):minsO (l++r)=minO (minsO l) (minsO r):=by
 rw [minsO,List.foldl_append,foldl_minO]; rfl
theorem minsO_cons (x:Option Int) (l:List (Option Int)):minsO (x :: l)=minO x (minsO l):=by
 rw [minsO,List.foldl_cons,none_minO,foldl_minO]
theorem minsO_perm {l r:List (Option Int)} (h:l.Perm r):minsO l=minsO r:=by
 induction h with
 | nil=>rfl
 | cons a p ih=>rw [minsO_cons,minsO_cons,ih]
 | swap a b l=>rw [minsO_cons,minsO_cons,minsO_cons,minsO_cons,← minO_assoc,← minO_assoc,minO_comm b a]
 | trans _ _ h1 h2=>rw [h1,h2]
structure LEdge where
 src:Nat
 dst:Nat
 lab:ByteArray
 cost:Int
 deriving DecidableEq
section
variable (es:List LEdge) (tx:Nat→ByteArray)
def inE (l:List LEdge) (v:Nat) (t:ByteArray):List LEdge:=l.filter fun e=>decide (e.dst=v) && decide (e.lab=t)
def lcE:Nat→Nat→Option Int
 | 0,v=>if v=0 then some 0 else none
 | k+1,v=>minsO ((inE es v (tx k)).map fun e=>(lcE k e.src).map (·+e.cost))
theorem lcE_small {K:Int} (hc:∀ e∈es,0≤e.cost∧e.cost≤K):∀ k v x,lcE es tx k v=some x→0≤x∧x≤(k:Int) * K
 | 0,v,x,h=>by
   rw [lcE] at h
   split at h
   · injection h with h; subst h; simp
   · cases h
 | k+1,v,x,h=>by
   rw [lcE] at h
   have key:∀ l:List (Option Int),minsO l=some x→some x∈l:=by
    intro l
    induction l with
    | nil=>intro h; cases h
    | cons a l ih =>
      intro h;rw [minsO_cons] at h;rcases minO_cases h with h | h
      · rw [h]; simp
      · exact List.mem_cons_of_mem _ (ih h)
   obtain ⟨e,he,hx⟩:=List.mem_map.1 (key _ h);obtain ⟨y,hy,rfl⟩:=Option.map_eq_some_iff.1 hx;have ih:=lcE_small hc k e.src y hy;have:=hc e (List.mem_filter.1 he).1;have e2:((k+1:Nat):Int) * K=(k:Int) * K+K:=by push_cast; rw [Int.add_mul,Int.one_mul]
   omega
theorem inE_snoc (l:List LEdge) (e:LEdge) (v:Nat) (t:ByteArray):inE (l++[e]) v t=if e.dst=v∧e.lab=t then inE l v t++[e] else inE l v t:=by
 rw [inE,inE,List.filter_append]
 by_cases h:e.dst=v∧e.lab=t
 · rw [if_pos h]; simp [h.1,h.2]
 · rw [if_neg h]
   have:(decide (e.dst=v) && decide (e.lab=t))=false:=by
    rw [Bool.eq_false_iff]; intro h'; rw [Bool.and_eq_true,decide_eq_true_iff,decide_eq_true_iff] at h'; exact h h'
   simp [this]
def upE (l:List LEdge) (k v:Nat):Option Int:=minsO ((inE l v (tx k)).map fun e=>(lcE es tx k e.src).map (·+e.cost))
theorem upE_snoc (l:List LEdge) (e:LEdge) (k v:Nat):upE es tx (l++[e]) k v=if e.dst=v∧e.lab=tx k then minO (upE es tx l k v) ((lcE es tx k e.src).map (·+e.cost)) else upE es tx l k v:=by
 rw [upE,inE_snoc]
 by_cases h:e.dst=v∧e.lab=tx k
 · rw [if_pos h,if_pos h,List.map_append,minsO_append]
   congr 1
 · rw [if_neg h,if_neg h]; rfl
theorem lcE_up (k v:Nat):lcE es tx (k+1) v=upE es tx es k v:=rfl
def fromE (u:Nat):List LEdge:=(List.range u).flatMap fun n=>es.filter fun e=>decide (e.src=n)
theorem fromE_succ (u:Nat):fromE es (u+1)=fromE es u++es.filter fun e=>decide (e.src=u):=by
 rw [fromE,List.range_succ,List.flatMap_append]; simp [fromE]
theorem filter_perm_split {α:Type} (p q:α→Bool) (hd:∀ x,p x=true→q x=false):∀ l:List α,(l.filter fun x=>p x || q x).Perm (l.filter p++l.filter q)
 | []=>List.Perm.refl _
 | x :: l=>by
   have ih:=filter_perm_split p q hd l;cases hp:p x with
   | true =>
     have hq:=hd x hp;rw [List.filter_cons_of_pos (by simp [hp]),List.filter_cons_of_pos hp,List.filter_cons_of_neg (by simp [hq])];exact ih.cons x
   | false =>
     cases hq:q x with
     | true =>
       rw [List.filter_cons_of_pos (by simp [hq]),List.filter_cons_of_neg (by simp [hp]),List.filter_cons_of_pos hq];exact (ih.cons x).trans List.perm_middle.symm
     | false =>
       rw [List.filter_cons_of_neg (by simp [hp,hq]),List.filter_cons_of_neg (by simp [hp]),List.filter_cons_of_neg (by simp [hq])];exact ih
theorem fromE_perm:∀ u,(fromE es u).Perm (es.filter fun e=>decide (e.src < u))
 | 0=>by simp [fromE]
 | u+1=>by
   rw [fromE_succ]
   have h:=filter_perm_split (fun e:LEdge=>decide (e.src < u)) (fun e=>decide (e.src=u)) (fun e h=>by
    rw [decide_eq_true_iff] at h; rw [decide_eq_false_iff_not]; omega) es
   have e:(fun e:LEdge=>decide (e.src < u) || decide (e.src=u))=fun e=>decide (e.src < u+1):=by
    funext x; rw [Bool.eq_iff_iff]; simp only [Bool.or_eq_true,decide_eq_true_eq]; omega
   rw [e] at h;exact ((fromE_perm u).append_right _).trans h.symm
theorem upE_from (hd:∀ e∈es,e.src < e.dst) {u v:Nat} (hv:v≤u) (k:Nat):upE es tx (fromE es u) k v=lcE es tx (k+1) v:=by
 rw [lcE_up,upE,upE];apply minsO_perm;apply List.Perm.map;have h1:=(fromE_perm es u).filter (fun e=>decide (e.dst=v) && decide (e.lab=tx k));refine h1.trans ?_;rw [List.filter_filter,inE];apply List.Perm.of_eq;apply List.filter_congr;intro e he;have:=hd e he;rw [Bool.eq_iff_iff];simp only [Bool.and_eq_true,decide_eq_true_eq];constructor
 · rintro ⟨h,-⟩; exact h
 · intro h; exact ⟨h,by omega⟩
theorem upE_all {n:Nat} (hn:∀ e∈es,e.src < n) (k v:Nat):upE es tx (fromE es n) k v=lcE es tx (k+1) v:=by
 rw [lcE_up,upE,upE];apply minsO_perm;apply List.Perm.map;have h1:=(fromE_perm es n).filter (fun e=>decide (e.dst=v) && decide (e.lab=tx k));have h2:es.filter (fun e=>decide (e.src < n))=es:=List.filter_eq_self.2 fun e he=>by rw [decide_eq_true_iff]; exact hn e he
 rw [h2] at h1;exact h1
end
section
variable (n:Nat) (home:Nat→Option Nat)
def orderN:List Nat:=(List.range n).flatMap fun k=>if (home k).isSome=true then [] else k :: (List.range n).filter fun d=>decide (home d=some k)
theorem mem_orderN (hh:∀ d h,home d=some h→h < n∧home h=none) {k:Nat}:k∈orderN n home↔k < n:=by
 rw [orderN,List.mem_flatMap];constructor
 · rintro ⟨j,hj,h⟩
   rw [List.mem_range] at hj
   split at h
   · cases h
   · rcases List.mem_cons.1 h with rfl | h
     · exact hj
     · exact List.mem_range.1 (List.mem_filter.1 h).1
 · intro hk
   cases e:home k with
   | none=>exact ⟨k,List.mem_range.2 hk,by rw [e]; simp⟩
   | some h =>
     obtain ⟨h1,h2⟩:=hh k h e;refine ⟨h,List.mem_range.2 h1,?_⟩;rw [h2];simp only [Option.isSome_none,Bool.false_eq_true,if_false];exact List.mem_cons_of_mem _ (List.mem_filter.2 ⟨List.mem_range.2 hk,by simpa using e⟩)
theorem orderN_nodup:(orderN n home).Nodup:=by
 rw [orderN,List.Nodup,List.pairwise_flatMap];refine ⟨fun k _=>?_,List.nodup_range.imp fun {a b} hab x hx y hy he=>?_⟩
 · split
   · exact .nil
   · rename_i h0
     refine List.pairwise_cons.2 ⟨?_,List.nodup_range.filter _⟩;rintro d hd rfl;rw [List.mem_filter,decide_eq_true_iff] at hd;rw [hd.2] at h0; exact h0 rfl
 · subst he
   split at hx
   · cases hx
   · split at hy
     · cases hy
     · rename_i h1 h2
       rcases List.mem_cons.1 hx with hx | hx
       · rcases List.mem_cons.1 hy with hy | hy
         · exact hab (hx.symm.trans hy)
         · rw [List.mem_filter,decide_eq_true_iff] at hy
           rw [← hx,hy.2] at h1; exact h1 rfl
       · rw [List.mem_filter,decide_eq_true_iff] at hx
         rcases List.mem_cons.1 hy with hy | hy
         · rw [← hy,hx.2] at h2; exact h2 rfl
         · rw [List.mem_filter,decide_eq_true_iff] at hy
           rw [hx.2] at hy;exact hab (Option.some.inj hy.2)
theorem orderN_perm (hh:∀ d h,home d=some h→h < n∧home h=none):(orderN n home).Perm (List.range n) :=
 (List.perm_ext_iff_of_nodup (orderN_nodup n home) List.nodup_range).2 fun k=>by rw [mem_orderN n home hh,List.mem_range]
theorem orderN_len (hh:∀ d h,home d=some h→h < n∧home h=none):(orderN n home).length=n:=by
 rw [(orderN_perm n home hh).length_eq,List.length_range]
end
def homeN (dot:Nat→Bool) (common:Nat→Int) (k:Nat):Option Nat × Int :=
 (List.range k).foldl (fun m j=>if dot j=false∧m.2≤common j then (some j,common j) else m) (none,1)
theorem homeN_succ (dot:Nat→Bool) (common:Nat→Int) (k:Nat):homeN dot common (k+1)=if dot k=false∧(homeN dot common k).2≤common k then (some k,common k) else homeN dot common k:=by
 rw [homeN,List.range_succ,List.foldl_append]; rfl
theorem homeN_is (dot:Nat→Bool) (common:Nat→Int):∀ k,1≤(homeN dot common k).2∧(∀ h,(homeN dot common k).1=some h→h < k∧dot h=false)∧((homeN dot common k).1=none→(homeN dot common k).2=1)
 | 0=>by simp [homeN]
 | k+1=>by
   obtain ⟨h1,h2,h3⟩:=homeN_is dot common k;rw [homeN_succ]
   split
   · rename_i h
     refine ⟨Int.le_trans h1 h.2,?_,?_⟩
     · intro j hj; injection hj with hj; subst hj; exact ⟨Nat.lt_succ_self _,h.1⟩
     · intro hj; cases hj
   · exact ⟨h1,fun j hj=>⟨by have:=h2 j hj; omega,(h2 j hj).2⟩,h3⟩
def homeR (dot:Nat→Bool) (common:Nat→Int) (k:Nat):Option Nat × Int :=
 (List.range k).foldl (fun m j=>if dot j=false∧0 < common j∧m.2≤common j then (some j,common j) else m) (none,0)
theorem homeR_succ (dot:Nat→Bool) (common:Nat→Int) (k:Nat):homeR dot common (k+1)=if dot k=false∧0 < common k∧(homeR dot common k).2≤common k then (some k,common k) else homeR dot common k:=by
 rw [homeR,List.range_succ,List.foldl_append]; rfl
theorem homeR_eq (dot:Nat→Bool) (common:Nat→Int):∀ k,(homeR dot common k).1=(homeN dot common k).1∧((homeN dot common k).1=none→(homeR dot common k).2=0)∧((homeN dot common k).1≠none→(homeR dot common k).2=(homeN dot common k).2)
 | 0=>by simp [homeR,homeN]
 | k+1=>by
   obtain ⟨h1,h2,h3⟩:=homeR_eq dot common k;obtain ⟨g1,g2,g3⟩:=homeN_is dot common k;rw [homeR_succ,homeN_succ]
   have e:(dot k=false∧0 < common k∧(homeR dot common k).2≤common k)↔(dot k=false∧(homeN dot common k).2≤common k):=by
    by_cases hn:(homeN dot common k).1=none
    · rw [h2 hn,g3 hn]; exact and_congr_right fun _=>by omega
    · rw [h3 hn]; exact and_congr_right fun _=>by omega
   by_cases hc:dot k=false∧(homeN dot common k).2≤common k
   · rw [if_pos hc,if_pos (e.2 hc)]; simp
   · rw [if_neg hc,if_neg (fun h=>hc (e.1 h))]; exact ⟨h1,h2,h3⟩
def spotN (s:PStroke) (n k:Nat):Int × Int:=spotZ s (k:Int) ((n:Int) - 1)
def featD (s:PStroke) (n:Nat):Nat→Int
 | 0=>if 1 < n∧spotN s n 1≠spotN s n 0 then dirZ ((spotN s n 1).1 - (spotN s n 0).1) ((spotN s n 1).2 - (spotN s n 0).2) else 0
 | k+1=>if k+2 < n∧spotN s n (k+2)≠spotN s n (k+1) then dirZ ((spotN s n (k+2)).1 - (spotN s n (k+1)).1) ((spotN s n (k+2)).2 - (spotN s n (k+1)).2) else featD s n k
theorem featD_small (s:PStroke) (n:Nat):∀ k,0≤featD s n k∧featD s n k≤7
 | 0=>by
   rw [featD]; split
   · exact dirZ_small _ _
   · exact ⟨Int.le_refl _,by decide⟩
 | k+1=>by
   rw [featD]; split
   · exact dirZ_small _ _
   · exact featD_small s n k
def featZ (s:PStroke) (b:BoxZ) (n k:Nat):PFeat:=⟨(normZ (spotN s n k) b).1,(normZ (spotN s n k) b).2,featD s n k⟩
def featsZ (s:PStroke) (b:BoxZ) (n:Nat):List PFeat:=(List.range n).map (featZ s b n)
def featsInk (xs:List PStroke) (n:Nat):List PFeat:=xs.flatMap fun s=>featsZ s (boxAllZ xs) n
theorem featsInk_len (xs:List PStroke) (n:Nat):(featsInk xs n).length=xs.length * n:=by
 have key:∀ (b:BoxZ) (l:List PStroke),(l.flatMap fun s=>featsZ s b n).length=l.length * n:=by
  intro b l
  induction l with
  | nil=>simp
  | cons s l ih=>rw [List.flatMap_cons,List.length_append,ih,featsZ,List.length_map,List.length_range,List.length_cons,Nat.add_mul]; omega
 exact key _ _
theorem featsInk_ok {xs:List PStroke} (hx:∀ s∈xs,strokeB s=true) {n:Nat} (hn:2≤n):∀ f∈featsInk xs n,featB f=true:=by
 intro f hf;obtain ⟨s,hs,hf⟩:=List.mem_flatMap.1 hf;obtain ⟨k,hk,rfl⟩:=List.mem_map.1 hf;have hb:=boxAllZ_in hs;have hpt:∀ j,j < s.length→InZ (ptBox (pt s j)) (boxAllZ xs):=fun j hj=>(boxOfZ_pt hj).trans hb
 have hsp:=spotZ_in (part:=(k:Int)) (parts:=(n:Int) - 1) (hx s hs) (by omega) (by omega) (fun j hj=>⟨(hpt j hj).1,(hpt j hj).2.2.1⟩) (fun j hj=>⟨(hpt j hj).2.1,(hpt j hj).2.2.2⟩);have hn:=normZ_small (p:=spotN s n k) (b:=boxAllZ xs) hsp.1 hsp.2;have hd:=featD_small s n k;simp only [featB,featZ,inR,Bool.and_eq_true];exact ⟨⟨decide_eq_true hn.1.1,decide_eq_true hn.1.2⟩,⟨decide_eq_true hn.2.1,decide_eq_true hn.2.2⟩,decide_eq_true hd.1,decide_eq_true hd.2⟩
def costZ (a b:PFeat):Int:=absZ (a.x - b.x)+absZ (a.y - b.y)+16 * min (absZ (a.d - b.d)) (8 - absZ (a.d - b.d))
theorem costZ_small {a b:PFeat} (ha:featB a=true) (hb:featB b=true):0≤costZ a b∧costZ a b≤574:=by
 simp only [featB,inR,Bool.and_eq_true,decide_eq_true_eq] at ha hb;unfold costZ absZ
 repeat' split
 all_goals omega
def ftAt (l:List PFeat) (k:Nat):PFeat:=l.getD k ⟨0,0,0⟩
theorem ftAt_ok {l:List PFeat} (h:∀ f∈l,featB f=true) (k:Nat):featB (ftAt l k)=true:=by
 rw [ftAt,List.getD_eq_getElem?_getD];rcases Nat.lt_or_ge k l.length with hk | hk
 · rw [List.getElem?_eq_getElem hk]; exact h _ (List.getElem_mem hk)
 · rw [List.getElem?_eq_none hk]; rfl
def elZ (a b:List PFeat) (band:Int):Option Int:=elE (fun i j=>costZ (ftAt a i) (ftAt b j)) band (a.length - 1) (b.length - 1)
theorem minO_some {x y:Option Int} {v:Int} (h:x=some v):∃ u,minO x y=some u:=by
 subst h; cases y with
 | none=>exact ⟨v,rfl⟩
 | some y=>exact ⟨_,rfl⟩
theorem elE_some (cost:Nat→Nat→Int) {band:Int}:∀ i j:Nat,elE.absE ((i:Int) - j)≤band→∃ v,elE cost band i j=some v
 | 0,0,h=>by
   have:elE.absE (((0:Nat):Int) - (0:Nat))=0:=rfl;rw [elE,if_neg (by omega)]; exact ⟨_,rfl⟩
 | 0,j+1,h=>by
   have e:elE.absE (((0:Nat):Int) - ((j+1:Nat):Int))=((j+1:Nat):Int):=by unfold elE.absE; split <;> omega
   have e2:elE.absE (((0:Nat):Int) - (j:Int))=(j:Int):=by unfold elE.absE; split <;> omega
   obtain ⟨v,hv⟩:=elE_some cost (band:=band) 0 j (by omega);rw [elE,if_neg (by omega),hv]; exact ⟨_,rfl⟩
 | i+1,0,h=>by
   have e:elE.absE (((i+1:Nat):Int) - ((0:Nat):Int))=((i+1:Nat):Int):=by unfold elE.absE; split <;> omega
   have e2:elE.absE ((i:Int) - ((0:Nat):Int))=(i:Int):=by unfold elE.absE; split <;> omega
   obtain ⟨v,hv⟩:=elE_some cost (band:=band) i 0 (by omega);rw [elE,if_neg (by omega),hv]; exact ⟨_,rfl⟩
 | i+1,j+1,h=>by
   have e:(((i+1:Nat):Int) - ((j+1:Nat):Int))=(i:Int) - j:=by push_cast; omega
   rw [e] at h;obtain ⟨v,hv⟩:=elE_some cost (band:=band) i j h;obtain ⟨u,hu⟩:=minO_some (y:=elE cost band i (j+1)) hv;obtain ⟨t,ht⟩:=minO_some (y:=elE cost band (i+1) j) hu;rw [elE,if_neg (by omega),ht]; exact ⟨_,rfl⟩
def bandB (band:Int) (n m:Nat):Bool:=decide (absZ ((n:Int) - m)≤band)
theorem elZ_some {a b:List PFeat} {band:Int} (ha:∀ f∈a,featB f=true) (hb:∀ f∈b,featB f=true) (h1:1≤a.length) (h2:1≤b.length) (h3:a.length≤72) (h4:b.length≤72) (h:bandB band a.length b.length=true):∃ v,elZ a b band=some v∧0≤v∧v≤82082:=by
 rw [bandB,decide_eq_true_iff] at h
 obtain ⟨v,hv⟩:=elE_some (fun i j=>costZ (ftAt a i) (ftAt b j)) (band:=band) (a.length - 1) (b.length - 1) (by
  have e:((a.length - 1:Nat):Int) - ((b.length - 1:Nat):Int)=(a.length:Int) - b.length:=by omega
  rw [e]; exact h)
 have hs:=elE_small (K:=574) (fun i j=>costZ_small (ftAt_ok ha i) (ftAt_ok hb j)) _ _ v hv;exact ⟨v,hv,hs.1,by omega⟩
structure HypZ where
 label:ByteArray
 cost:Int
 deriving DecidableEq
def rawHyps (p:PSetup) (fs:List PFeat) (pen:Int):List HypZ:=(p.temps.filter fun t=>bandB p.band fs.length t.feats.length).map fun t=>⟨t.label,(elZ fs t.feats p.band).getD 0+pen⟩
def hypLt (x y:HypZ):Bool:=decide (x.cost < y.cost) || (decide (x.cost=y.cost) && bLess x.label y.label)
def hypsZ (p:PSetup) (xs:List PStroke):List HypZ:=((rawHyps p (featsInk xs p.points.toNat) (p.pen * ((xs.length:Int) - 1))).foldl (insK hypLt HypZ.label) []).take p.most.toNat
def isDotZ (s:PStroke):Bool:=decide ((boxOfZ s).x2 - (boxOfZ s).x1≤160) && decide ((boxOfZ s).y2 - (boxOfZ s).y1≤160)
def commonZ (d b:BoxZ):Int:=min b.x2 (d.x2+40) - max b.x1 (d.x1 - 40)+1
def homeZ (xs:List PStroke) (k:Nat):Option Nat:=if isDotZ (strk xs k)=true then (homeN (fun j=>isDotZ (strk xs j)) (fun j=>commonZ (boxOfZ (strk xs k)) (boxOfZ (strk xs j))) k).1 else none
theorem homeZ_ok (xs:List PStroke) (d h:Nat) (hh:homeZ xs d=some h):h < d∧homeZ xs h=none:=by
 rw [homeZ] at hh
 split at hh
 · obtain ⟨-,h2,-⟩:=homeN_is (fun j=>isDotZ (strk xs j)) (fun j=>commonZ (boxOfZ (strk xs d)) (boxOfZ (strk xs j))) d
   have:=h2 h hh;refine ⟨this.1,?_⟩;rw [homeZ,if_neg (by rw [this.2]; decide)]
 · cases hh
def orderZ (xs:List PStroke):List Nat:=orderN xs.length fun d=>if d < xs.length then homeZ xs d else none
def groupInk (xs:List PStroke) (a b:Nat):List PStroke:=((List.range xs.length).filter fun k=>decide (k∈((orderZ xs).take b).drop a)).map (strk xs)
def groupsZ (n:Nat):List (Nat × Nat):=(List.range n).flatMap fun a=>((List.range (n+1)).filter fun b=>decide (a < b) && decide (b≤a+3)).map fun b=>(a,b)
def groupE (p:PSetup) (xs:List PStroke) (g:Nat × Nat):List LEdge:=if ((g.2 - g.1:Nat):Int) * p.points≤72 then (hypsZ p (groupInk xs g.1 g.2)).map fun h=>⟨g.1,g.2,h.label,h.cost⟩ else []
def edgesZ (p:PSetup) (xs:List PStroke):List LEdge:=(groupsZ xs.length).flatMap (groupE p xs)
structure FoundZ where
 word:ByteArray
 path:Int
 own:Int
 deriving DecidableEq
def letterAt (w:ByteArray) (k:Nat):ByteArray:=w.extract k (k+1)
def foundZ (p:PSetup) (es:List LEdge) (n:Nat):List FoundZ:=p.entries.filterMap fun e=>(lcE es (letterAt e.word) e.word.size n).map fun c=>⟨e.word,c,e.cost⟩
def foundLt (x y:FoundZ):Bool:=decide (x.path+x.own < y.path+y.own) || (decide (x.path+x.own=y.path+y.own) && (decide (x.word.size < y.word.size) || (decide (x.word.size=y.word.size) && (bLess x.word y.word || (decide (x.word=y.word) && decide (x.path < y.path))))))
def sortedF (l:List FoundZ):List FoundZ:=l.foldl (fun l h=>insS foundLt h l) []
def pairZ (p:PSetup) (a b:ByteArray):Int:=((p.bigrams.find? fun g=>decide (g.first=a) && decide (g.second=b)).map (·.cost)).getD p.dflt
def bestF (p:PSetup) (last:ByteArray) (l:List FoundZ):Option (ByteArray × Int) :=
 l.foldl (fun m f=>match m with
  | none=>some (f.word,f.path+f.own+pairZ p last f.word)
  | some (w,c)=>if f.path+f.own+pairZ p last f.word < c then some (f.word,f.path+f.own+pairZ p last f.word) else some (w,c)) none
def readZ (q:PSess):ByteArray × Int × Int :=
 if q.strokes.length=0 then (.empty,0,6)
 else if 200 < (edgesZ q.setup q.strokes).length then (.empty,0,5)
 else match bestF q.setup (q.words.getLast?.getD .empty) (sortedF (foundZ q.setup (edgesZ q.setup q.strokes) q.strokes.length)) with
  | some (w,c)=>(w,c,0)
  | none=>(.empty,0,3)
end Go.Proofs.YtafgknkcjohjeaaGreatDoor

/- Confusions, in plain Lean: counting into an ordered list is sorting and counting neighbours; the order of strings. No program is named here. Conditions: none. -/
import Derived.Test.YtalmeogjhmblhaaGreatStrSw
import Derived.Laws.Strings
import Derived.Test.YtalmeogjhmblhaaGreatTyStepw
import Derived.Test.YtalmeogjhmblhaaGreatRows
namespace Go.Proofs.YtalmeogjhmblhaaGreat
open Go Go.RowKit
set_option maxHeartbeats 8000000
section
variable {K:Type} [DecidableEq K] (lt:K→K→Bool)
structure STO:Prop where
 irr:∀ a,lt a a=false
 tr:∀ a b c,lt a b=true→lt b c=true→lt a c=true
 tot:∀ a b,lt a b=false→lt b a=false→a=b
variable {lt}
omit [DecidableEq K] in
theorem STO.asym (h:STO lt) {a b:K} (h1:lt a b=true):lt b a=false:=by
 cases h2:lt b a with
 | false=>rfl
 | true=>have:=h.tr _ _ _ h1 h2; rw [h.irr] at this; cases this
omit [DecidableEq K] in
theorem STO.ne (h:STO lt) {a b:K} (h1:lt a b=true):a≠b:=fun e=>by rw [e,h.irr] at h1; cases h1
omit [DecidableEq K] in
theorem STO.cases (h:STO lt) (a b:K):(lt a b=true∧lt b a=false∧a≠b∧b≠a)∨a=b∨(lt a b=false∧lt b a=true∧a≠b∧b≠a):=by
 cases h1:lt a b with
 | true=>exact .inl ⟨rfl,h.asym h1,h.ne h1,(h.ne h1).symm⟩
 | false =>
   cases h2:lt b a with
   | true=>exact .inr (.inr ⟨rfl,rfl,(h.ne h2).symm,h.ne h2⟩)
   | false=>exact .inr (.inl (h.tot _ _ h1 h2))
omit [DecidableEq K] in
end
theorem bl_irr:∀ l:List UInt8,Op.bytesLess l l=false
 | []=>rfl
 | a :: l=>by simp [Op.bytesLess,bl_irr l]
theorem bl_tr:∀ x y z:List UInt8,Op.bytesLess x y=true→Op.bytesLess y z=true→Op.bytesLess x z=true
 | _,[],_,h,_=>by cases ‹List UInt8› <;> simp [Op.bytesLess] at h
 | _,_ :: _,[],_,h=>by simp [Op.bytesLess] at h
 | [],_ :: _,_ :: _,_,_=>rfl
 | a :: x,b :: y,c :: z,h1,h2=>by
   simp only [Op.bytesLess,Bool.or_eq_true,Bool.and_eq_true,decide_eq_true_eq,beq_iff_eq] at h1 h2 ⊢;rcases h1 with h1 | ⟨rfl,h1⟩
   · rcases h2 with h2 | ⟨rfl,h2⟩
     · exact .inl (UInt8.lt_trans h1 h2)
     · exact .inl h1
   · rcases h2 with h2 | ⟨rfl,h2⟩
     · exact .inl h2
     · exact .inr ⟨rfl,bl_tr x y z h1 h2⟩
theorem bl_tot:∀ x y:List UInt8,Op.bytesLess x y=false→Op.bytesLess y x=false→x=y
 | [],[],_,_=>rfl
 | [],_ :: _,h,_=>by simp [Op.bytesLess] at h
 | _ :: _,[],_,h=>by simp [Op.bytesLess] at h
 | a :: x,b :: y,h1,h2=>by
   simp only [Op.bytesLess,Bool.or_eq_false_iff,decide_eq_false_iff_not] at h1 h2
   have e:a=b:=by
    have l1:=UInt8.not_lt.1 h1.1;have l2:=UInt8.not_lt.1 h2.1;exact UInt8.le_antisymm l2 l1
   subst e;rw [bl_tot x y (by simpa using h1.2) (by simpa using h2.2)]
def bLess (a b:ByteArray):Bool:=Op.bytesLess a.toList b.toList
theorem toList_inj {a b:ByteArray} (h:a.toList=b.toList):a=b:=by
 have:=str_eq a b;rw [h] at this
 simpa using this.symm
theorem bLess_sto:STO bLess:=⟨fun _=>bl_irr _,fun _ _ _=>bl_tr _ _ _,fun _ _ h1 h2=>toList_inj (bl_tot _ _ h1 h2)⟩
abbrev CKey:=ByteArray × ByteArray
def cLess (x y:CKey):Bool:=bLess x.1 y.1 || (decide (x.1=y.1) && bLess x.2 y.2)
theorem cLess_sto:STO cLess:=by
 refine ⟨fun a=>by simp [cLess,bLess_sto.irr],fun a b c h1 h2=>?_,fun a b h1 h2=>?_⟩
 · simp only [cLess,Bool.or_eq_true,Bool.and_eq_true,decide_eq_true_eq] at h1 h2 ⊢
   rcases h1 with h1 | ⟨e1,h1⟩
   · rcases h2 with h2 | ⟨e2,h2⟩
     · exact .inl (bLess_sto.tr _ _ _ h1 h2)
     · exact .inl (e2 ▸ h1)
   · rcases h2 with h2 | ⟨e2,h2⟩
     · exact .inl (e1 ▸ h2)
     · exact .inr ⟨e1.trans e2,bLess_sto.tr _ _ _ h1 h2⟩
 · simp only [cLess,Bool.or_eq_false_iff,Bool.and_eq_false_iff,decide_eq_false_iff_not] at h1 h2
   have e1:=bLess_sto.tot _ _ h1.1 h2.1;have e2:=bLess_sto.tot _ _ (h1.2.resolve_left (fun h=>h e1)) (h2.2.resolve_left (fun h=>h e1.symm));exact Prod.ext e1 e2
def cmpF (x y:ByteArray):Int:=if bLess x y then -1 else if bLess y x then 1 else 0
theorem cmpF_neg (x y:ByteArray):cmpF x y < 0↔bLess x y=true:=by
 unfold cmpF
 split
 · simp [*]
 · split <;> simp [*]
theorem cmpF_zero (x y:ByteArray):cmpF x y=0↔x=y:=by
 unfold cmpF;rcases bLess_sto.cases x y with h | rfl | h
 · simp [h.1,h.2.2.1]
 · simp [bLess_sto.irr]
 · simp [h.1,h.2.1,h.2.2.1]
def cmpC (x y:CKey):Int:=if cmpF x.1 y.1≠0 then cmpF x.1 y.1 else cmpF x.2 y.2
theorem cmpC_neg (x y:CKey):decide (cmpC x y < 0)=cLess x y:=by
 unfold cmpC cLess;rw [Bool.eq_iff_iff]
 by_cases h:cmpF x.1 y.1=0
 · rw [if_neg (by simpa using h),decide_eq_true_iff,cmpF_neg]
   have e:=(cmpF_zero _ _).1 h;simp [e,bLess_sto.irr]
 · rw [if_pos h,decide_eq_true_iff,cmpF_neg]
   have e:x.1≠y.1:=fun e=>h ((cmpF_zero _ _).2 e)
   simp [e]
theorem cmpC_zero (x y:CKey):cmpC x y=0↔x=y:=by
 unfold cmpC
 by_cases h:cmpF x.1 y.1=0
 · rw [if_neg (by simpa using h),cmpF_zero]
   have e:=(cmpF_zero _ _).1 h;exact ⟨fun e2=>Prod.ext e e2,fun e2=>by rw [e2]⟩
 · rw [if_pos h]
   exact ⟨fun e=>absurd e h,fun e=>absurd ((cmpF_zero _ _).2 (by rw [e])) h⟩
section
variable {α κ:Type} [DecidableEq κ] {lt:α→α→Bool} {key:α→κ}
structure Best (lt:α→α→Bool) (key:α→κ) (seen L:List α):Prop where
 sorted:L.Pairwise (fun x y=>lt x y=true)
 mem:∀ h,h∈L↔h∈seen∧∀ g∈seen,key g=key h→lt g h=false
 rep:∀ g∈seen,∃ x∈L,key x=key g
omit [DecidableEq κ] in
theorem Best.nil:Best lt key [] []:=⟨.nil,fun h=>by simp,fun g hg=>by simp at hg⟩
omit [DecidableEq κ] in
theorem Best.unique (o:STO lt) {s t L M:List α} (h:Best lt key s L) (k:Best lt key t M) (hst:∀ x,x∈s↔x∈t):L=M:=by
 refine sorted_ext (lt:=fun x y=>lt x y=true) (fun a ha=>?_) (fun {a b c} h1 h2=>o.tr a b c h1 h2) h.sorted k.sorted (fun a=>?_)
 · rw [o.irr] at ha; cases ha
 · rw [h.mem,k.mem]
   constructor
   · rintro ⟨h1,h2⟩; exact ⟨(hst a).1 h1,fun g hg=>h2 g ((hst g).2 hg)⟩
   · rintro ⟨h1,h2⟩; exact ⟨(hst a).2 h1,fun g hg=>h2 g ((hst g).1 hg)⟩
theorem lt_or (o:STO lt) {a b:α} (h:lt b a=false) (hne:a≠b):lt a b=true:=by
 rcases o.cases a b with h1 | h1 | h1
 · exact h1.1
 · exact absurd h1 hne
 · rw [h1.2.1] at h; cases h
theorem eq_of (o:STO lt) {a b:α} (h1:lt a b=false) (h2:lt b a=false):a=b:=o.tot a b h1 h2
def keepK (key:α→κ) (out:List α) (h:α):List α:=if out.any (fun x=>decide (key x=key h)) then out else out++[h]
theorem Best.keep (o:STO lt) {p out:List α} {h:α} (b:Best lt key p out) (hs:∀ x∈p,lt h x=false):Best lt key (p++[h]) (keepK key out h):=by
 unfold keepK
 by_cases ha:out.any (fun x=>decide (key x=key h))=true
 · rw [if_pos ha]
   obtain ⟨x,hx,hk⟩:=List.any_eq_true.1 ha;have hk:=of_decide_eq_true hk;have hxp:=(b.mem x).1 hx;refine ⟨b.sorted,fun y=>?_,fun g hg=>?_⟩
   · rw [b.mem]
     constructor
     · rintro ⟨h1,h2⟩
       refine ⟨by simp [h1],fun g hg hgk=>?_⟩;rcases List.mem_append.1 hg with hg | hg
       · exact h2 g hg hgk
       · simp at hg; subst hg; exact hs y h1
     · rintro ⟨h1,h2⟩
       rcases List.mem_append.1 h1 with h1 | h1
       · exact ⟨h1,fun g hg=>h2 g (by simp [hg])⟩
       · simp at h1; subst h1
         have e:x=y:=eq_of o (h2 x (by simp [hxp.1]) hk) (hs x hxp.1);subst e; exact hxp
   · rcases List.mem_append.1 hg with hg | hg
     · exact b.rep g hg
     · simp at hg; subst hg; exact ⟨x,hx,hk⟩
 · rw [if_neg ha]
   have hno:∀ x∈out,key x≠key h:=fun x hx e=>ha (List.any_eq_true.2 ⟨x,hx,decide_eq_true e⟩)
   refine ⟨?_,fun y=>?_,fun g hg=>?_⟩
   · refine List.pairwise_append.2 ⟨b.sorted,List.pairwise_singleton ..,fun x hx z hz=>?_⟩
     simp at hz; subst hz
     exact lt_or o (hs x ((b.mem x).1 hx).1) (fun e=>hno x hx (by rw [e]))
   · rw [List.mem_append,b.mem,List.mem_singleton]
     constructor
     · rintro (⟨h1,h2⟩ | rfl)
       · refine ⟨by simp [h1],fun g hg hgk=>?_⟩
         rcases List.mem_append.1 hg with hg | hg
         · exact h2 g hg hgk
         · simp at hg; subst hg; exact hs y h1
       · refine ⟨by simp,fun g hg hgk=>?_⟩
         rcases List.mem_append.1 hg with hg | hg
         · obtain ⟨x,hx,hk⟩:=b.rep g hg
           exact absurd (hk.trans hgk) (hno x hx)
         · simp at hg; subst hg; exact o.irr g
     · rintro ⟨h1,h2⟩
       rcases List.mem_append.1 h1 with h1 | h1
       · exact .inl ⟨h1,fun g hg=>h2 g (by simp [hg])⟩
       · exact .inr (by simpa using h1)
   · rcases List.mem_append.1 hg with hg | hg
     · obtain ⟨x,hx,hk⟩:=b.rep g hg
       exact ⟨x,by simp [hx],hk⟩
     · simp at hg; subst hg; exact ⟨g,by simp,rfl⟩
theorem best_sorted (o:STO lt):∀ (r p out:List α),Best lt key p out→(p++r).Pairwise (fun x y=>lt y x=false)→Best lt key (p++r) (r.foldl (keepK key) out)
 | [],p,out,b,_=>by rw [List.append_nil]; exact b
 | h :: r,p,out,b,hs=>by
   rw [List.foldl_cons];have e:p++h :: r=(p++[h])++r:=by simp
   rw [e] at hs ⊢;refine best_sorted o r (p++[h]) _ (b.keep o fun x hx=>?_) hs;have h1:=(List.pairwise_append.1 hs).1;exact (List.pairwise_append.1 h1).2.2 x hx h (by simp)
def keepM (key:α→κ) (most:Nat) (out:List α) (h:α):List α:=if out.length < most∧¬ out.any (fun x=>decide (key x=key h))=true then out++[h] else out
theorem keepM_take (most:Nat):∀ (r out:List α),r.foldl (keepM key most) (out.take most)=(r.foldl (keepK key) out).take most
 | [],out=>rfl
 | h :: r,out=>by
   rw [List.foldl_cons,List.foldl_cons]
   have e:keepM key most (out.take most) h=(keepK key out h).take most:=by
    unfold keepM keepK
    by_cases hl:out.length < most
    · rw [List.take_of_length_le (by omega)]
      by_cases ha:out.any (fun x=>decide (key x=key h))=true
      · rw [if_neg (by simp [ha]),if_pos ha,List.take_of_length_le (by omega)]
      · rw [if_pos ⟨hl,ha⟩,if_neg ha,List.take_of_length_le (by simp; omega)]
    · rw [if_neg (by rw [List.length_take]; omega)]
      split
      · rfl
      · rw [List.take_append_of_le_length (by omega)]
   rw [e];exact keepM_take most r _
def insS (lt:α→α→Bool) (h:α) (l:List α):List α:=l.filter (fun x=>!lt h x)++h :: l.filter (fun x=>lt h x)
def insK (lt:α→α→Bool) (key:α→κ) (L:List α) (h:α):List α:=if L.any (fun x=>decide (key x=key h) && !lt h x) then L else insS lt h (L.filter fun x=>!decide (key x=key h))
theorem insS_sorted (o:STO lt) {l:List α} {h:α} (hl:l.Pairwise (fun x y=>lt x y=true)) (hn:h∉l):(insS lt h l).Pairwise (fun x y=>lt x y=true):=by
 unfold insS;refine List.pairwise_append.2 ⟨hl.filter _,List.pairwise_cons.2 ⟨fun x hx=>?_,hl.filter _⟩,fun x hx y hy=>?_⟩
 · exact (List.mem_filter.1 hx).2
 · have h1:=List.mem_filter.1 hx
   have h2:lt h x=false:=by simpa using h1.2
   have h3:lt x h=true:=lt_or o h2 (fun e=>hn (e ▸ h1.1));rcases List.mem_cons.1 hy with rfl | hy
   · exact h3
   · exact o.tr _ _ _ h3 (List.mem_filter.1 hy).2
theorem insS_mem {l:List α} {h y:α}:y∈insS lt h l↔y=h∨y∈l:=by
 unfold insS;rw [List.mem_append,List.mem_cons,List.mem_filter,List.mem_filter];constructor
 · rintro (h1 | h1 | h1)
   · exact .inr h1.1
   · exact .inl h1
   · exact .inr h1.1
 · rintro (h1 | h1)
   · exact .inr (.inl h1)
   · cases hb:lt h y
     · exact .inl ⟨h1,by simp⟩
     · exact .inr (.inr ⟨h1,rfl⟩)
theorem Best.ins (o:STO lt) {s L:List α} {h:α} (b:Best lt key s L):Best lt key (s++[h]) (insK lt key L h):=by
 unfold insK
 by_cases ha:L.any (fun x=>decide (key x=key h) && !lt h x)=true
 · rw [if_pos ha]
   obtain ⟨x,hx,hk⟩:=List.any_eq_true.1 ha;simp only [Bool.and_eq_true,decide_eq_true_eq,Bool.not_eq_true'] at hk;have hxp:=(b.mem x).1 hx;refine ⟨b.sorted,fun y=>?_,fun g hg=>?_⟩
   · constructor
     · intro hy
       obtain ⟨h1,h2⟩:=(b.mem y).1 hy;refine ⟨by simp [h1],fun g hg hgk=>?_⟩;rcases List.mem_append.1 hg with hg | hg
       · exact h2 g hg hgk
       · simp at hg; subst hg
         have e:x=y:=eq_of o (h2 x hxp.1 (hk.1.trans hgk)) (hxp.2 y h1 (hgk.symm.trans hk.1.symm));rw [← e]; exact hk.2
     · rintro ⟨h1,h2⟩
       rcases List.mem_append.1 h1 with h1 | h1
       · exact (b.mem y).2 ⟨h1,fun g hg=>h2 g (by simp [hg])⟩
       · simp at h1; subst h1
         have e:x=y:=eq_of o (h2 x (by simp [hxp.1]) hk.1) hk.2;rw [← e]; exact hx
   · rcases List.mem_append.1 hg with hg | hg
     · exact b.rep g hg
     · simp at hg; subst hg; exact ⟨x,hx,hk.1⟩
 · rw [if_neg ha]
   have hall:∀ x∈L,key x=key h→lt h x=true:=fun x hx hk=>by
    cases hb:lt h x
    · exact absurd (List.any_eq_true.2 ⟨x,hx,by simp [hk,hb]⟩) ha
    · rfl
   have hmf:∀ y,y∈L.filter (fun x=>!decide (key x=key h))↔y∈L∧key y≠key h:=fun y=>by rw [List.mem_filter]; simp
   refine ⟨insS_sorted o (b.sorted.filter _) (fun hin=>((hmf h).1 hin).2 rfl),fun y=>?_,fun g hg=>?_⟩
   · rw [insS_mem,hmf]
     constructor
     · rintro (rfl | ⟨h1,hk⟩)
       · refine ⟨by simp,fun g hg hgk=>?_⟩
         rcases List.mem_append.1 hg with hg | hg
         · obtain ⟨x,hx,hxk⟩:=b.rep g hg
           have h3:=hall x hx (hxk.trans hgk);cases hb:lt g y
           · rfl
           · have h4:=((b.mem x).1 hx).2 g hg hxk.symm
             rw [o.tr _ _ _ hb h3] at h4; cases h4
         · simp at hg; subst hg; exact o.irr g
       · obtain ⟨h2,h3⟩:=(b.mem y).1 h1
         refine ⟨by simp [h2],fun g hg hgk=>?_⟩;rcases List.mem_append.1 hg with hg | hg
         · exact h3 g hg hgk
         · simp at hg; subst hg; exact absurd hgk.symm hk
     · rintro ⟨h1,h2⟩
       rcases List.mem_append.1 h1 with h1 | h1
       · have h3:y∈L:=(b.mem y).2 ⟨h1,fun g hg=>h2 g (by simp [hg])⟩
         refine .inr ⟨h3,fun hk=>?_⟩;have h4:=hall y h3 hk;rw [h2 h (by simp) hk.symm] at h4; cases h4
       · exact .inl (by simpa using h1)
   · rcases List.mem_append.1 hg with hg | hg
     · obtain ⟨x,hx,hk⟩:=b.rep g hg
       by_cases hkh:key x=key h
       · exact ⟨h,insS_mem.2 (.inl rfl),hkh.symm.trans hk⟩
       · exact ⟨x,insS_mem.2 (.inr ((hmf x).2 ⟨hx,hkh⟩)),hk⟩
     · simp at hg; subst hg; exact ⟨g,insS_mem.2 (.inl rfl),rfl⟩
theorem best_ins (o:STO lt):∀ (r s L:List α),Best lt key s L→Best lt key (s++r) (r.foldl (insK lt key) L)
 | [],s,L,b=>by rw [List.append_nil]; exact b
 | h :: r,s,L,b=>by
   rw [List.foldl_cons];have e:s++h :: r=(s++[h])++r:=by simp
   rw [e];exact best_ins o r _ _ (b.ins o)
theorem hyps_same (o:STO lt) {xs ys:List α} (hp:ys.Perm xs) (hs:ys.Pairwise (fun x y=>lt y x=false)) (most:Nat):ys.foldl (keepM key most) []=(xs.foldl (insK lt key) []).take most:=by
 have h1:=keepM_take (key:=key) most ys [];rw [List.take_nil] at h1;rw [h1];have h2:=best_sorted (key:=key) o ys [] [] .nil hs;have h3:=best_ins (key:=key) o xs [] [] .nil;rw [List.nil_append] at h2 h3;rw [h2.unique o h3 (fun x=>hp.mem_iff)]
end
def minO:Option Int→Option Int→Option Int
 | none,y=>y
 | x,none=>x
 | some x,some y=>some (min x y)
def encO (far:Int):Option Int→Int
 | none=>far
 | some v=>v
def LeO (far:Int) (x:Option Int):Prop:=∀ v,x=some v→v < far
theorem encO_min {far:Int} {x y:Option Int} (hx:LeO far x) (hy:LeO far y):encO far (minO x y)=min (encO far x) (encO far y):=by
 cases x with
 | none =>
   cases y with
   | none=>simp [minO,encO]
   | some y=>have:=hy y rfl; simp only [minO,encO]; omega
 | some x =>
   cases y with
   | none=>have:=hx x rfl; simp only [minO,encO]; omega
   | some y=>rfl
theorem LeO.min {far:Int} {x y:Option Int} (hx:LeO far x) (hy:LeO far y):LeO far (minO x y):=by
 intro v h;cases x with
 | none =>
   cases y with
   | none=>cases h
   | some y=>exact hy v h
 | some x =>
   cases y with
   | none=>exact hx v h
   | some y=>have:=hx x rfl; have:=hy y rfl; simp only [minO,Option.some.injEq] at h; omega
def elE (cost:Nat→Nat→Int) (band:Int):Nat→Nat→Option Int
 | 0,0=>if 0 > band then none else some (cost 0 0)
 | 0,j+1=>if ((j+1:Nat):Int) > band then none else (elE cost band 0 j).map (·+cost 0 (j+1))
 | i+1,0=>if ((i+1:Nat):Int) > band then none else (elE cost band i 0).map (·+cost (i+1) 0)
 | i+1,j+1=>if absE ((i:Int) - j) > band then none else (minO (minO (elE cost band i j) (elE cost band i (j+1))) (elE cost band (i+1) j)).map (·+cost (i+1) (j+1))
where absE (n:Int):Int:=if n < 0 then -n else n
theorem minO_cases {x y:Option Int} {v:Int} (h:minO x y=some v):x=some v∨y=some v:=by
 cases x with
 | none=>exact .inr h
 | some x =>
   cases y with
   | none=>exact .inl h
   | some y =>
     simp only [minO,Option.some.injEq] at h ⊢;omega
theorem elE_small {cost:Nat→Nat→Int} {band K:Int} (hc:∀ i j,0≤cost i j∧cost i j≤K):∀ i j v,elE cost band i j=some v→0≤v∧v≤((i+j+1:Nat):Int) * K
 | 0,0,v,h=>by
   rw [elE] at h
   split at h
   · cases h
   · injection h with h; subst h
     have:=hc 0 0;simp; omega
 | 0,j+1,v,h=>by
   rw [elE] at h
   split at h
   · cases h
   · obtain ⟨u,hu,rfl⟩:=Option.map_eq_some_iff.1 h
     have ih:=elE_small hc 0 j u hu;have:=hc 0 (j+1)
     have e:((0+(j+1)+1:Nat):Int) * K=((0+j+1:Nat):Int) * K+K:=by
      have:((0+(j+1)+1:Nat):Int)=((0+j+1:Nat):Int)+1:=by push_cast; omega
      rw [this,Int.add_mul,Int.one_mul]
     omega
 | i+1,0,v,h=>by
   rw [elE] at h
   split at h
   · cases h
   · obtain ⟨u,hu,rfl⟩:=Option.map_eq_some_iff.1 h
     have ih:=elE_small hc i 0 u hu;have:=hc (i+1) 0
     have e:((i+1+0+1:Nat):Int) * K=((i+0+1:Nat):Int) * K+K:=by
      have:((i+1+0+1:Nat):Int)=((i+0+1:Nat):Int)+1:=by push_cast; omega
      rw [this,Int.add_mul,Int.one_mul]
     omega
 | i+1,j+1,v,h=>by
   rw [elE] at h
   split at h
   · cases h
   · obtain ⟨u,hu,rfl⟩:=Option.map_eq_some_iff.1 h
     have:=hc (i+1) (j+1)
     have e:((i+1+(j+1)+1:Nat):Int) * K=((i+j+1:Nat):Int) * K+K+K:=by
      have:((i+1+(j+1)+1:Nat):Int)=((i+j+1:Nat):Int)+1+1:=by push_cast; omega
      rw [this,Int.add_mul,Int.add_mul,Int.one_mul]
     have e2:((i+(j+1)+1:Nat):Int) * K=((i+j+1:Nat):Int) * K+K:=by
      have:((i+(j+1)+1:Nat):Int)=((i+j+1:Nat):Int)+1:=by push_cast; omega
      rw [this,Int.add_mul,Int.one_mul]
     have e3:((i+1+j+1:Nat):Int) * K=((i+j+1:Nat):Int) * K+K:=by
      have:((i+1+j+1:Nat):Int)=((i+j+1:Nat):Int)+1:=by push_cast; omega
      rw [this,Int.add_mul,Int.one_mul]
     rcases minO_cases hu with hu | hu
     · rcases minO_cases hu with hu | hu
       · have:=elE_small hc i j u hu; omega
       · have:=elE_small hc i (j+1) u hu; omega
     · have:=elE_small hc (i+1) j u hu; omega
def befE (cost:Nat→Nat→Int) (band:Int):Nat→Nat→Option Int
 | 0,0=>some 0
 | 0,j+1=>elE cost band 0 j
 | i+1,0=>elE cost band i 0
 | i+1,j+1=>minO (minO (elE cost band i j) (elE cost band i (j+1))) (elE cost band (i+1) j)
theorem elE_bef (cost:Nat→Nat→Int) (band:Int) (hb:0≤band):∀ i j:Nat,elE cost band i j=if elE.absE ((i:Int) - j) > band then none else (befE cost band i j).map (·+cost i j)
 | 0,0=>by
   rw [elE,befE,if_neg (by omega),if_neg (by simp [elE.absE]; omega)]; simp
 | 0,j+1=>by
   rw [elE,befE];have e:elE.absE (((0:Nat):Int) - ((j+1:Nat):Int))=((j+1:Nat):Int):=by unfold elE.absE; split <;> omega
   rw [e]
 | i+1,0=>by
   rw [elE,befE];have e:elE.absE (((i+1:Nat):Int) - ((0:Nat):Int))=((i+1:Nat):Int):=by unfold elE.absE; split <;> omega
   rw [e]
 | i+1,j+1=>by
   rw [elE,befE];have e:(((i+1:Nat):Int) - ((j+1:Nat):Int))=(i:Int) - j:=by push_cast; omega
   rw [e]
theorem befE_small {cost:Nat→Nat→Int} {band K:Int} (hc:∀ i j,0≤cost i j∧cost i j≤K) (i j:Nat) (v:Int) (h:befE cost band i j=some v):0≤v∧v≤((i+j:Nat):Int) * K:=by
 cases i with
 | zero =>
   cases j with
   | zero=>injection h with h; subst h; simp
   | succ j=>have:=elE_small hc 0 j v h; rw [Nat.zero_add] at this ⊢; exact this
 | succ i =>
   have hK:0≤K:=by have:=hc 0 0; omega
   have mono:∀ {a b:Nat},a≤b→(a:Int) * K≤(b:Int) * K:=fun h=>Int.mul_le_mul_of_nonneg_right (by omega) hK
   cases j with
   | zero=>exact elE_small hc i 0 v h
   | succ j =>
     rcases minO_cases h with h | h
     · rcases minO_cases h with h | h
       · have:=elE_small hc i j v h; exact ⟨this.1,Int.le_trans this.2 (mono (by omega))⟩
       · have:=elE_small hc i (j+1) v h; exact ⟨this.1,Int.le_trans this.2 (mono (by omega))⟩
     · have:=elE_small hc (i+1) j v h; exact ⟨this.1,Int.le_trans this.2 (mono (by omega))⟩
theorem enc_cell {cost:Nat→Nat→Int} {band K far:Int} (hb:0≤band) (hc:∀ i j,0≤cost i j∧cost i j≤K) (i j:Nat) (hf:((i+j:Nat):Int) * K < far) :
 encO far (elE cost band i j)=if elE.absE ((i:Int) - j) > band∨far≤encO far (befE cost band i j) then far else encO far (befE cost band i j)+cost i j:=by
 rw [elE_bef cost band hb]
 by_cases h1:elE.absE ((i:Int) - j) > band
 · rw [if_pos h1,if_pos (.inl h1)]; rfl
 · rw [if_neg h1]
   cases e:befE cost band i j with
   | none=>rw [if_pos (.inr (Int.le_refl _))]; rfl
   | some v =>
     have:=befE_small hc i j v e;rw [if_neg (fun h=>h.elim h1 (fun h=>by simp only [encO] at h; omega))]; rfl
theorem minO_none (x:Option Int):minO x none=x:=by cases x <;> rfl
theorem none_minO (x:Option Int):minO none x=x:=rfl
theorem minO_comm (x y:Option Int):minO x y=minO y x:=by
 cases x <;> cases y <;> simp [minO,Int.min_comm]
theorem minO_assoc (x y z:Option Int):minO (minO x y) z=minO x (minO y z):=by
 cases x <;> cases y <;> cases z <;> simp [minO,Int.min_assoc]
def minsO (l:List (Option Int)):Option Int:=l.foldl minO none
theorem foldl_minO (x:Option Int):∀ l:List (Option Int),l.foldl minO x=minO x (minsO l)
 | []=>(minO_none x).symm
 | y :: l=>by rw [minsO,List.foldl_cons,List.foldl_cons,none_minO,foldl_minO (minO x y),foldl_minO y,minO_assoc]
theorem minsO_append (l r:List (Option Int)):minsO (l++r)=minO (minsO l) (minsO r):=by
 rw [minsO,List.foldl_append,foldl_minO]; rfl
theorem minsO_cons (x:Option Int) (l:List (Option Int)):minsO (x :: l)=minO x (minsO l):=by
 rw [minsO,List.foldl_cons,none_minO,foldl_minO]
theorem minsO_perm {l r:List (Option Int)} (h:l.Perm r):minsO l=minsO r:=by
 induction h with
 | nil=>rfl
 | cons a p ih=>rw [minsO_cons,minsO_cons,ih]
 | swap a b l=>rw [minsO_cons,minsO_cons,minsO_cons,minsO_cons,← minO_assoc,← minO_assoc,minO_comm b a]
 | trans _ _ h1 h2=>rw [h1,h2]
theorem minsO_none {l:List (Option Int)} (h:∀ x∈l,x=none):minsO l=none:=by
 induction l with
 | nil=>rfl
 | cons a l ih=>rw [minsO_cons,h a (List.mem_cons_self ..),none_minO,ih fun x hx=>h x (List.mem_cons_of_mem _ hx)]
structure LEdge where
 src:Nat
 dst:Nat
 lab:ByteArray
 cost:Int
 deriving DecidableEq
section
variable (es:List LEdge) (tx:Nat→ByteArray)
def inE (l:List LEdge) (v:Nat) (t:ByteArray):List LEdge:=l.filter fun e=>decide (e.dst=v) && decide (e.lab=t)
def lcE:Nat→Nat→Option Int
 | 0,v=>if v=0 then some 0 else none
 | k+1,v=>minsO ((inE es v (tx k)).map fun e=>(lcE k e.src).map (·+e.cost))
theorem lcE_small {K:Int} (hc:∀ e∈es,0≤e.cost∧e.cost≤K):∀ k v x,lcE es tx k v=some x→0≤x∧x≤(k:Int) * K
 | 0,v,x,h=>by
   rw [lcE] at h
   split at h
   · injection h with h; subst h; simp
   · cases h
 | k+1,v,x,h=>by
   rw [lcE] at h
   have key:∀ l:List (Option Int),minsO l=some x→some x∈l:=by
    intro l
    induction l with
    | nil=>intro h; cases h
    | cons a l ih =>
      intro h;rw [minsO_cons] at h;rcases minO_cases h with h | h
      · rw [h]; simp
      · exact List.mem_cons_of_mem _ (ih h)
   obtain ⟨e,he,hx⟩:=List.mem_map.1 (key _ h);obtain ⟨y,hy,rfl⟩:=Option.map_eq_some_iff.1 hx;have ih:=lcE_small hc k e.src y hy;have:=hc e (List.mem_filter.1 he).1;have e2:((k+1:Nat):Int) * K=(k:Int) * K+K:=by push_cast; rw [Int.add_mul,Int.one_mul]
   omega
theorem lcE_dead {k:Nat} (h:∀ e∈es,e.lab=tx k→lcE es tx k e.src=none):∀ j,k < j→∀ v,lcE es tx j v=none
 | 0,hj,_=>by omega
 | j+1,hj,v=>by
   rw [lcE];refine minsO_none fun x hx=>?_
   obtain ⟨e,he,rfl⟩:=List.mem_map.1 hx;rw [inE,List.mem_filter,Bool.and_eq_true,decide_eq_true_iff,decide_eq_true_iff] at he
   by_cases e0:k=j
   · subst e0; rw [h e he.1 he.2.2]; rfl
   · rw [lcE_dead h j (by omega) e.src]; rfl
theorem inE_snoc (l:List LEdge) (e:LEdge) (v:Nat) (t:ByteArray):inE (l++[e]) v t=if e.dst=v∧e.lab=t then inE l v t++[e] else inE l v t:=by
 rw [inE,inE,List.filter_append]
 by_cases h:e.dst=v∧e.lab=t
 · rw [if_pos h]; simp [h.1,h.2]
 · rw [if_neg h]
   have:(decide (e.dst=v) && decide (e.lab=t))=false:=by
    rw [Bool.eq_false_iff]; intro h'; rw [Bool.and_eq_true,decide_eq_true_iff,decide_eq_true_iff] at h'; exact h h'
   simp [this]
def upE (l:List LEdge) (k v:Nat):Option Int:=minsO ((inE l v (tx k)).map fun e=>(lcE es tx k e.src).map (·+e.cost))
theorem upE_snoc (l:List LEdge) (e:LEdge) (k v:Nat):upE es tx (l++[e]) k v=if e.dst=v∧e.lab=tx k then minO (upE es tx l k v) ((lcE es tx k e.src).map (·+e.cost)) else upE es tx l k v:=by
 rw [upE,inE_snoc]
 by_cases h:e.dst=v∧e.lab=tx k
 · rw [if_pos h,if_pos h,List.map_append,minsO_append]
   congr 1
 · rw [if_neg h,if_neg h]; rfl
theorem lcE_up (k v:Nat):lcE es tx (k+1) v=upE es tx es k v:=rfl
def fromE (u:Nat):List LEdge:=(List.range u).flatMap fun n=>es.filter fun e=>decide (e.src=n)
theorem fromE_succ (u:Nat):fromE es (u+1)=fromE es u++es.filter fun e=>decide (e.src=u):=by
 rw [fromE,List.range_succ,List.flatMap_append]; simp [fromE]
theorem filter_perm_split {α:Type} (p q:α→Bool) (hd:∀ x,p x=true→q x=false):∀ l:List α,(l.filter fun x=>p x || q x).Perm (l.filter p++l.filter q)
 | []=>List.Perm.refl _
 | x :: l=>by
   have ih:=filter_perm_split p q hd l;cases hp:p x with
   | true =>
     have hq:=hd x hp;rw [List.filter_cons_of_pos (by simp [hp]),List.filter_cons_of_pos hp,List.filter_cons_of_neg (by simp [hq])];exact ih.cons x
   | false =>
     cases hq:q x with
     | true =>
       rw [List.filter_cons_of_pos (by simp [hq]),List.filter_cons_of_neg (by simp [hp]),List.filter_cons_of_pos hq];exact (ih.cons x).trans List.perm_middle.symm
     | false =>
       rw [List.filter_cons_of_neg (by simp [hp,hq]),List.filter_cons_of_neg (by simp [hp]),List.filter_cons_of_neg (by simp [hq])];exact ih
theorem fromE_perm:∀ u,(fromE es u).Perm (es.filter fun e=>decide (e.src < u))
 | 0=>by simp [fromE]
 | u+1=>by
   rw [fromE_succ]
   have h:=filter_perm_split (fun e:LEdge=>decide (e.src < u)) (fun e=>decide (e.src=u)) (fun e h=>by
    rw [decide_eq_true_iff] at h; rw [decide_eq_false_iff_not]; omega) es
   have e:(fun e:LEdge=>decide (e.src < u) || decide (e.src=u))=fun e=>decide (e.src < u+1):=by
    funext x; rw [Bool.eq_iff_iff]; simp only [Bool.or_eq_true,decide_eq_true_eq]; omega
   rw [e] at h;exact ((fromE_perm u).append_right _).trans h.symm
theorem upE_from (hd:∀ e∈es,e.src < e.dst) {u v:Nat} (hv:v≤u) (k:Nat):upE es tx (fromE es u) k v=lcE es tx (k+1) v:=by
 rw [lcE_up,upE,upE];apply minsO_perm;apply List.Perm.map;have h1:=(fromE_perm es u).filter (fun e=>decide (e.dst=v) && decide (e.lab=tx k));refine h1.trans ?_;rw [List.filter_filter,inE];apply List.Perm.of_eq;apply List.filter_congr;intro e he;have:=hd e he;rw [Bool.eq_iff_iff];simp only [Bool.and_eq_true,decide_eq_true_eq];constructor
 · rintro ⟨h,-⟩; exact h
 · intro h; exact ⟨h,by omega⟩
theorem upE_all {n:Nat} (hn:∀ e∈es,e.src < n) (k v:Nat):upE es tx (fromE es n) k v=lcE es tx (k+1) v:=by
 rw [lcE_up,upE,upE];apply minsO_perm;apply List.Perm.map;have h1:=(fromE_perm es n).filter (fun e=>decide (e.dst=v) && decide (e.lab=tx k));have h2:es.filter (fun e=>decide (e.src < n))=es:=List.filter_eq_self.2 fun e he=>by rw [decide_eq_true_iff]; exact hn e he
 rw [h2] at h1;exact h1
end
section
variable (n:Nat) (home:Nat→Option Nat)
def orderN:List Nat:=(List.range n).flatMap fun k=>if (home k).isSome=true then [] else k :: (List.range n).filter fun d=>decide (home d=some k)
theorem mem_orderN (hh:∀ d h,home d=some h→h < n∧home h=none) {k:Nat}:k∈orderN n home↔k < n:=by
 rw [orderN,List.mem_flatMap];constructor
 · rintro ⟨j,hj,h⟩
   rw [List.mem_range] at hj
   split at h
   · cases h
   · rcases List.mem_cons.1 h with rfl | h
     · exact hj
     · exact List.mem_range.1 (List.mem_filter.1 h).1
 · intro hk
   cases e:home k with
   | none=>exact ⟨k,List.mem_range.2 hk,by rw [e]; simp⟩
   | some h =>
     obtain ⟨h1,h2⟩:=hh k h e;refine ⟨h,List.mem_range.2 h1,?_⟩;rw [h2];simp only [Option.isSome_none,Bool.false_eq_true,if_false];exact List.mem_cons_of_mem _ (List.mem_filter.2 ⟨List.mem_range.2 hk,by simpa using e⟩)
theorem orderN_nodup:(orderN n home).Nodup:=by
 rw [orderN,List.Nodup,List.pairwise_flatMap];refine ⟨fun k _=>?_,List.nodup_range.imp fun {a b} hab x hx y hy he=>?_⟩
 · split
   · exact .nil
   · rename_i h0
     refine List.pairwise_cons.2 ⟨?_,List.nodup_range.filter _⟩;rintro d hd rfl;rw [List.mem_filter,decide_eq_true_iff] at hd;rw [hd.2] at h0; exact h0 rfl
 · subst he
   split at hx
   · cases hx
   · split at hy
     · cases hy
     · rename_i h1 h2
       rcases List.mem_cons.1 hx with hx | hx
       · rcases List.mem_cons.1 hy with hy | hy
         · exact hab (hx.symm.trans hy)
         · rw [List.mem_filter,decide_eq_true_iff] at hy
           rw [← hx,hy.2] at h1; exact h1 rfl
       · rw [List.mem_filter,decide_eq_true_iff] at hx
         rcases List.mem_cons.1 hy with hy | hy
         · rw [← hy,hx.2] at h2; exact h2 rfl
         · rw [List.mem_filter,decide_eq_true_iff] at hy
           rw [hx.2] at hy;exact hab (Option.some.inj hy.2)
theorem orderN_perm (hh:∀ d h,home d=some h→h < n∧home h=none):(orderN n home).Perm (List.range n) :=
 (List.perm_ext_iff_of_nodup (orderN_nodup n home) List.nodup_range).2 fun k=>by rw [mem_orderN n home hh,List.mem_range]
theorem orderN_len (hh:∀ d h,home d=some h→h < n∧home h=none):(orderN n home).length=n:=by
 rw [(orderN_perm n home hh).length_eq,List.length_range]
end
theorem sorted_range {n:Nat} {l m:List Nat} (hp:m.Perm l) (hs:m.Pairwise fun a b=>a≤b) (hn:l.Nodup) (hl:∀ k∈l,k < n):m=(List.range n).filter fun k=>decide (k∈l):=by
 have hm:m.Pairwise (· < ·):=by
  have h1:m.Nodup:=hp.nodup_iff.2 hn;refine (List.pairwise_and_iff.2 ⟨hs,h1⟩).imp fun h=>?_
  omega
 refine sorted_ext (lt:=fun a b:Nat=>a < b) (fun a=>Nat.lt_irrefl a) (fun h k=>Nat.lt_trans h k) hm (List.pairwise_lt_range.filter _) fun k=>?_
 rw [hp.mem_iff,List.mem_filter,List.mem_range,decide_eq_true_iff];exact ⟨fun h=>⟨hl k h,h⟩,fun h=>h.2⟩
def homeN (dot:Nat→Bool) (common:Nat→Int) (k:Nat):Option Nat × Int :=
 (List.range k).foldl (fun m j=>if dot j=false∧m.2≤common j then (some j,common j) else m) (none,1)
theorem homeN_succ (dot:Nat→Bool) (common:Nat→Int) (k:Nat):homeN dot common (k+1)=if dot k=false∧(homeN dot common k).2≤common k then (some k,common k) else homeN dot common k:=by
 rw [homeN,List.range_succ,List.foldl_append]; rfl
theorem homeN_is (dot:Nat→Bool) (common:Nat→Int):∀ k,1≤(homeN dot common k).2∧(∀ h,(homeN dot common k).1=some h→h < k∧dot h=false)∧((homeN dot common k).1=none→(homeN dot common k).2=1)
 | 0=>by simp [homeN]
 | k+1=>by
   obtain ⟨h1,h2,h3⟩:=homeN_is dot common k;rw [homeN_succ]
   split
   · rename_i h
     refine ⟨Int.le_trans h1 h.2,?_,?_⟩
     · intro j hj; injection hj with hj; subst hj; exact ⟨Nat.lt_succ_self _,h.1⟩
     · intro hj; cases hj
   · exact ⟨h1,fun j hj=>⟨by have:=h2 j hj; omega,(h2 j hj).2⟩,h3⟩
def homeR (dot:Nat→Bool) (common:Nat→Int) (k:Nat):Option Nat × Int :=
 (List.range k).foldl (fun m j=>if dot j=false∧0 < common j∧m.2≤common j then (some j,common j) else m) (none,0)
theorem homeR_succ (dot:Nat→Bool) (common:Nat→Int) (k:Nat):homeR dot common (k+1)=if dot k=false∧0 < common k∧(homeR dot common k).2≤common k then (some k,common k) else homeR dot common k:=by
 rw [homeR,List.range_succ,List.foldl_append]; rfl
theorem homeR_eq (dot:Nat→Bool) (common:Nat→Int):∀ k,(homeR dot common k).1=(homeN dot common k).1∧((homeN dot common k).1=none→(homeR dot common k).2=0)∧((homeN dot common k).1≠none→(homeR dot common k).2=(homeN dot common k).2)
 | 0=>by simp [homeR,homeN]
 | k+1=>by
   obtain ⟨h1,h2,h3⟩:=homeR_eq dot common k;obtain ⟨g1,g2,g3⟩:=homeN_is dot common k;rw [homeR_succ,homeN_succ]
   have e:(dot k=false∧0 < common k∧(homeR dot common k).2≤common k)↔(dot k=false∧(homeN dot common k).2≤common k):=by
    by_cases hn:(homeN dot common k).1=none
    · rw [h2 hn,g3 hn]; exact and_congr_right fun _=>by omega
    · rw [h3 hn]; exact and_congr_right fun _=>by omega
   by_cases hc:dot k=false∧(homeN dot common k).2≤common k
   · rw [if_pos hc,if_pos (e.2 hc)]; simp
   · rw [if_neg hc,if_neg (fun h=>hc (e.1 h))]; exact ⟨h1,h2,h3⟩
structure PFeat where
 x:Int
 y:Int
 d:Int
 deriving DecidableEq
def pFeat:Ty PFeat:=(int64.prod (int64.prod int64)).via fun s=>(s.x,s.y,s.d)
theorem pFeat_rep {o:Bool} {w:World} {s:PFeat} {cs:List Value} {F:List Nat}:pFeat.rep o w s cs F↔cs=[.int .i64 s.x,.int .i64 s.y,.int .i64 s.d]∧F=[]∧I64 s.x∧I64 s.y∧I64 s.d:=by
 constructor
 · rintro ⟨_,_,_,_,rfl,rfl,⟨rfl,rfl,h0⟩,⟨_,_,_,_,rfl,rfl,⟨rfl,rfl,h1⟩,⟨rfl,rfl,h2⟩⟩⟩
   exact ⟨rfl,rfl,h0,h1,h2⟩
 · rintro ⟨rfl,rfl,h0,h1,h2⟩
   exact ⟨_,_,[],[],rfl,rfl,⟨rfl,rfl,h0⟩,⟨_,_,[],[],rfl,rfl,⟨rfl,rfl,h1⟩,⟨rfl,rfl,h2⟩⟩⟩
def pFeats (e:TypeId):Ty (List PFeat):=pFeat.slice e
theorem pFeats_open {o:Bool} {w:World} {e:TypeId} {xs:List PFeat} {v:Value} {F:List Nat} (h:(pFeats e).rep o w xs [v] F) :
 ∃ A c,v=.slice A xs.length c∧xs.length≤c∧c≤maxLen∧∀ k (hk:k < xs.length),∃ b off,A=some ⟨b,off,none⟩∧b < w.heap.size∧b∈F ∧
  w.cell? ⟨b,off+k * 3,none⟩=some (.int .i64 xs[k].x)∧w.cell? ⟨b,off+k * 3+1,none⟩=some (.int .i64 xs[k].y)∧w.cell? ⟨b,off+k * 3+2,none⟩=some (.int .i64 xs[k].d)∧I64 xs[k].x∧I64 xs[k].y∧I64 xs[k].d:=by
 obtain ⟨A,c,hv,h1,h2,h3⟩:=slice_open h;refine ⟨A,c,hv,h1,h2,fun k hk=>?_⟩;obtain ⟨b,off,ck,Fk,hA,hb,hin,hr,_,hc⟩:=h3 k hk;obtain ⟨rfl,rfl,i0,i1,i2⟩:=pFeat_rep.1 hr;exact ⟨b,off,hA,hb,hin,hc 0 _ rfl,by rw [Nat.add_assoc]; exact hc 1 _ rfl,by rw [Nat.add_assoc]; exact hc 2 _ rfl,i0,i1,i2⟩
def pFeatCells (s:PFeat):List Value:=[.int .i64 s.x,.int .i64 s.y,.int .i64 s.d]
def pFeatOk (s:PFeat):Prop:=I64 s.x∧I64 s.y∧I64 s.d
theorem pFeatCells_len (xs:List PFeat):(xs.flatMap pFeatCells).length=xs.length * 3:=by
 induction xs with
 | nil=>rfl
 | cons a r ih=>simp only [List.flatMap_cons,List.length_append,ih,List.length_cons]; simp [pFeatCells]; omega
theorem repL_pFeat {o:Bool} {w:World}:∀ (xs:List PFeat),(∀ s∈xs,pFeatOk s)→repL pFeat o w xs (xs.flatMap pFeatCells) []
 | [],_=>⟨rfl,rfl⟩
 | s :: r,h=>⟨_,_,[],[],rfl,rfl,pFeat_rep.2 ⟨rfl,rfl,h s (by simp)⟩,repL_pFeat r (fun t ht=>h t (by simp [ht]))⟩
theorem repL_pFeat_inv {o:Bool} {w:World}:∀ {xs:List PFeat} {cs:List Value} {F:List Nat},repL pFeat o w xs cs F→cs=xs.flatMap pFeatCells∧F=[]
 | [],_,_,⟨rfl,rfl⟩=>⟨rfl,rfl⟩
 | s :: r,_,_,⟨c1,c2,F1,F2,rfl,rfl,h1,h2⟩=>by
   obtain ⟨rfl,rfl,_⟩:=pFeat_rep.1 h1;obtain ⟨rfl,rfl⟩:=repL_pFeat_inv h2;exact ⟨rfl,rfl⟩
theorem pFeats_ok {o:Bool} {w:World} {e:TypeId} {xs:List PFeat} {v:Value} {F:List Nat} (h:(pFeats e).rep o w xs [v] F):∀ s∈xs,pFeatOk s:=by
 obtain ⟨_,_,_,_,_,hr⟩:=pFeats_open h;intro s hs;obtain ⟨k,hk,rfl⟩:=List.getElem_of_mem hs;obtain ⟨_,_,_,_,_,_,_,_,h⟩:=hr k hk;exact h
theorem toFeat_c (s:PFeat) (w:World) :
 Calls Tryz.prog 270 #[.agg #[.int .i64 s.x,.int .i64 s.y,.int .i64 s.d]] w fun e w'=>e=.returned (.agg #[.int .i64 s.x,.int .i64 s.y,.int .i64 s.d])∧Below w.heap.size w w':=by
 go_enter Tryz.func270,Tryz.ntmps270
 go_wp2_with fail
 refine bodyPost_ret (v:=.agg #[.int .i64 s.x,.int .i64 s.y,.int .i64 s.d]) (by simp [results,Tryz.results270,go_sem]) rfl ⟨rfl,?_⟩;exact (((Below.refl _ _).alloc (Nat.le_refl _) _).alloc (by simp) _).alloc (by simp; omega) _
theorem toFeatS_c {o:Bool} {e:TypeId} {xs:List PFeat} {v:Value} {F:List Nat} (w:World) (h:(pFeats e).rep o w xs [v] F) (hx:xs.length≤1048576) :
 Calls Tryz.prog 221 #[v] w fun e w'=>∃ u G,e=.returned u∧(pFeats 347).rep true w' xs [u] G∧Fresh w.heap.size G∧Below w.heap.size w w':=by
 have hok:=pFeats_ok h;obtain ⟨A,c,rfl,hc1,hc2,hr⟩:=pFeats_open h;have hmk:=make_run (P:=Tryz.prog) (t:=258) (e:=347) (z:=.agg #[.int .i64 0,.int .i64 0,.int .i64 0]) (size:=3) (bytes:=24) Tryz.underlying258 (by kernel_rfl) xs.length xs.length rfl (by omega) (by unfold maxLen; omega)
 go_enter Tryz.func221,Tryz.ntmps221
 go_wp2_with fail
 go_loopw [4] (fun i wr=>∃ k:Nat,k≤xs.length∧i=.int .i64 k∧∃ rest,Row wr w.heap.size 347 ((xs.take k).flatMap pFeatCells++rest)∧rest.length=(xs.length - k) * 3∧Below w.heap.size w wr) (fun i _=>xs.length - (intOf i).toNat)
 case atStart =>
  exact ⟨0,Nat.zero_le _,rfl,_,Row.new w _ _,by simp [madeCells],(Below.refl _ _).alloc (Nat.le_refl _) _⟩
 case round =>
  obtain ⟨k,hk,rfl,rest,hrow,hrl,hb⟩:=hrel
  by_cases hlt:k < xs.length
  · obtain ⟨b,off,rfl,hbb,_,h0,h1,h2,_⟩:=hr k hlt
    rw [← hb.cell (p:=⟨b,_,none⟩) hbb] at h0 h1 h2;have hbs:=hb.size;have hrl2:=hrow.lt;have hpl:((xs.take k).flatMap pFeatCells).length=k * 3:=by rw [pFeatCells_len,List.length_take]; omega
    obtain ⟨r0,r1,r2,rest',rfl⟩:∃ r0 r1 r2 rest',rest=r0 :: r1 :: r2 :: rest':=by
     match rest,hrl with
     | r0 :: r1 :: r2 :: rest',_=>exact ⟨_,_,_,_,rfl⟩
     | [],h=>simp at h; omega
     | [_],h=>simp at h; omega
     | [_,_],h=>simp at h; omega
    clear hr h hmk
    go_wp2_with (go_at_call 270; refine (toFeat_c xs[k] _).mono ?_; rintro e w1 ⟨rfl,hb1⟩; have hrow1:=hrow.later hb1; obtain ⟨⟨v0,hv0⟩,hf0⟩:=hrow1.can (i:=k * 3) (by simp [hpl]); obtain ⟨⟨v1,hv1⟩,hf1⟩:=hrow1.can (i:=k * 3+1) (by simp [hpl]); obtain ⟨⟨v2,hv2⟩,hf2⟩:=hrow1.can (i:=k * 3+2) (by simp [hpl]))
    go_roundw
    case rel =>
     refine ⟨k+1,by omega,by go_num,rest',?_,by simp at hrl; omega,((((hb.trans (hb1.mono hbs)).setCell (Nat.le_refl _) _).setCell (Nat.le_refl _) _).setCell (Nat.le_refl _) _)⟩;have R:=(((hrow1.put (j:=0) (i:=k * 3) (by rw [hpl]; rfl) (.int .i64 xs[k].x)).put (j:=1) (i:=k * 3+1) (by rw [hpl]) (.int .i64 xs[k].y)).put (j:=2) (i:=k * 3+2) (by rw [hpl]) (.int .i64 xs[k].d))
     rw [List.take_succ_eq_append_getElem hlt,List.flatMap_append,List.append_assoc];exact R
    case measure=>simp [intOf]; omega
  · obtain rfl:k=xs.length:=by omega
    go_wp2_with fail
    go_ret;have h0:rest=[]:=List.eq_nil_of_length_eq_zero (by simpa using hrl);subst h0;rw [List.append_nil,List.take_length] at hrow;exact ⟨_,[w.heap.size],rfl,slice_of_row hrow (repL_pFeat xs hok) (by unfold maxLen; omega),⟨by simp,by simp⟩,hb⟩
theorem eqFeat_c (s t:PFeat) (w:World) :
 Calls Tryz.prog 300 #[.agg #[.int .i64 s.x,.int .i64 s.y,.int .i64 s.d],.agg #[.int .i64 t.x,.int .i64 t.y,.int .i64 t.d]] w fun e w'=>e=.returned (.bool (decide (s=t)))∧Below w.heap.size w w':=by
 have e:decide (s=t)=decide (s.x=t.x∧s.y=t.y∧s.d=t.d):=by apply decide_eq_decide.2; cases s; cases t; simp
 rw [e];clear e
 go_enter Tryz.func300,Tryz.ntmps300
 go_wp2_with fail
 all_goals go_ret
 all_goals refine ⟨?_,((Below.refl _ _).alloc (Nat.le_refl _) _).alloc (by simp) _⟩
 all_goals simp_all
set_option maxRecDepth 100000 in
theorem eqFeatS_c {oa ob:Bool} {ea eb:TypeId} {xs ys:List PFeat} {v u:Value} {F G:List Nat} (w:World) (h:(pFeats ea).rep oa w xs [v] F) (h':(pFeats eb).rep ob w ys [u] G) (hx:xs.length≤1048576) (hy:ys.length≤1048576) :
 Calls Tryz.prog 257 #[v,u] w fun e w'=>e=.returned (.bool (decide (xs=ys)))∧Below w.heap.size w w':=by
 obtain ⟨A,c,rfl,hc1,hc2,hr⟩:=pFeats_open h;obtain ⟨B,d,rfl,hd1,hd2,hs⟩:=pFeats_open h';clear h h'
 by_cases hl:xs.length=ys.length
 · have hne:((xs.length:Int) != (ys.length:Int))=false:=by simp [hl]
   have HL:=Lib.hid hl;clear hl
   go_enter Tryz.func257,Tryz.ntmps257
   go_wp2_with fail
   go_loopw [5] (fun i wr=>∃ k:Nat,k≤xs.length∧i=.int .i64 k∧(∀ j (hj:j < xs.length) (hj':j < ys.length),j < k→xs[j]=ys[j])∧Below w.heap.size w wr) (fun i _=>xs.length - (intOf i).toNat)
   case atStart=>exact ⟨0,Nat.zero_le _,rfl,fun _ _ _ h=>by omega,Below.refl _ _⟩
   case round =>
    obtain ⟨k,hk,rfl,hall,hb⟩:=hrel;have hbs:=hb.size
    by_cases hlt:k < xs.length
    · have hlt':k < ys.length:=by have:=HL.out; omega
      obtain ⟨b,off,rfl,hbb,_,h0,h1,h2,_⟩:=hr k hlt;obtain ⟨b',off',rfl,hbb',_,g0,g1,g2,_⟩:=hs k hlt';rw [← hb.cell (p:=⟨b,_,none⟩) hbb] at h0 h1 h2;rw [← hb.cell (p:=⟨b',_,none⟩) hbb'] at g0 g1 g2;have HA:=Lib.hid hall;clear hr hs hall;have C:=eqFeat_c xs[k] ys[k]
      by_cases hkk:xs[k]=ys[k]
      · rw [decide_eq_true hkk] at C
        have HC:=Lib.hid C;have HK:=Lib.hid hkk;clear C hkk
        go_wp2_with fail
        go_still_tail 8,(by kernel_rfl)
        go_wp2_with (go_at_call 300; refine (HC.out _).mono ?_; rintro e w1 ⟨rfl,hb1⟩)
        go_roundw
        case rel =>
         refine ⟨k+1,by omega,by go_num,fun j hj hj' hjk=>?_,hb.drew.trans (hb1.mono hbs)⟩
         by_cases e:j=k
         · subst e; exact HK.out
         · exact HA.out j hj hj' (by omega)
        case measure=>simp [intOf]; omega
      · rw [decide_eq_false hkk] at C
        have HC:=Lib.hid C;have HK:=Lib.hid hkk;clear C hkk
        go_wp2_with fail
        go_still_tail 8,(by kernel_rfl)
        go_wp2_with (go_at_call 300; refine (HC.out _).mono ?_; rintro e w1 ⟨rfl,hb1⟩)
        go_ret;have hne:¬ xs=ys:=fun e=>by subst e; exact HK.out rfl
        exact ⟨by simp [hne],hb.drew.trans (hb1.mono hbs)⟩
    · obtain rfl:k=xs.length:=by omega
      have heq:xs=ys:=List.ext_getElem HL.out (fun j h1 h2=>hall j h1 h2 h1);clear hall
      go_wp2_with fail
      go_ret;exact ⟨by simp [heq],hb⟩
 · have hne:((xs.length:Int) != (ys.length:Int))=true:=by rw [bne_iff_ne]; omega
   have hxy:¬ xs=ys:=fun e=>hl (by rw [e])
   have HL:=Lib.hid hxy;clear hl hxy
   go_enter Tryz.func257,Tryz.ntmps257
   go_wp2_with fail
   go_ret;exact ⟨by simp [HL.out],Below.refl _ _⟩
theorem szFeatS_c {o:Bool} {e:TypeId} {xs:List PFeat} {v:Value} {F:List Nat} (w:World) (h:(pFeats e).rep o w xs [v] F) (left:Int) (hl:0≤left∧left≤1048576) :
 Calls Tryz.prog 209 #[v,.int .i64 left] w fun e w'=>(∃ r:Int,e=.returned (.int .i64 r)∧-1≤r∧r≤left∧(0≤r→r+xs.length≤left))∧Below w.heap.size w w':=by
 obtain ⟨A,c,rfl,hc1,hc2,hr⟩:=pFeats_open h;clear hr h;unfold maxLen at hc2
 go_enter Tryz.func209,Tryz.ntmps209
 go_wp2_with fail
 all_goals go_ret
 all_goals exact ⟨⟨_,rfl,by omega⟩,Below.refl _ _⟩
end Go.Proofs.YtalmeogjhmblhaaGreat

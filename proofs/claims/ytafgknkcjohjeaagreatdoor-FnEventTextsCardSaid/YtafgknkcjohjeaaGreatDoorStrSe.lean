/- Slices of strings: the law's own eq, mark, held, to, sz. Conditions: none. -/
import Derived.Test.YtafgknkcjohjeaaGreatDoorMarke
import Derived.Test.YtafgknkcjohjeaaGreatDoorLawe
import Derived.StillTailTactics
import Derived.BigQuiet
import Derived.Deep.QuietTactic
import Derived.Deep.RegionHeld3
namespace Go.Proofs.YtafgknkcjohjeaaGreatDoor
open Go Go.RowKit
def strs (e:TypeId):Ty (List ByteArray):=str.slice e
theorem strs_open {o:Bool} {w:World} {e:TypeId} {xs:List ByteArray} {v:Value} {F:List Nat} (h:(strs e).rep o w xs [v] F) :
 ∃ A c,v=.slice A xs.length c∧xs.length≤c∧c≤maxLen∧∀ k (hk:k < xs.length),∃ b off,A=some ⟨b,off,none⟩∧b < w.heap.size∧b∈F∧w.cell? ⟨b,off+k,none⟩=some (.string xs[k])∧xs[k].size≤maxLen:=by
 obtain ⟨A,c,hv,h1,h2,h3⟩:=slice_open h;refine ⟨A,c,hv,h1,h2,fun k hk=>?_⟩;obtain ⟨b,off,ck,Fk,hA,hb,hin,hr,_,hc⟩:=h3 k hk;obtain ⟨rfl,rfl,i1⟩:=str_rep.1 hr;have h0:=hc 0 _ rfl;rw [show k * str.size+0=k from Nat.mul_one k] at h0;exact ⟨b,off,hA,hb,hin,h0,i1⟩
theorem repL_strs {o:Bool} {w:World}:∀ (xs:List ByteArray),(∀ s∈xs,s.size≤maxLen)→repL str o w xs (xs.map .string) []
 | [],_=>⟨rfl,rfl⟩
 | s :: r,h=>⟨[.string s],_,[],[],rfl,rfl,str_rep.2 ⟨rfl,rfl,h s (by simp)⟩,repL_strs r (fun t ht=>h t (by simp [ht]))⟩
theorem repL_strs_inv {o:Bool} {w:World}:∀ {xs:List ByteArray} {cs:List Value} {F:List Nat},repL str o w xs cs F→cs=xs.map .string∧F=[]
 | [],_,_,⟨rfl,rfl⟩=>⟨rfl,rfl⟩
 | s :: r,_,_,⟨c1,c2,F1,F2,rfl,rfl,h1,h2⟩=>by
   obtain ⟨rfl,rfl,_⟩:=str_rep.1 h1;obtain ⟨rfl,rfl⟩:=repL_strs_inv h2;exact ⟨rfl,rfl⟩
theorem str_eq (a b:ByteArray):(a.toList == b.toList)=decide (a=b):=by
 by_cases h:a=b
 · subst h; simp
 · have:¬ a.toList=b.toList:=fun e=>h (by
    rw [ByteArray.toList_eq,ByteArray.toList_eq] at e;obtain ⟨⟨a⟩⟩:=a;obtain ⟨⟨b⟩⟩:=b;simp at e;rw [e])
   simp [h,this]
theorem str_eq_true {a b:ByteArray} (h:(a.toList == b.toList)=true):a=b:=by rw [str_eq] at h; simpa using h
theorem below_drewN {B:Nat} {a w:World} (h:Below B a w) (n:Nat):Below B a (w.drewN n):=h.trans ⟨rfl,rfl,rfl,Nat.le_refl _,fun _ _=>rfl⟩
end Go.Proofs.YtafgknkcjohjeaaGreatDoor

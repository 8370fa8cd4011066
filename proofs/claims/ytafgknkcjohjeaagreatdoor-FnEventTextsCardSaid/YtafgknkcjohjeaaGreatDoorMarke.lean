/- markText: the text that marks a cell. Conditions: none. -/
import Derived.Test.YtafgknkcjohjeaaGreatDoorRows
import Derived.Test.YtafgknkcjohjeaaGreatDoorRowe
namespace Go.Proofs.YtafgknkcjohjeaaGreatDoor
open Go Go.RowKit
structure Only (F:List Nat) (w w':World):Prop where
 os:w'.os=w.os
 tape:w'.tape=w.tape
 output:w'.output=w.output
 size:w.heap.size≤w'.heap.size
 block:∀ k,k < w.heap.size→k∉F→w'.heap[k]?=w.heap[k]?
theorem Only.refl (F:List Nat) (w:World):Only F w w:=⟨rfl,rfl,rfl,Nat.le_refl _,fun _ _ _=>rfl⟩
theorem Only.trans {F:List Nat} {a b c:World} (h:Only F a b) (k:Only F b c):Only F a c :=
 ⟨k.os.trans h.os,k.tape.trans h.tape,k.output.trans h.output,Nat.le_trans h.size k.size,fun i hi hn=>(k.block i (Nat.lt_of_lt_of_le hi h.size) hn).trans (h.block i hi hn)⟩
theorem Only.of_below {F:List Nat} {a b:World} (h:Below a.heap.size a b):Only F a b:=⟨h.os,h.tape,h.output,h.size,fun k hk _=>h.block k hk⟩
theorem Only.mono {F G:List Nat} {a b:World} (h:Only F a b) (hs:∀ x∈F,x∈G):Only G a b:=⟨h.os,h.tape,h.output,h.size,fun k hk hn=>h.block k hk (fun e=>hn (hs k e))⟩
theorem Only.set {F:List Nat} {a b:World} (h:Only F a b) {p:Addr} (hp:p.block∈F) (u:Value):Only F a (b.setCell p u) :=
 h.trans ⟨rfl,rfl,rfl,by simp [World.setCell],fun k _ hn=>Below.heap_setCell b p u k (fun e=>hn (e ▸ hp))⟩
theorem Only.below {F:List Nat} {B:Nat} {a b:World} (h:Only F a b) (hB:B≤a.heap.size) (hF:∀ x∈F,B≤x):Below B a b :=
 ⟨h.os,h.tape,h.output,h.size,fun k hk=>h.block k (Nat.lt_of_lt_of_le hk hB) (fun e=>absurd (hF k e) (by omega))⟩
theorem Ty.rep.only {α:Type} {T:Ty α} {o:Bool} {w w':World} {a:α} {cs:List Value} {F G:List Nat} (h:T.rep o w a cs F) (hb:Only G w w') (hd:∀ x∈F,x∉G):T.rep o w' a cs F :=
 T.kept h fun b hin=>hb.block b (T.lt h b hin) (hd b hin)
theorem bt {a b c:World} (h:Below a.heap.size a b) (k:Below b.heap.size b c):Below a.heap.size a c:=h.trans (k.mono h.size)
section
variable {α:Type} {T:Ty α} {o:Bool} {w w':World} {xs:List α} {cs:List Value} {F G:List Nat}
theorem repL_below (h:repL T o w xs cs F) (hb:Below w.heap.size w w'):repL T o w' xs cs F:=repL_kept h fun b hin=>hb.block b (repL_lt h b hin)
end
end Go.Proofs.YtafgknkcjohjeaaGreatDoor

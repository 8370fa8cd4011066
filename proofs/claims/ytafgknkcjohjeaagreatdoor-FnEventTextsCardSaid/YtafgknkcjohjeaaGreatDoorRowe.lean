/- A block that is known whole, as a list of cells; 'make' with a size that is a variable. Conditions: none. -/
import Derived.Test.YtafgknkcjohjeaaGreatDoorLibe
namespace Go.Proofs.YtafgknkcjohjeaaGreatDoor
open Go Go.RowKit
def Row (w:World) (g:Nat) (e:TypeId) (cs:List Value):Prop:=w.heap[g]?=some (.cells cs.toArray e (0,0))
section
variable {w w':World} {g:Nat} {e:TypeId} {cs rest:List Value}
theorem Row.lt (h:Row w g e cs):g < w.heap.size:=(Array.getElem?_eq_some_iff.1 h).1
theorem Row.cell (h:Row w g e cs) (i:Nat):w.cell? ⟨g,i,none⟩=cs[i]?:=by
 unfold Row at h;simp [World.cell?,h]
theorem Row.cell' (h:Row w g e cs) {i:Nat} {u:Value} (hu:cs[i]?=some u):w.cell? ⟨g,i,none⟩=some u:=(h.cell i).trans hu
theorem Row.c0 (h:Row w g e cs) {u:Value} (hu:cs[0]?=some u:=by rfl):w.cell? ⟨g,0,none⟩=some u:=h.cell' hu
theorem Row.c1 (h:Row w g e cs) {u:Value} (hu:cs[1]?=some u:=by rfl):w.cell? ⟨g,1,none⟩=some u:=h.cell' hu
theorem Row.c2 (h:Row w g e cs) {u:Value} (hu:cs[2]?=some u:=by rfl):w.cell? ⟨g,2,none⟩=some u:=h.cell' hu
theorem Row.c3 (h:Row w g e cs) {u:Value} (hu:cs[3]?=some u:=by rfl):w.cell? ⟨g,3,none⟩=some u:=h.cell' hu
theorem Row.c4 (h:Row w g e cs) {u:Value} (hu:cs[4]?=some u:=by rfl):w.cell? ⟨g,4,none⟩=some u:=h.cell' hu
theorem Row.c5 (h:Row w g e cs) {u:Value} (hu:cs[5]?=some u:=by rfl):w.cell? ⟨g,5,none⟩=some u:=h.cell' hu
theorem Row.frozen (h:Row w g e cs) (i:Nat):w.frozen? ⟨g,i,none⟩=false:=by
 unfold Row at h;simp [World.frozen?,h]
theorem Row.new (w:World) (e:TypeId) (cs:Array Value):Row (w.alloc (.cells cs e)) w.heap.size e cs.toList:=by
 unfold Row;rw [heap_alloc_new w _]
theorem Row.alloc (h:Row w g e cs) (o:Obj):Row (w.alloc o) g e cs:=(Below.heap_alloc w o g h.lt).trans h
theorem Row.drew (h:Row w g e cs):Row w.drew g e cs:=h
theorem Row.drewN (h:Row w g e cs) (n:Nat):Row (w.drewN n) g e cs:=h
theorem Row.set (h:Row w g e cs) (i:Nat) (u:Value):Row (w.setCell ⟨g,i,none⟩ u) g e (cs.set i u):=by
 unfold Row at h ⊢;simp [World.setCell,Array.getElem?_modify,h]
theorem Row.far (h:Row w g e cs) {p:Addr} (hp:g≠p.block) (u:Value):Row (w.setCell p u) g e cs:=(Below.heap_setCell w p u g hp).trans h
theorem Row.below {B:Nat} (h:Row w g e cs) (hb:Below B w w') (hg:g < B):Row w' g e cs:=(hb.block g hg).trans h
theorem Row.later (h:Row w g e cs) (hb:Below w.heap.size w w'):Row w' g e cs:=h.below hb h.lt
theorem Row.can (h:Row w g e cs) {i:Nat} (hi:i < cs.length):(∃ u,w.cell? ⟨g,i,none⟩=some u)∧w.frozen? ⟨g,i,none⟩=false :=
 ⟨⟨_,h.cell' (List.getElem?_eq_getElem hi)⟩,h.frozen i⟩
theorem Row.canJ (h:Row w g e (cs++rest)) {i j:Nat} (hi:i=cs.length+j) (hj:j < rest.length):(∃ u,w.cell? ⟨g,i,none⟩=some u)∧w.frozen? ⟨g,i,none⟩=false :=
 h.can (by rw [List.length_append]; omega)
theorem Row.put (h:Row w g e (cs++rest)) {i j:Nat} (hi:i=cs.length+j) (u:Value):Row (w.setCell ⟨g,i,none⟩ u) g e (cs++rest.set j u):=by
 have:=h.set i u
 rwa [List.set_append_right _ _ (by omega),show i - cs.length=j from by omega] at this
theorem Row.owns (h:Row w g e cs) {size n:Nat} (hl:cs.length=n * size) (hm:n≤maxLen):w.ownsRow 0 e size (.slice (some ⟨g,0,none⟩) n n) n cs :=
 ⟨hl,.inr ⟨g,n,cs.toArray,rfl,Nat.zero_le _,h,Nat.le_refl _,hm,by simpa using hl,by rw [List.toList_toArray,← hl,List.take_length]⟩⟩
theorem Row.of_owns {base size n cap:Nat} {xs:List Value} (h:w.ownsRow base e size (.slice (some ⟨g,0,none⟩) n cap) n xs) :
 ∃ rest,Row w g e (xs++rest)∧xs.length=n * size∧(xs++rest).length=cap * size∧n≤cap∧cap≤maxLen:=by
 obtain ⟨hl,h⟩:=h;rcases h with ⟨h,_⟩ | ⟨g',cap',cur,hv,_,hh,hn,hc,hs,ht⟩
 · cases h
 · injection hv with h1 _ h2
   injection h1 with h1
   injection h1 with h1 _ _
   subst h1;subst h2;refine ⟨cur.toList.drop (n * size),?_,hl,?_,hn,hc⟩
   · rw [← ht,List.take_append_drop]
     exact hh
   · rw [← ht,List.take_append_drop]
     simpa using hs
theorem slice_of_row {α:Type} {T:Ty α} {xs:List α} {G:List Nat} (h:Row w g e cs) (hr:repL T true w xs cs G) (hm:xs.length≤maxLen) :
 (T.slice e).rep true w xs [.slice (some ⟨g,0,none⟩) xs.length xs.length] (g :: G):=by
 have hl:=repL_len hr;refine ⟨_,_,cs,[g],G,rfl,rfl,Nat.le_refl _,hm,hr,by simpa using h.lt,fun hn=>⟨g,0,rfl,by simp,fun j u hu=>?_⟩,fun _=>⟨h.owns hl hm,rfl⟩⟩;rw [Nat.zero_add,h.cell];exact hu
end
theorem make_run {P:Program} {t e:TypeId} {z:Value} {size bytes:Nat} (ht:P.underlying t=some (.slice e)) (hi:(P.info? e).map (fun i=>(i.zero,i.size,i.bytes))=some (some z,size,bytes))
 (n:Nat) (m:Int) (hm:m=n) (hb:bytes * n≤281474976710656) (h63:n≤maxLen) (w:World) :
 (Instr.makeSlice t (.int .i64 m) (.int .i64 m)).run P w=.ok (.slice (some ⟨w.heap.size,0,none⟩) n n) (w.alloc (.cells (madeCells z.cells (n * size)) e)):=by
 subst hm;obtain ⟨i,hi1,hz,rfl,rfl⟩:=info_parts hi;unfold maxLen at h63
 have hb':(i.bytes:Int) * (n:Int)≤281474976710656:=by
  have h:((i.bytes * n:Nat):Int)≤281474976710656:=by omega
  rwa [Int.natCast_mul] at h
 have hr:=run_make (P:=P) w t e i z ht hi1 hz .i64 .i64 n n (by omega) (by omega) hb' (by omega)
 simpa using hr
theorem madeCells_toList (z:List Value):∀ n:Nat,0 < z.length→(madeCells z.toArray (n * z.length)).toList=(List.replicate n z).flatten:=by
 intro n hz;apply List.ext_getElem
 · simp [madeCells,List.length_flatten]
 · intro i h1 h2
   simp only [madeCells] at h1 ⊢;simp;have hi:i < n * z.length:=by simpa [madeCells] using h1
   have key:∀ (n i:Nat) (h:i < ((List.replicate n z).flatten).length),((List.replicate n z).flatten)[i]=z[i % z.length]'(Nat.mod_lt _ hz):=by
    intro n
    induction n with
    | zero=>intro i h; simp at h
    | succ n ih =>
      intro i h;simp only [List.replicate_succ,List.flatten_cons]
      by_cases hlt:i < z.length
      · rw [List.getElem_append_left hlt]
        congr 1
        exact (Nat.mod_eq_of_lt hlt).symm
      · rw [List.getElem_append_right (by omega),ih]
        congr 1
        exact (Nat.mod_eq_sub_mod (by omega)).symm
   rw [key];rw [List.getElem?_eq_getElem (Nat.mod_lt _ hz)];rfl
end Go.Proofs.YtafgknkcjohjeaaGreatDoor

/- Flat structs of the recogniser: matches, hypotheses, groups, edges, found words; slices of flat structs. Conditions: none. -/
import Derived.Test.YtalmeogjhmblhaaGreatRcRead2w
import Derived.Test.YtalmeogjhmblhaaGreatConfw
import Derived.Test.YtalmeogjhmblhaaGreatAppendw
import Derived.Laws.IdiomCopy
import Derived.ArgAppend
import Derived.Lib.AppendZerosOnto
import Derived.Lib.Overlaps
import Derived.Laws.Externs
import Derived.Laws.NewBlocks
import Derived.Deep.RegionLaw
import Derived.Test.YtalmeogjhmblhaaGreatTyStepw
import Derived.Test.YtalmeogjhmblhaaGreatStrSw
import Derived.Laws.IdiomStrings
namespace Go.Proofs.YtalmeogjhmblhaaGreat
open Go Go.RowKit
set_option maxHeartbeats 8000000
set_option maxRecDepth 100000
section
variable {α:Type} {n:Nat} {enc:α→List Value} {ok:α→Prop} {h1:∀ a,(enc a).length=n} {h2:∀ a u,u∈enc a→u.oneCell'=true} {o:Bool} {w:World}
theorem flat_repL:∀ (xs:List α),(∀ s∈xs,ok s)→repL (Ty.flat n enc ok h1 h2) o w xs (xs.flatMap enc) []
 | [],_=>⟨rfl,rfl⟩
 | s :: r,h=>⟨_,_,[],[],rfl,rfl,⟨rfl,rfl,h s (by simp)⟩,flat_repL r (fun t ht=>h t (by simp [ht]))⟩
theorem flat_repL_inv:∀ {xs:List α} {cs:List Value} {F:List Nat},repL (Ty.flat n enc ok h1 h2) o w xs cs F→cs=xs.flatMap enc∧F=[]∧∀ s∈xs,ok s
 | [],_,_,⟨rfl,rfl⟩=>⟨rfl,rfl,by simp⟩
 | s :: r,_,_,⟨c1,c2,F1,F2,rfl,rfl,g1,g2⟩=>by
   obtain ⟨rfl,rfl,g3⟩:=g1;obtain ⟨rfl,rfl,g4⟩:=flat_repL_inv g2;exact ⟨rfl,rfl,fun t ht=>(List.mem_cons.1 ht).elim (fun e=>e ▸ g3) (g4 t)⟩
theorem flat_open {e:TypeId} {xs:List α} {v:Value} {F:List Nat} (h:((Ty.flat n enc ok h1 h2).slice e).rep o w xs [v] F) :
 ∃ A c,v=.slice A xs.length c∧xs.length≤c∧c≤maxLen∧∀ k (hk:k < xs.length),∃ b off,A=some ⟨b,off,none⟩∧b < w.heap.size∧b∈F ∧
  (∀ j u,(enc xs[k])[j]?=some u→w.cell? ⟨b,off+(k * n+j),none⟩=some u)∧ok xs[k]:=by
 obtain ⟨A,c,hv,g1,g2,g3⟩:=slice_open h;refine ⟨A,c,hv,g1,g2,fun k hk=>?_⟩;obtain ⟨b,off,ck,Fk,hA,hb,hin,hr,_,hc⟩:=g3 k hk;obtain ⟨rfl,rfl,i0⟩:=hr;exact ⟨b,off,hA,hb,hin,hc,i0⟩
theorem flat_ok {e:TypeId} {xs:List α} {v:Value} {F:List Nat} (h:((Ty.flat n enc ok h1 h2).slice e).rep o w xs [v] F):∀ s∈xs,ok s:=by
 obtain ⟨_,_,_,_,_,hr⟩:=flat_open h;intro s hs;obtain ⟨k,hk,rfl⟩:=List.getElem_of_mem hs;obtain ⟨_,_,_,_,_,_,h⟩:=hr k hk;exact h
end
def pMatch:Ty (Nat × Int):=.flat 2 (fun m=>[.int .i64 m.1,.int .i64 m.2]) (fun m=>m.1 < 1048576∧I64 m.2) (fun _=>rfl) (by intro a u h; simp at h; rcases h with rfl | rfl <;> rfl)
def pHyp:Ty HypZ:=.flat 2 (fun h=>[.string h.label,.int .i64 h.cost]) (fun h=>h.label.size≤maxLen∧I64 h.cost) (fun _=>rfl) (by intro a u h; simp at h; rcases h with rfl | rfl <;> rfl)
def pGroup:Ty (Nat × Nat):=.flat 2 (fun m=>[.int .i64 m.1,.int .i64 m.2]) (fun _=>True) (fun _=>rfl) (by intro a u h; simp at h; rcases h with rfl | rfl <;> rfl)
def pEdge:Ty LEdge:=.flat 4 (fun e=>[.int .i64 e.src,.int .i64 e.dst,.string e.lab,.int .i64 e.cost]) (fun e=>e.src < 1048576∧e.dst < 1048576∧e.lab.size≤maxLen∧I64 e.cost) (fun _=>rfl) (by intro a u h; simp at h; rcases h with rfl | rfl | rfl | rfl <;> rfl)
def pFound:Ty FoundZ:=.flat 3 (fun f=>[.string f.word,.int .i64 f.path,.int .i64 f.own]) (fun f=>f.word.size≤maxLen∧I64 f.path∧I64 f.own) (fun _=>rfl) (by intro a u h; simp at h; rcases h with rfl | rfl | rfl <;> rfl)
theorem infoMatch:(Tryz.prog.info? 272).map (fun i=>(i.zero,i.size,i.bytes))=some (some (.agg #[.int .i64 0,.int .i64 0]),pMatch.size,16):=by kernel_rfl
theorem infoHyp:(Tryz.prog.info? 204).map (fun i=>(i.zero,i.size,i.bytes))=some (some (.agg #[.string .empty,.int .i64 0]),pHyp.size,24):=by kernel_rfl
theorem infoGroup:(Tryz.prog.info? 198).map (fun i=>(i.zero,i.size,i.bytes))=some (some (.agg #[.int .i64 0,.int .i64 0]),pGroup.size,16):=by kernel_rfl
theorem infoEdge:(Tryz.prog.info? 206).map (fun i=>(i.zero,i.size,i.bytes))=some (some (.agg #[.int .i64 0,.int .i64 0,.string .empty,.int .i64 0]),pEdge.size,40):=by kernel_rfl
theorem infoFound:(Tryz.prog.info? 143).map (fun i=>(i.zero,i.size,i.bytes))=some (some (.agg #[.string .empty,.int .i64 0,.int .i64 0]),pFound.size,32):=by kernel_rfl
section
variable {o:Bool} {w:World} {e:TypeId} {v:Value} {F:List Nat}
theorem pMatchs_open {xs:List (Nat × Int)} (h:(pMatch.slice e).rep o w xs [v] F):∃ A c,v=.slice A xs.length c∧xs.length≤c∧c≤maxLen∧∀ k (hk:k < xs.length),∃ b off,A=some ⟨b,off,none⟩∧b < w.heap.size∧b∈F ∧
 w.cell? ⟨b,off+k * 2,none⟩=some (.int .i64 xs[k].1)∧w.cell? ⟨b,off+k * 2+1,none⟩=some (.int .i64 xs[k].2)∧xs[k].1 < 1048576∧I64 xs[k].2:=by
 obtain ⟨A,c,g1,g2,g3,g4⟩:=flat_open h;refine ⟨A,c,g1,g2,g3,fun k hk=>?_⟩;obtain ⟨b,off,hA,hb,hin,hc,i0⟩:=g4 k hk;exact ⟨b,off,hA,hb,hin,hc 0 _ rfl,by rw [Nat.add_assoc]; exact hc 1 _ rfl,i0⟩
theorem pHyps_open {xs:List HypZ} (h:(pHyp.slice e).rep o w xs [v] F):∃ A c,v=.slice A xs.length c∧xs.length≤c∧c≤maxLen∧∀ k (hk:k < xs.length),∃ b off,A=some ⟨b,off,none⟩∧b < w.heap.size∧b∈F ∧
 w.cell? ⟨b,off+k * 2,none⟩=some (.string xs[k].label)∧w.cell? ⟨b,off+k * 2+1,none⟩=some (.int .i64 xs[k].cost)∧xs[k].label.size≤maxLen∧I64 xs[k].cost:=by
 obtain ⟨A,c,g1,g2,g3,g4⟩:=flat_open h;refine ⟨A,c,g1,g2,g3,fun k hk=>?_⟩;obtain ⟨b,off,hA,hb,hin,hc,i0⟩:=g4 k hk;exact ⟨b,off,hA,hb,hin,hc 0 _ rfl,by rw [Nat.add_assoc]; exact hc 1 _ rfl,i0⟩
theorem pGroups_open {xs:List (Nat × Nat)} (h:(pGroup.slice e).rep o w xs [v] F):∃ A c,v=.slice A xs.length c∧xs.length≤c∧c≤maxLen∧∀ k (hk:k < xs.length),∃ b off,A=some ⟨b,off,none⟩∧b < w.heap.size∧b∈F ∧
 w.cell? ⟨b,off+k * 2,none⟩=some (.int .i64 xs[k].1)∧w.cell? ⟨b,off+k * 2+1,none⟩=some (.int .i64 xs[k].2):=by
 obtain ⟨A,c,g1,g2,g3,g4⟩:=flat_open h;refine ⟨A,c,g1,g2,g3,fun k hk=>?_⟩;obtain ⟨b,off,hA,hb,hin,hc,i0⟩:=g4 k hk;exact ⟨b,off,hA,hb,hin,hc 0 _ rfl,by rw [Nat.add_assoc]; exact hc 1 _ rfl⟩
theorem pEdges_open {xs:List LEdge} (h:(pEdge.slice e).rep o w xs [v] F):∃ A c,v=.slice A xs.length c∧xs.length≤c∧c≤maxLen∧∀ k (hk:k < xs.length),∃ b off,A=some ⟨b,off,none⟩∧b < w.heap.size∧b∈F ∧
 w.cell? ⟨b,off+k * 4,none⟩=some (.int .i64 xs[k].src)∧w.cell? ⟨b,off+k * 4+1,none⟩=some (.int .i64 xs[k].dst)∧w.cell? ⟨b,off+k * 4+2,none⟩=some (.string xs[k].lab)∧w.cell? ⟨b,off+k * 4+3,none⟩=some (.int .i64 xs[k].cost)∧(xs[k].src < 1048576∧xs[k].dst < 1048576∧xs[k].lab.size≤maxLen∧I64 xs[k].cost):=by
 obtain ⟨A,c,g1,g2,g3,g4⟩:=flat_open h;refine ⟨A,c,g1,g2,g3,fun k hk=>?_⟩;obtain ⟨b,off,hA,hb,hin,hc,i0⟩:=g4 k hk;exact ⟨b,off,hA,hb,hin,hc 0 _ rfl,by rw [Nat.add_assoc]; exact hc 1 _ rfl,by rw [Nat.add_assoc]; exact hc 2 _ rfl,by rw [Nat.add_assoc]; exact hc 3 _ rfl,i0⟩
theorem pFounds_open {xs:List FoundZ} (h:(pFound.slice e).rep o w xs [v] F):∃ A c,v=.slice A xs.length c∧xs.length≤c∧c≤maxLen∧∀ k (hk:k < xs.length),∃ b off,A=some ⟨b,off,none⟩∧b < w.heap.size∧b∈F ∧
 w.cell? ⟨b,off+k * 3,none⟩=some (.string xs[k].word)∧w.cell? ⟨b,off+k * 3+1,none⟩=some (.int .i64 xs[k].path)∧w.cell? ⟨b,off+k * 3+2,none⟩=some (.int .i64 xs[k].own)∧(xs[k].word.size≤maxLen∧I64 xs[k].path∧I64 xs[k].own):=by
 obtain ⟨A,c,g1,g2,g3,g4⟩:=flat_open h;refine ⟨A,c,g1,g2,g3,fun k hk=>?_⟩;obtain ⟨b,off,hA,hb,hin,hc,i0⟩:=g4 k hk;exact ⟨b,off,hA,hb,hin,hc 0 _ rfl,by rw [Nat.add_assoc]; exact hc 1 _ rfl,by rw [Nat.add_assoc]; exact hc 2 _ rfl,i0⟩
end
section
variable {α:Type} {lt:α→α→Bool}
theorem ins_at (o:STO lt) {l:List α} {e:α} {k:Nat} (hl:l.Pairwise (fun x y=>lt x y=true)) (hk:k≤l.length) (h1:∀ j (hj:j < l.length),k≤j→lt e l[j]=true) (h2:∀ (h:0 < k),lt e (l[k - 1]'(by omega))=false):l.take k++e :: l.drop k=insS lt e l:=by
 have a1:∀ x∈l.take k,lt e x=false:=by
  intro x hx;obtain ⟨j,hj,rfl⟩:=List.getElem_of_mem hx;rw [List.length_take] at hj;rw [List.getElem_take];cases hc:lt e (l[j]'(by omega)) with
  | false=>rfl
  | true =>
    have h3:=h2 (by omega);rcases Nat.lt_or_ge j (k - 1) with h | h
    · have:=List.pairwise_iff_getElem.1 hl j (k - 1) (by omega) (by omega) h
      rw [o.tr _ _ _ hc this] at h3; cases h3
    · have:j=k - 1:=by omega
      subst this;rw [hc] at h3; cases h3
 have a2:∀ x∈l.drop k,lt e x=true:=by
  intro x hx;obtain ⟨j,hj,rfl⟩:=List.getElem_of_mem hx;rw [List.getElem_drop];exact h1 _ _ (by omega)
 have e1:l.filter (fun x=>!lt e x)=l.take k:=by
  conv=>lhs; rw [← List.take_append_drop k l]
  rw [List.filter_append,List.filter_eq_self.2 (by intro x hx; simp [a1 x hx]),List.filter_eq_nil_iff.2 (by intro x hx; simp [a2 x hx]),List.append_nil]
 have e2:l.filter (fun x=>lt e x)=l.drop k:=by
  conv=>lhs; rw [← List.take_append_drop k l]
  rw [List.filter_append,List.filter_eq_nil_iff.2 (by intro x hx; simp [a1 x hx]),List.filter_eq_self.2 (by intro x hx; simp [a2 x hx]),List.nil_append]
 rw [insS,e1,e2]
end
section
variable {w w':World} {g:Nat} {e:TypeId} {cs rest:List Value}
theorem Row.cells:∀ (vs:List Value) (o:Nat) {w:World} {cs:List Value} (_:Row w g e cs) (_:o+vs.length≤cs.length),Row (w.setCells g o vs) g e (cs.take o++vs++cs.drop (o+vs.length))
 | [],o,w,cs,h,hl=>by simpa [World.setCells] using h
 | v :: r,o,w,cs,h,hl=>by
   rw [List.length_cons] at hl;have h1:=Row.cells r (o+1) (h.set o v) (by rw [List.length_set]; omega)
   have e1:(cs.set o v).take (o+1)=cs.take o++[v]:=by
    rw [List.take_set,List.take_succ_eq_append_getElem (by omega),List.set_append_right _ _ (by simp; omega)];simp [Nat.min_eq_left (show o≤cs.length by omega)]
   have e2:(cs.set o v).drop (o+1+r.length)=cs.drop (o+(v :: r).length):=by
    rw [List.drop_set_of_lt (by omega),List.length_cons]; congr 1; omega
   rw [e1,e2] at h1;rw [World.setCells]
   simpa using h1
theorem Only.cells {F:List Nat} (hg:g∈F):∀ (vs:List Value) (o:Nat) {a b:World} (_:Only F a b),Only F a (b.setCells g o vs)
 | [],_,_,_,h=>h
 | v :: r,o,_,_,h=>Only.cells hg r (o+1) (h.set (p:=⟨g,o,none⟩) hg v)
theorem Row.shape (h:Row w g e cs):w.shape? g=some (e,cs.length):=by
 unfold Row at h;simp [World.shape?,h]
end
section
variable {α:Type} {T:Ty α} {o:Bool} {w w':World} {xs ys:List α} {cs ds:List Value} {F G:List Nat}
end
section
variable {ls:List PLine} {s:PStep}
end
theorem LinesOk.words {ls:List PLine} (h:LinesOk ls):∀ l∈ls,l.length≤1048576:=fun l hl=>by have:=h.each l hl; omega
theorem ret_boolF {a b:Bool} (h:a=b):Ending.returned (.bool a)=.returned (.bool b):=by rw [h]
def FoundAt (b:Bool) (w:World) (e:Ending) (w':World):Prop:=∃ r:Int,e=.returned (.int .i64 r)∧(decide (0≤r))=b∧Below w.heap.size w w'
theorem IndexFunc_str {o:Bool} {e:TypeId} {xs:List ByteArray} {v:Value} {F:List Nat} (K:FuncId) (p:ByteArray→Bool) (w:World) (h:(strs e).rep o w xs [v] F) (hx:xs.length≤1048576)
 (hK:∀ args w,(callFunc K args).run Tryz.prog w=.ok (.enter K args) w) (hf:∀ s∈xs,∀ w:World,Calls Tryz.prog K #[.string s] w fun e w'=>e=.returned (.bool (p s))∧Below w.heap.size w w') :
 Calls Tryz.prog 139 #[v,.func (.func K) #[] #[]] w (FoundAt (xs.any p) w):=by
 obtain ⟨A,c,rfl,hc1,hc2,hr⟩:=strs_open h;clear h;have HF:=Lib.hid hf;clear hf
 go_enter Tryz.func139,Tryz.ntmps139
 go_wp2_with fail
 go_loopw [8] (fun i wr=>∃ k:Nat,k≤xs.length∧i=.int .i64 k∧Hid ((xs.take k).any p=false)∧Below w.heap.size w wr) (fun i _=>xs.length - (intOf i).toNat)
 case atStart=>exact ⟨0,Nat.zero_le _,rfl,rfl,Below.refl _ _⟩
 case round =>
  obtain ⟨k,hk,rfl,hno,hb⟩:=hrel;have hbs:=hb.size
  by_cases hlt:k < xs.length
  · obtain ⟨b,off,rfl,hbb,_,h0,_⟩:=hr k hlt
    rw [← hb.cell (p:=⟨b,_,none⟩) hbb] at h0;clear hr
    go_wp2_with fail
    refine (HF.out xs[k] (List.getElem_mem hlt) _).mono ?_;rintro e w1 ⟨rfl,hb1⟩;cases hp:p xs[k]
    · have HP:=Lib.hid hp
      clear hp
      go_wp2_with fail
      go_roundw
      case rel=>exact ⟨k+1,by omega,by go_num,(by show _=_; rw [List.take_succ_eq_append_getElem hlt,List.any_append,hno.out]; simp [HP.out]),hb.trans (hb1.mono hbs)⟩
      case measure=>simp [intOf]; omega
    · have HP:=Lib.hid hp
      clear hp
      go_wp2_with fail
      go_ret;refine ⟨_,rfl,?_,hb.trans (hb1.mono hbs)⟩;have:xs.any p=true:=List.any_eq_true.2 ⟨xs[k],List.getElem_mem hlt,HP.out⟩;rw [this]; simp
  · obtain rfl:k=xs.length:=by omega
    go_wp2_with fail
    go_ret;refine ⟨_,rfl,?_,hb⟩;have:=hno.out;rw [List.take_length] at this;rw [this]; rfl
theorem ContainsFunc_str {o:Bool} {e:TypeId} {xs:List ByteArray} {v:Value} {F:List Nat} (K:FuncId) (p:ByteArray→Bool) (w:World) (h:(strs e).rep o w xs [v] F) (hx:xs.length≤1048576)
 (hK:∀ args w,(callFunc K args).run Tryz.prog w=.ok (.enter K args) w) (hf:∀ s∈xs,∀ w:World,Calls Tryz.prog K #[.string s] w fun e w'=>e=.returned (.bool (p s))∧Below w.heap.size w w') :
 Calls Tryz.prog 83 #[v,.func (.func K) #[] #[]] w fun e w'=>e=.returned (.bool (xs.any p))∧Below w.heap.size w w':=by
 have C:=IndexFunc_str K p w h hx hK hf;have HC:=Lib.hid C;clear C hf hK
 go_enter Tryz.func83,Tryz.ntmps83
 go_wp2_with fail
 refine HC.out.mono ?_;rintro e w1 ⟨r,rfl,hr,hb⟩
 go_wp2_with fail
 all_goals go_ret
 all_goals first | exact ⟨ret_boolF hr,hb⟩ | exact ⟨rfl,hb⟩
theorem bytes_of_string {P:Program} {src dst e:TypeId} (s:ByteArray) (w:World) (hs:P.underlying src=some .string) (hd:P.underlying dst=some (.slice e)) (he:P.underlying e=some (.int .u8)) (hm:s.size≤9223372036854775807) :
 ∃ c w1,(convert src dst (.string s)).run P w=.ok (.slice (some ⟨w.heap.size,0,none⟩) s.size c) w1∧Below w.heap.size w w1∧s.size≤c∧c≤maxLen ∧
  ∀ k (hk:k < s.size),w1.cell? ⟨w.heap.size,k,none⟩=some (.int .u8 (s[k].toNat:Int)):=by
 refine ⟨_,_,run_bytes_of_string w src dst e s hs hd he,(Below.refl _ _).drew.alloc (Nat.le_refl _) _,grownCap_ge _ _ _ _,grownCap_le_maxLen _ _ _ _ (by unfold maxLen; omega),fun k hk=>?_⟩
 have h:(w.drew.alloc (.cells (bytesRow s (grownCap w s.size 0 e)) e ((bytesRow s (grownCap w s.size 0 e)).size,(bytesRow s (grownCap w s.size 0 e)).size+1))).heap[w.heap.size]?=some (.cells (bytesRow s (grownCap w s.size 0 e)) e ((bytesRow s (grownCap w s.size 0 e)).size,(bytesRow s (grownCap w s.size 0 e)).size+1)):=by
  show (w.heap.push _)[w.heap.size]?=_
  simp
 simp only [World.cell?,h];have hk':k < (s.data.map (fun b=>Value.int .u8 b.toNat)).size:=by simpa using hk
 simp only [bytesRow];rw [Array.getElem?_append_left hk',Array.getElem?_eq_getElem hk'];simp;rfl
theorem all_take {p:UInt8→Bool} {s:ByteArray} {k:Nat} (hk:k < s.size):(s.data.toList.take (k+1)).all p=((s.data.toList.take k).all p && p s[k]):=by
 rw [List.take_succ_eq_append_getElem (by simpa using hk),List.all_append];simp;rfl
theorem all_stop {p:UInt8→Bool} {s:ByteArray} {k:Nat} (hk:k < s.size) (h:p s[k]=false):s.data.toList.all p=false:=by
 rw [List.all_eq_false];exact ⟨s[k],by show s.data[k]∈_; simp,by simp [h]⟩
theorem all_whole {p:UInt8→Bool} {s:ByteArray} (h:(s.data.toList.take s.size).all p=true):s.data.toList.all p=true:=by
 rwa [List.take_of_length_le (by simp)] at h
theorem letterB_iff (c:UInt8):letterB c=true↔97≤(c.toNat:Int)∧(c.toNat:Int)≤122:=by unfold letterB; simp; omega
theorem inR_iff (n a b:Int):inRP n a b=true↔a≤n∧n≤b:=by unfold inRP; simp
theorem impl_isLetter_c (c:UInt8) (w:World):Calls Tryz.prog 140 #[.int .u8 (c.toNat:Int)] w fun e w'=>e=.returned (.bool (letterB c))∧w=w':=by
 go_enter Tryz.func140,Tryz.ntmps140
 go_wp2_with fail
 all_goals go_ret
 all_goals refine ⟨ret_boolF ?_,rfl⟩
 all_goals rw [Bool.eq_iff_iff,letterB_iff]; simp; try omega
theorem spec_l01Small_c (c:UInt8) (w:World):Calls Tryz.prog 174 #[.int .u8 (c.toNat:Int)] w fun e w'=>e=.returned (.bool (letterB c))∧w=w':=by
 go_enter Tryz.func174,Tryz.ntmps174
 go_wp2_with fail
 all_goals go_ret
 all_goals refine ⟨ret_boolF ?_,rfl⟩
 all_goals rw [Bool.eq_iff_iff,letterB_iff]; simp; try omega
theorem spec_l00In_c (n a b:Int) (w:World):Calls Tryz.prog 61 #[.int .i64 n,.int .i64 a,.int .i64 b] w fun e w'=>e=.returned (.bool (inRP n a b))∧w=w':=by
 go_enter Tryz.func61,Tryz.ntmps61
 go_wp2_with fail
 all_goals go_ret
 all_goals refine ⟨ret_boolF ?_,rfl⟩
 all_goals rw [Bool.eq_iff_iff,inR_iff]; simp; try omega
theorem isWordB_of {s:ByteArray} (h:s.data.toList.all letterB=true):isWordB s=(decide (1≤s.size) && decide (s.size≤10)):=by simp [isWordB,h]
theorem isWordB_no {s:ByteArray} (h:s.data.toList.all letterB=false):isWordB s=false:=by simp [isWordB,h]
theorem impl_IsWord_c (s:ByteArray) (hs:s.size≤1048576) (w:World):Calls Tryz.prog 85 #[.string s] w fun e w'=>e=.returned (.bool (isWordB s))∧Below w.heap.size w w':=by
 obtain ⟨c,w1,hcv,hb1,hc1,hc2,hcell⟩:=bytes_of_string (P:=Tryz.prog) (src:=9) (dst:=222) (e:=5) s w Tryz.underlying9 Tryz.underlying222 Tryz.underlying5 (by omega)
 go_enter Tryz.func85,Tryz.ntmps85
 go_wp2_with fail
 go_loopw [8] (fun i wr=>∃ k:Nat,k≤s.size∧i=.int .i64 k∧Hid ((s.data.toList.take k).all letterB=true)∧wr=w1) (fun i _=>s.size - (intOf i).toNat)
 case atStart=>exact ⟨0,Nat.zero_le _,rfl,rfl,rfl⟩
 case round =>
  obtain ⟨k,hk,rfl,hall,rfl⟩:=hrel
  by_cases hlt:k < s.size
  · have h0:=hcell k hlt
    have C:=impl_isLetter_c s[k];have hst:=all_take (p:=letterB) hlt;rw [hall.out,Bool.true_and] at hst;clear hcell hcv;cases hl:letterB s[k]
    · rw [hl] at C
      have HC:=Lib.hid C;have HN:=Lib.hid (isWordB_no (all_stop hlt hl));clear C hl hst
      go_wp2_with (go_at_call 140; refine (HC.out _).mono ?_; rintro e w2 ⟨rfl,rfl⟩)
      go_ret;exact ⟨ret_boolF HN.out.symm,hb1⟩
    · rw [hl] at C hst
      have HC:=Lib.hid C;have HS:=Lib.hid hst;clear C hl hst
      go_wp2_with (go_at_call 140; refine (HC.out _).mono ?_; rintro e w2 ⟨rfl,rfl⟩)
      go_roundw
      case rel=>exact ⟨k+1,by omega,by go_num,HS.out,by first | trivial | rfl⟩
      case measure=>simp [intOf]; omega
  · obtain rfl:k=s.size:=by omega
    have HW:=Lib.hid (isWordB_of (all_whole hall.out));clear hcell hcv
    go_wp2_with fail
    all_goals go_ret
    all_goals refine ⟨ret_boolF ?_,hb1⟩
    all_goals rw [HW.out,Bool.eq_iff_iff]; simp; try omega
theorem spec_IsWord_c (s:ByteArray) (hs:s.size≤1048576) (w:World):Calls Tryz.prog 123 #[.string s] w fun e w'=>e=.returned (.bool (isWordB s))∧w=w':=by
 go_enter Tryz.func123,Tryz.ntmps123
 go_wp2_with fail
 go_loop [3] (fun i=>∃ k:Nat,k≤s.size∧i=.int .i64 k∧Hid ((s.data.toList.take k).all letterB=true)) (fun i=>s.size - (intOf i).toNat)
 case atStart=>exact ⟨0,Nat.zero_le _,rfl,rfl⟩
 case round =>
  obtain ⟨k,hk,rfl,hall⟩:=hrel
  by_cases hlt:k < s.size
  · have C:=spec_l01Small_c s[k]
    have hst:=all_take (p:=letterB) hlt;rw [hall.out,Bool.true_and] at hst;cases hl:letterB s[k]
    · rw [hl] at C
      have HC:=Lib.hid C;have HN:=Lib.hid (isWordB_no (all_stop hlt hl));clear C hl hst
      go_wp2_with (go_at_call 174; refine (HC.out _).mono ?_; rintro e w2 ⟨rfl,rfl⟩)
      go_ret;exact ⟨ret_boolF HN.out.symm,rfl⟩
    · rw [hl] at C hst
      have HC:=Lib.hid C;have HS:=Lib.hid hst;clear C hl hst
      go_wp2_with (go_at_call 174; refine (HC.out _).mono ?_; rintro e w2 ⟨rfl,rfl⟩)
      go_round
      case rel=>exact ⟨k+1,by omega,by go_num,HS.out⟩
      case measure=>simp [intOf]; omega
  · obtain rfl:k=s.size:=by omega
    have HW:=Lib.hid (isWordB_of (all_whole hall.out))
    go_wp2_with (go_at_call 61; refine (spec_l00In_c _ _ _ _).mono ?_; rintro e w2 ⟨rfl,rfl⟩)
    go_ret;refine ⟨ret_boolF ?_,rfl⟩;rw [HW.out,Bool.eq_iff_iff,inR_iff]; simp; omega
theorem take_all_step {α:Type} {p:α→Bool} {xs:List α} {k:Nat} (h:k < xs.length):(xs.take (k+1)).all p=((xs.take k).all p && p xs[k]):=by
 rw [List.take_succ_eq_append_getElem h,List.all_append]; simp
theorem all_no {α:Type} {p:α→Bool} {xs:List α} {k:Nat} (h:k < xs.length) (hp:p xs[k]=false):xs.all p=false:=by
 rw [List.all_eq_false]; exact ⟨xs[k],List.getElem_mem h,by simp [hp]⟩
theorem all_yes {α:Type} {p:α→Bool} {xs:List α} (h:(xs.take xs.length).all p=true):xs.all p=true:=by rwa [List.take_length] at h
theorem spec_l18Plain_c {o:Bool} {e:TypeId} {xs:List ByteArray} {v:Value} {F:List Nat} (w:World) (h:(strs e).rep o w xs [v] F) (hx:xs.length≤1048576) (hs:∀ s∈xs,s.size≤1048576) :
 Calls Tryz.prog 65 #[v] w fun e w'=>e=.returned (.bool (xs.all isWordB))∧w=w':=by
 obtain ⟨A,c,rfl,hc1,hc2,hr⟩:=strs_open h;clear h
 go_enter Tryz.func65,Tryz.ntmps65
 go_wp2_with fail
 go_loop [3] (fun i=>∃ k:Nat,k≤xs.length∧i=.int .i64 k∧Hid ((xs.take k).all isWordB=true)) (fun i=>xs.length - (intOf i).toNat)
 case atStart=>exact ⟨0,Nat.zero_le _,rfl,rfl⟩
 case round =>
  obtain ⟨k,hk,rfl,hall⟩:=hrel
  by_cases hlt:k < xs.length
  · obtain ⟨b,off,rfl,hbb,_,h0,_⟩:=hr k hlt
    have C:=spec_IsWord_c xs[k] (hs _ (List.getElem_mem hlt));have hst:=take_all_step (p:=isWordB) hlt;rw [hall.out,Bool.true_and] at hst;clear hr;cases hl:isWordB xs[k]
    · rw [hl] at C
      have HC:=Lib.hid C;have HN:=Lib.hid (all_no hlt hl);clear C hl hst
      go_wp2_with (go_at_call 123; refine (HC.out _).mono ?_; rintro e w2 ⟨rfl,rfl⟩)
      go_ret;exact ⟨ret_boolF HN.out.symm,rfl⟩
    · rw [hl] at C hst
      have HC:=Lib.hid C;have HS:=Lib.hid hst;clear C hl hst
      go_wp2_with (go_at_call 123; refine (HC.out _).mono ?_; rintro e w2 ⟨rfl,rfl⟩)
      go_round
      case rel=>exact ⟨k+1,by omega,by go_num,HS.out⟩
      case measure=>simp [intOf]; omega
  · obtain rfl:k=xs.length:=by omega
    have HW:=Lib.hid (all_yes hall.out);clear hr
    go_wp2_with fail
    go_ret;exact ⟨ret_boolF HW.out.symm,rfl⟩
theorem CellsAt.below {w w':World} {A:Option Addr} {ec:List Value} (h:CellsAt w A ec) (hb:Below w.heap.size w w'):CellsAt w' A ec:=fun hp=>by
 obtain ⟨b,off,h1,h2⟩:=h hp;refine ⟨b,off,h1,fun j u hu=>?_⟩;have h3:=h2 j u hu;exact (hb.cell (p:=⟨b,off+j,none⟩) (World.block_lt_of_cell? w _ h3)).trans h3
theorem CellsAt.alloc {w:World} {A:Option Addr} {ec:List Value} (h:CellsAt w A ec) (x:Obj):CellsAt (w.alloc x) A ec:=h.below ((Below.refl _ _).alloc (Nat.le_refl _) x)
theorem CellsAt.drew {w:World} {A:Option Addr} {ec:List Value} (h:CellsAt w A ec):CellsAt w.drew A ec:=h
theorem empty_is {α:Type} (T:Ty α) (e:TypeId) (w:World):(T.slice e).rep true (w.alloc (.cells #[] e)) [] [.slice (some ⟨w.heap.size,0,none⟩) 0 0] [w.heap.size]:=slice_of_row (xs:=[]) (Row.new w _ _) ⟨rfl,rfl⟩ (by simp [maxLen])
section
variable {α:Type} {T:Ty α} {e:TypeId} {w w':World} {xs ys:List α} {v u:Value} {F G G1 Gk G2 Gy:List Nat} {g c k:Nat} {c1 c2 cs rest:List Value} {ck:Value}
theorem row_take (h:Row w g e (cs++rest)) (n:Nat):CellsAt w (some ⟨g,0,none⟩) (cs.take n):=fun _=>⟨g,0,rfl,fun j u hu=>by
 rw [Nat.zero_add];refine h.cell' ?_;have hj:=(List.getElem?_eq_some_iff.1 hu).1;rw [List.length_take] at hj;rw [List.getElem?_append_left (by omega)];rw [List.getElem?_take] at hu
 split at hu
 · exact hu
 · cases hu⟩
theorem own_cases (h:(T.slice e).rep true w xs [v] F):(v=.slice none 0 0∧xs=[]) ∨
 ∃ g c cs rest G,v=.slice (some ⟨g,0,none⟩) xs.length c∧xs.length≤c∧c≤maxLen∧Row w g e (cs++rest)∧repL T true w xs cs G∧(cs++rest).length=c * T.size∧F=g :: G:=by
 have h':=h;obtain ⟨A,c,ec,F0,F1,hv,rfl,hl,hc,hr,hlt,ha,ho⟩:=h;obtain ⟨h1,h2⟩:=ho rfl;rcases h1.2 with ⟨h3,hn⟩ | ⟨g,cap,cur,h3,_⟩
 · simp only [List.cons.injEq,and_true] at hv
   exact .inl ⟨hv.trans h3,List.eq_nil_of_length_eq_zero hn⟩
 · rw [h3] at h1
   obtain ⟨rest,hrow,_,hlen,_,_⟩:=Row.of_owns h1;injection h3 with e1 _ e2
   subst e1; subst e2
   refine .inr ⟨g,c,ec,rest,F1,by simpa using hv,hl,hc,hrow,hr,hlen,?_⟩;rw [h2]; simp [Value.ownBlock]
end
theorem nodup_app {F G:List Nat} (hF:F.Nodup) (hG:G.Nodup) (h:∀ x,x∈F→x∈G→False):(F++G).Nodup:=List.nodup_append.2 ⟨hF,hG,fun x h1 _ h2 e=>h x h1 (e ▸ h2)⟩
end Go.Proofs.YtalmeogjhmblhaaGreat

/- slices.ContainsFunc and slices.Clone at hypotheses; the program's closure. Conditions: none. -/
import Derived.Test.YtalmeogjhmblhaaGreatRyAw
import Derived.Test.YtalmeogjhmblhaaGreatRyPw
import Derived.Lib.Overlaps
import Derived.Laws.NewBlocks
import Derived.Laws.Externs
import Derived.Test.YtalmeogjhmblhaaGreatConfw
import Derived.Test.YtalmeogjhmblhaaGreatStrSw
import Derived.Test.YtalmeogjhmblhaaGreatRcRead2w
import Derived.Test.YtalmeogjhmblhaaGreatRoww
import Derived.Laws.Cover1
import Derived.Sort.Grow
import Derived.Test.YtalmeogjhmblhaaGreatRows
import Derived.Shelf.SlSortCmp.NoneTotal
import Derived.Test.YtalmeogjhmblhaaGreatMarkw
namespace Go.Proofs.YtalmeogjhmblhaaGreat
open Go Go.RowKit
set_option maxHeartbeats 8000000
set_option maxRecDepth 100000
theorem Tryz.infoHyp:(Tryz.prog.info? 204).map (fun i=>(i.zero,i.size,i.bytes))=some (some (.agg #[.string .empty,.int .i64 0]),pHyp.size,24):=by kernel_rfl
theorem hypsOf1_c {gh oh:Nat} {l:ByteArray} (x:HypZ) (w:World) (hc:w.cell? ⟨gh,oh,none⟩=some (.string l)) (hl:gh < w.heap.size):Calls Tryz.prog 233 #[.agg #[.string x.label,.int .i64 x.cost],.pointer (some ⟨gh,oh,none⟩)] w fun e w'=>e=.returned (.bool (decide (x.label=l)))∧Below w.heap.size w w':=by
 have b1:Below w.heap.size w (w.alloc (.cells #[.string x.label,.int .i64 x.cost] 204)):=(Below.refl _ _).alloc (Nat.le_refl _) _;have x0:=(b1.cell (p:=⟨gh,oh,none⟩) hl).trans hc
 by_cases h:x.label=l
 · have hd:decide (x.label=l)=true:=decide_eq_true h
   rw [hd];obtain ⟨q1,q2⟩:=str_eqB h;clear h hd
   go_enter Tryz.func233,Tryz.ntmps233
   go_wp2_with fail
   go_ret;exact ⟨rfl,b1⟩
 · have hd:decide (x.label=l)=false:=decide_eq_false h
   rw [hd];obtain ⟨q1,q2⟩:=str_neB h;clear h hd
   go_enter Tryz.func233,Tryz.ntmps233
   go_wp2_with fail
   go_ret;exact ⟨rfl,b1⟩
theorem IndexFunc_Hyp {o:Bool} {e:TypeId} {xs:List HypZ} {v:Value} {F:List Nat} {gh oh:Nat} (K:FuncId) (p:HypZ→Bool) (w:World) (h:(pHyp.slice e).rep o w xs [v] F) (hx:xs.length≤1048576)
 (hK:∀ args w,(callFunc K args).run Tryz.prog w=.ok (.enter K args) w) (hf:∀ s∈xs,∀ w',Below w.heap.size w w'→Calls Tryz.prog K #[.agg #[.string s.label,.int .i64 s.cost],.pointer (some ⟨gh,oh,none⟩)] w' fun e w2=>e=.returned (.bool (p s))∧Below w'.heap.size w' w2) :
 Calls Tryz.prog 281 #[v,.func (.func K) #[] #[.pointer (some ⟨gh,oh,none⟩)]] w (FoundAt (xs.any p) w):=by
 obtain ⟨A,c,rfl,hc1,hc2,hr⟩:=pHyps_open h;clear h;have HF:=Lib.hid hf;clear hf
 go_enter Tryz.func281,Tryz.ntmps281
 go_wp2_with fail
 go_loopw [8] (fun i wr=>∃ k:Nat,k≤xs.length∧i=.int .i64 k∧Hid ((xs.take k).any p=false)∧Below w.heap.size w wr) (fun i _=>xs.length - (intOf i).toNat)
 case atStart=>exact ⟨0,Nat.zero_le _,rfl,rfl,Below.refl _ _⟩
 case round =>
  obtain ⟨k,hk,rfl,hno,hb⟩:=hrel;have hbs:=hb.size
  by_cases hlt:k < xs.length
  · obtain ⟨b,off,rfl,hbb,_,h0,h1,_⟩:=hr k hlt
    rw [← hb.cell (p:=⟨b,_,none⟩) hbb] at h0 h1;clear hr
    go_wp2_with fail
    refine (HF.out xs[k] (List.getElem_mem hlt) _ hb).mono ?_;rintro e w1 ⟨rfl,hb1⟩;cases hp:p xs[k]
    · have HP:=Lib.hid hp
      clear hp
      go_wp2_with fail
      go_roundw
      case rel=>exact ⟨k+1,by omega,by go_num,(by show _=_; rw [List.take_succ_eq_append_getElem hlt,List.any_append,hno.out]; simp [HP.out]),hb.trans (hb1.mono hbs)⟩
      case measure=>simp [intOf]; omega
    · have HP:=Lib.hid hp
      clear hp
      go_wp2_with fail
      go_ret;refine ⟨_,rfl,?_,hb.trans (hb1.mono hbs)⟩;have:xs.any p=true:=List.any_eq_true.2 ⟨xs[k],List.getElem_mem hlt,HP.out⟩;rw [this]; simp
  · obtain rfl:k=xs.length:=by omega
    go_wp2_with fail
    go_ret;refine ⟨_,rfl,?_,hb⟩;have:=hno.out;rw [List.take_length] at this;rw [this]; rfl
theorem ContainsFunc_Hyp {o:Bool} {e:TypeId} {xs:List HypZ} {v:Value} {F:List Nat} {gh oh:Nat} (K:FuncId) (p:HypZ→Bool) (w:World) (h:(pHyp.slice e).rep o w xs [v] F) (hx:xs.length≤1048576)
 (hK:∀ args w,(callFunc K args).run Tryz.prog w=.ok (.enter K args) w) (hf:∀ s∈xs,∀ w',Below w.heap.size w w'→Calls Tryz.prog K #[.agg #[.string s.label,.int .i64 s.cost],.pointer (some ⟨gh,oh,none⟩)] w' fun e w2=>e=.returned (.bool (p s))∧Below w'.heap.size w' w2) :
 Calls Tryz.prog 232 #[v,.func (.func K) #[] #[.pointer (some ⟨gh,oh,none⟩)]] w fun e w'=>e=.returned (.bool (xs.any p))∧Below w.heap.size w w':=by
 have HC:=Lib.hid (IndexFunc_Hyp K p w h hx hK hf);clear hf hK
 go_enter Tryz.func232,Tryz.ntmps232
 go_wp2_with fail
 refine HC.out.mono ?_;rintro e w1 ⟨r,rfl,hr,hb⟩
 go_wp2_with fail
 all_goals go_ret
 all_goals first | exact ⟨ret_boolF hr,hb⟩ | exact ⟨rfl,hb⟩
theorem Clone_Hyp {o:Bool} {e:TypeId} {xs:List (HypZ)} {v:Value} {F:List Nat} (w:World) (h:((pHyp).slice e).rep o w xs [v] F) (hx:xs.length≤1048576) (hflat:∀ {w:World} {cs:List Value} {G:List Nat},repL (pHyp) o w xs cs G→repL (pHyp) true w xs cs []) :
 Calls Tryz.prog 229 #[v] w fun e' w'=>∃ u G,e'=.returned u∧((pHyp).slice 204).rep true w' xs [u] G∧Fresh w.heap.size G∧Below w.heap.size w w':=by
 obtain ⟨A,c,ec,F0,F1,hv,rfl,hl,hc,hr,hlt,ha,_⟩:=h;simp only [List.cons.injEq,and_true] at hv;subst hv;have HA:=Lib.hid ha;clear ha;unfold maxLen at hc;cases A with
 | none =>
   have hxs:xs=[]:=by
    by_cases h0:0 < xs.length
    · obtain ⟨b,off,h1,_⟩:=HA.out h0; cases h1
    · exact List.eq_nil_of_length_eq_zero (by omega)
   have HX:=Lib.hid hxs;clear hxs;have hnil:=fun w=>Lib.run_eql_slice_nil (P:=Tryz.prog) w 200 204 none xs.length c 0 0 Tryz.underlying200
   go_enter Tryz.func229,Tryz.ntmps229
   go_wp2_with fail
   go_ret;exact ⟨_,[],rfl,by rw [HX.out]; exact slice_nil _ _ _ _,Fresh.nil _,Below.refl _ _⟩
 | some a =>
   have hat:CellsAt (w.alloc (.cells #[] 204)) (some a) ec:=fun hp=>by
    have hl2:=repL_len hr
    have h0:0 < xs.length:=by
     rcases Nat.eq_zero_or_pos xs.length with h | h
     · rw [h,Nat.zero_mul] at hl2; omega
     · exact h
    obtain ⟨b,off,h1,hb,h2⟩:=HA.out h0;exact ⟨b,off,h1,fun j u hu=>(World.cell?_of_block (w:=w) (Below.heap_alloc w _ b (hlt b hb))).trans (h2 j u hu)⟩
   have hr0:((pHyp).slice 204).rep true (w.alloc (.cells #[] 204)) [] [.slice (some ⟨w.heap.size,0,none⟩) 0 0] [w.heap.size]:=slice_of_row (xs:=[]) (Row.new w _ _) ⟨rfl,rfl⟩ (by simp [maxLen]);have hy:=hflat (w:=w.alloc (.cells #[] 204)) (repL_kept hr (fun b hb=>Below.heap_alloc w _ b (repL_lt hr b hb)));have HC:=Lib.hid hat;have HR:=Lib.hid hr0;have HY:=Lib.hid hy;clear hat hr0 hr hflat hy;have hnil:=fun w=>Lib.run_eql_slice_nil (P:=Tryz.prog) w 200 204 (some a) xs.length c 0 0 Tryz.underlying200
   go_enter Tryz.func229,Tryz.ntmps229
   go_wp2_with (at_builtin; refine wpList_append_rep (T:=pHyp) (e:=204) (ys:=xs) rfl (.tmp 5) (.tmp 6) rfl Tryz.underlying200 Tryz.infoHyp rfl (by decide) rfl HR.out rfl HY.out HC.out (by simp) (by simp) (by simp [maxLen]; omega) (by simp; omega) ?_; intro v2 w2 F2 r2 o2 q2)
   go_ret;refine ⟨_,F2,rfl,r2,q2 _ ⟨by simp,by simp⟩ (by simp),?_⟩;exact ((Below.refl _ _).alloc (Nat.le_refl _) _).trans (o2.below (by simp) (by simp))
def Grw (w w':World):Prop:=∃ q os,w'=Sort.grow (w.drewN q) os
theorem Grw.refl (w:World):Grw w w:=⟨0,#[],by rw [Sort.grow_empty]; rfl⟩
theorem Grw.alloc {w w':World} (h:Grw w w') (o:Obj):Grw w (w'.alloc o):=by
 obtain ⟨q,os,rfl⟩:=h;exact ⟨q,os++#[o],by rw [Sort.alloc_eq_grow,Sort.grow_grow]⟩
theorem Grw.drewN {w w':World} (h:Grw w w') (n:Nat):Grw w (w'.drewN n):=by
 obtain ⟨q,os,rfl⟩:=h;exact ⟨q+n,os,by rw [← World.drewN_drewN]; rfl⟩
theorem Grw.drew {w w':World} (h:Grw w w'):Grw w w'.drew:=h.drewN 1
theorem Grw.below {w w':World} (h:Grw w w'):Below w.heap.size w w':=by
 obtain ⟨q,os,rfl⟩:=h;refine ⟨rfl,rfl,rfl,?_,fun i hi=>?_⟩
 · show w.heap.size≤(w.heap++os).size
   simp
 · show (w.heap++os)[i]?=w.heap[i]?
   rw [Array.getElem?_append_left hi]
theorem isNaN_c (s:ByteArray) (w:World):Calls Tryz.prog 247 #[.string s] w fun e w'=>e=.returned (.bool false)∧w'=w:=by
 go_enter Tryz.func247,Tryz.ntmps247
 go_wp2_with fail
 go_ret;exact ⟨by simp,rfl⟩
theorem Compare_c (a b:ByteArray) (w:World):Calls Tryz.prog 200 #[.string a,.string b] w fun e w'=>e=.returned (.int .i64 (cmpF a b))∧w'=w:=by
 have Ca:=Lib.hid (isNaN_c a);have Cb:=Lib.hid (isNaN_c b);have hc:=bLess_sto.cases a b;unfold bLess at hc;rcases hc with ⟨h1,h2,h3,h4⟩ | rfl | ⟨h1,h2,h3,h4⟩
 · have HE:Hid (cmpF a b=-1):=by show _=_; unfold cmpF bLess; rw [h1]; rfl
   clear h2 h3 h4
   go_enter Tryz.func200,Tryz.ntmps200
   go_wp2_with fail
   refine (Ca.out _).mono ?_;rintro e w1 ⟨rfl,rfl⟩
   go_wp2_with fail
   refine (Cb.out _).mono ?_;rintro e w1 ⟨rfl,rfl⟩
   go_wp2_with fail
   go_ret;exact ⟨by rw [HE.out]; rfl,rfl⟩
 · have h1:=bl_irr a.toList
   have HE:Hid (cmpF a a=0):=by show _=_; unfold cmpF bLess; rw [h1]; rfl
   go_enter Tryz.func200,Tryz.ntmps200
   go_wp2_with fail
   refine (Ca.out _).mono ?_;rintro e w1 ⟨rfl,rfl⟩
   go_wp2_with fail
   refine (Cb.out _).mono ?_;rintro e w1 ⟨rfl,rfl⟩
   go_wp2_with fail
   go_ret;exact ⟨by rw [HE.out]; rfl,rfl⟩
 · have HE:Hid (cmpF a b=1):=by show _=_; unfold cmpF bLess; rw [h1,h2]; rfl
   have h5:(a.toList == b.toList)=false:=by rw [str_eq]; simpa using h3
   clear h2 h3 h4
   go_enter Tryz.func200,Tryz.ntmps200
   go_wp2_with fail
   refine (Ca.out _).mono ?_;rintro e w1 ⟨rfl,rfl⟩
   go_wp2_with fail
   refine (Cb.out _).mono ?_;rintro e w1 ⟨rfl,rfl⟩
   go_wp2_with fail
   go_ret;exact ⟨by rw [HE.out]; rfl,rfl⟩
theorem Or_c {g:Nat} {e:TypeId} (a b:Int) (w:World) (h:Row w g e [.int .i64 a,.int .i64 b]) :
 Calls Tryz.prog 198 #[.slice (some ⟨g,0,none⟩) 2 2] w fun e w'=>e=.returned (.int .i64 (if a≠0 then a else b))∧w'=w:=by
 have c0:=h.c0;have c1:=h.c1
 go_enter Tryz.func198,Tryz.ntmps198
 go_wp2_with fail
 go_loop [5,8] (fun s i=>∃ k:Nat,(k=0∨k=1∧a=0∨k=2∧a=0∧b=0)∧i=.int .i64 k) (fun _ i=>2 - (intOf i).toNat)
 case atStart=>exact ⟨0,.inl rfl,rfl⟩
 case round =>
  obtain ⟨k,hk,rfl⟩:=hrel;rcases hk with rfl | ⟨rfl,rfl⟩ | ⟨rfl,rfl,rfl⟩
  · by_cases h0:a=0
    · subst h0
      go_wp2_with fail
      go_round
      case rel=>exact ⟨1,by simp,by first | rfl | go_num⟩
      case measure=>simp [intOf]
    · have g0:(a != 0)=true:=by simp [h0]
      go_wp2_with fail
      go_ret;exact ⟨by simp,rfl⟩
  · by_cases h0:b=0
    · subst h0
      go_wp2_with fail
      go_round
      case rel=>exact ⟨2,by simp,by first | rfl | go_num⟩
      case measure=>simp [intOf]
    · have g0:(b != 0)=true:=by simp [h0]
      go_wp2_with fail
      go_ret;exact ⟨by simp,rfl⟩
  · go_wp2_with fail
    go_ret;exact ⟨by simp,rfl⟩
theorem and_intro4 {a b c d:Prop} (h1:a) (h2:b) (h3:c) (h4:d):a∧b∧c∧d:=⟨h1,h2,h3,h4⟩
end Go.Proofs.YtalmeogjhmblhaaGreat
namespace Go.Proofs.YtalmeogjhmblhaaGreat
open Go Go.RowKit Go.Shelf
set_option maxHeartbeats 8000000
set_option maxRecDepth 100000
open Go.Sort (flatK size_flatK get_flatK HoldsK putRowK)
section
variable {α:Type} [Inhabited α] {enc:α→List Value} {k:Nat}
theorem flat_getB (hk:∀ x,(enc x).length=k) (k0:0 < k):∀ (xs:List α) (t:Nat),t < xs.length * k→(xs.flatMap enc)[t]?=some ((enc xs.toArray[t / k]!)[t % k]!)
 | [],t,h=>by simp at h
 | x :: xs,t,h=>by
   rw [List.flatMap_cons]
   by_cases ht:t < k
   · rw [List.getElem?_append_left (by rw [hk]; exact ht),Nat.div_eq_of_lt ht,Nat.mod_eq_of_lt ht]
     have:t < (enc x).length:=by rw [hk]; exact ht
     simp [this]
   · rw [List.getElem?_append_right (by rw [hk]; omega),hk]
     have hl:t - k < xs.length * k:=by rw [List.length_cons,Nat.add_mul] at h; omega
     rw [flat_getB hk k0 xs (t - k) hl]
     have e1:t / k=(t - k) / k+1:=by
      obtain ⟨u,rfl⟩:∃ u,t=u+k:=⟨t - k,by omega⟩
      rw [Nat.add_sub_cancel,Nat.add_div_right _ k0]
     have e2:t % k=(t - k) % k:=by
      obtain ⟨u,rfl⟩:∃ u,t=u+k:=⟨t - k,by omega⟩
      rw [Nat.add_sub_cancel,Nat.add_mod_right]
     rw [e1,e2];have hd:(t - k) / k < xs.length:=(Nat.div_lt_iff_lt_mul k0).2 hl;simp [hd]
omit [Inhabited α] in
theorem flat_len (hk:∀ x,(enc x).length=k) (xs:List α):(xs.flatMap enc).length=xs.length * k:=by
 induction xs with
 | nil=>simp
 | cons x xs ih=>rw [List.flatMap_cons,List.length_append,ih,hk,List.length_cons,Nat.add_mul]; omega
theorem flatK_list (hk:∀ x,(enc x).length=k) (k0:0 < k) (xs:List α):(flatK enc k xs.toArray).toList=xs.flatMap enc:=by
 apply List.ext_getElem?;intro t
 by_cases h:t < xs.length * k
 · rw [flat_getB hk k0 xs t h,Array.getElem?_toList]
   have hs:t < (flatK enc k xs.toArray).size:=by rw [size_flatK]; simpa using h
   rw [Array.getElem?_eq_getElem hs,← getElem!_pos _ t hs,get_flatK _ _ _ _ (by simpa using h)]
 · rw [List.getElem?_eq_none (by rw [Array.length_toList,size_flatK]; simpa using h),List.getElem?_eq_none (by rw [flat_len hk]; omega)]
end
theorem putCells_list (F:Array Value) (cs rest:List Value) (h:F.size=cs.length):Sort.putCells id 0 F (cs++rest).toArray=(F.toList++rest).toArray:=by
 apply Array.ext
 · simp [Sort.putCells,h]
 · intro i h1 h2
   simp only [Sort.putCells,Array.getElem_mapIdx,List.getElem_toArray]
   by_cases hi:i < F.size
   · rw [if_pos ⟨Nat.zero_le _,by omega⟩,List.getElem_append_left (by simpa using hi),Nat.sub_zero,getElem!_pos F i hi]
     simp
   · rw [if_neg (by omega),List.getElem_append_right (by omega),List.getElem_append_right (by simpa using hi)]
     simp [h]
theorem sorted_list {α:Type} [Inhabited α] {lt:α→α→Bool} {xs:List α} {d:Array α} (hp:Sort.PermIn 0 xs.toArray.size xs.toArray d) (hs:Sort.SortedIn lt 0 xs.toArray.size d):d.toList.Perm xs∧d.toList.Pairwise (fun x y=>lt y x=false)∧d.size=xs.length:=by
 obtain ⟨h1,-,h3⟩:=hp;have e1:d.size=xs.length:=by simpa using h1
 refine ⟨?_,?_,e1⟩
 · have a1:d.extract 0 xs.toArray.size=d:=by rw [show xs.toArray.size=d.size from h1.symm]; simp
   have a2:xs.toArray.extract 0 xs.toArray.size=xs.toArray:=by simp
   rw [a1,a2] at h3
   simpa using h3
 · rw [List.pairwise_iff_getElem]
   intro i j hi hj hij;have:=hs i j (Nat.zero_le _) hij (by simpa [e1] using hj);rw [getElem!_pos d j (by simpa using hj),getElem!_pos d i (by simpa using hi)] at this
   simpa using this
theorem swo_key {α K:Type} {lt:K→K→Bool} (o:STO lt) (key:α→K) (cf:α→α→Int) (hcf:∀ x y,ltOf cf x y=lt (key x) (key y)):Sort.SWO (ltOf cf):=by
 refine ⟨fun x=>?_,fun x y z h1 h2=>?_,fun x y z h1 h2=>?_⟩
 · rw [hcf]; exact o.irr _
 · rw [hcf] at *; exact o.tr _ _ _ h1 h2
 · rw [hcf] at *
   rcases o.cases (key x) (key z) with h | h | h
   · rcases o.cases (key x) (key y) with g | g | g
     · rw [g.1] at h1; cases h1
     · rw [← g] at h2; exact h2
     · have:=o.tr _ _ _ g.2.1 h.1; rw [this] at h2; cases h2
   · rw [h]; exact o.irr _
   · exact h.1
theorem sort_flat {α K:Type} [Inhabited α] {k:Nat} {enc:α→List Value} {ok:α→Prop} {h1:∀ a,(enc a).length=k} {h2:∀ a u,u∈enc a→u.oneCell'=true} {ρ:Go.Shelf.Ren} (L:Go.Proofs.SlLaysF0.n6 Tryz.prog ρ) (k0:0 < k)
 (aE:∀ w,(isAgg (ρ.t 24)).run Tryz.prog w=.ok true w) (zE:∀ w,(Go.sizeOf (ρ.t 24)).run Tryz.prog w=.ok k w) {lt:K→K→Bool} (o:STO lt) (key:α→K) (cf:α→α→Int) (hcf:∀ x y,ltOf cf x y=lt (key x) (key y))
 (f:FuncId) (eg:∀ args w,(callFunc f args).run Tryz.prog w=.ok (.enter f args) w) (hcl:∀ x y w,Calls Tryz.prog f #[.agg (enc x).toArray,.agg (enc y).toArray] w fun e w'=>e=.returned (.int .i64 (cf x y))∧Grw w w')
 {e:TypeId} {xs:List α} {v:Value} {F:List Nat} (w:World) (h:((Ty.flat k enc ok h1 h2).slice e).rep true w xs [v] F) (hx:xs.length≤1048576) :
 Calls Tryz.prog (ρ.f 6) #[v,.func (.func f) #[] #[]] w fun en w'=>en=.returned (.tuple #[])∧∃ ys,ys.Perm xs∧ys.Pairwise (fun x y=>lt (key y) (key x)=false)∧((Ty.flat k enc ok h1 h2).slice e).rep true w' ys [v] F∧Only F w w':=by
 have hok:=flat_ok h
 by_cases hn:xs.length=0
 · obtain ⟨A,c,rfl⟩:=slice_len h
   have hx0:xs=[]:=List.length_eq_zero_iff.1 hn;subst hx0;refine (AnyF.slices_SortFunc_none L A c _ w).mono ?_;rintro en w' ⟨rfl,rfl⟩;exact ⟨rfl,[],List.Perm.refl _,List.Pairwise.nil,h,Only.refl _ _⟩
 · obtain ⟨g,c,cs,rest,G,rfl,hlc,hcm,hrow,hrep,hlen,rfl⟩:=row_of_slice h (by omega)
   obtain ⟨rfl,rfl,-⟩:=flat_repL_inv hrep;have hfl:=flatK_list h1 k0 xs
   have hH:HoldsK enc k w g 0 xs.toArray:=by
    intro j hj;refine ⟨?_,hrow.frozen _⟩;rw [hrow.cell,Nat.zero_add,List.getElem?_append_left (by rw [flat_len h1]; simpa using hj),← hfl,Array.getElem?_toList,Array.getElem?_eq_getElem hj,getElem!_pos _ j hj];rfl
   have hc:=AnyQ.slices_SortFunc L k aE zE enc h1 (fun x u hu=>h2 x u hu) cf (swo_key o key cf hcf) f #[] g 0 c xs.toArray w eg (fun _ _ _ _ x y=>(hcl x y _).mono fun _ _ ⟨he,hw⟩=>⟨he,hw⟩) hH hrow.lt (by simp; omega);have e1:xs.toArray.size=xs.length:=by simp
   rw [e1] at hc;refine hc.mono ?_;rintro en w' ⟨rfl,d,n,os,hp,hs,rfl⟩;rw [← e1] at hp hs;obtain ⟨p1,p2,p3⟩:=sorted_list hp hs;have hfd:=flatK_list h1 k0 d.toList;have hsz:(flatK enc k d).size=(xs.flatMap enc).length:=by rw [size_flatK,flat_len h1,p3]
   refine ⟨rfl,d.toList,p1,p2.imp (fun {x y} hxy=>by rwa [hcf] at hxy),?_,?_⟩
   · have hrow2:Row (sortWorldK enc k w g 0 n d os) g e (d.toList.flatMap enc++rest):=by
      unfold Row
      have h1:((putRowK enc k (Sort.ahead w n) g 0 d)).heap[g]?=some (.cells (Sort.putCells id 0 (flatK enc k d) (xs.flatMap enc++rest).toArray) e (0,0)):=by
       show (w.heap.modify g _)[g]?=_
       rw [Array.getElem?_modify,if_pos rfl,show w.heap[g]?=some (.cells (xs.flatMap enc++rest).toArray e (0,0)) from hrow];rfl
      have h2:(sortWorldK enc k w g 0 n d os).heap[g]?=((putRowK enc k (Sort.ahead w n) g 0 d)).heap[g]?:=by
       show (((putRowK enc k (Sort.ahead w n) g 0 d)).heap++os)[g]?=_
       rw [Array.getElem?_append_left (Array.getElem?_eq_some_iff.1 h1).1]
      rw [h2,h1,putCells_list _ _ _ hsz,← hfd]
     refine slice_of_room hrow2 (flat_repL _ (fun s hs=>hok s (p1.mem_iff.1 hs))) (by simpa using p3) hlc hcm ?_;rw [← hlen,List.length_append,List.length_append,flat_len h1,flat_len h1];simp [p3]
   · refine ⟨rfl,rfl,rfl,?_,fun i hi hne=>?_⟩
     · show w.heap.size≤(((putRowK enc k (Sort.ahead w n) g 0 d)).heap++os).size
       simp [putRowK,Sort.putRow,Sort.mapBlock,Sort.ahead]
     · show (((putRowK enc k (Sort.ahead w n) g 0 d)).heap++os)[i]?=_
       have e:((putRowK enc k (Sort.ahead w n) g 0 d)).heap=w.heap.modify g (Sort.onCells (Sort.putCells id 0 (flatK enc k d))):=rfl;rw [e,Array.getElem?_append_left (by simpa using hi),Array.getElem?_modify,if_neg (by simp at hne; omega)]
def cmpI (a b:Int):Int:=if a < b then -1 else if b < a then 1 else 0
theorem isNaN_i64_c (s:Int) (w:World):Calls Tryz.prog 246 #[.int .i64 s] w fun e w'=>e=.returned (.bool false)∧w'=w:=by
 go_enter Tryz.func246,Tryz.ntmps246
 go_wp2_with fail
 go_ret;exact ⟨by simp,rfl⟩
theorem isNaN_int_c (s:Int) (w:World):Calls Tryz.prog 256 #[.int .i64 s] w fun e w'=>e=.returned (.bool false)∧w'=w:=by
 go_enter Tryz.func256,Tryz.ntmps256
 go_wp2_with fail
 go_ret;exact ⟨by simp,rfl⟩
theorem Compare_i64_c (a b:Int) (w:World):Calls Tryz.prog 199 #[.int .i64 a,.int .i64 b] w fun e w'=>e=.returned (.int .i64 (cmpI a b))∧w'=w:=by
 have Ca:=Lib.hid (isNaN_i64_c a);have Cb:=Lib.hid (isNaN_i64_c b)
 by_cases h1:a < b
 · have HE:Hid (cmpI a b=-1):=by show _=_; unfold cmpI; rw [if_pos h1]
   go_enter Tryz.func199,Tryz.ntmps199
   go_wp2_with fail
   refine (Ca.out _).mono ?_;rintro e w1 ⟨rfl,rfl⟩
   go_wp2_with fail
   refine (Cb.out _).mono ?_;rintro e w1 ⟨rfl,rfl⟩
   go_wp2_with fail
   go_ret;exact ⟨by rw [HE.out]; rfl,rfl⟩
 · by_cases h2:b < a
   · have HE:Hid (cmpI a b=1):=by show _=_; unfold cmpI; rw [if_neg h1,if_pos h2]
     go_enter Tryz.func199,Tryz.ntmps199
     go_wp2_with fail
     refine (Ca.out _).mono ?_;rintro e w1 ⟨rfl,rfl⟩
     go_wp2_with fail
     refine (Cb.out _).mono ?_;rintro e w1 ⟨rfl,rfl⟩
     go_wp2_with fail
     go_ret;exact ⟨by rw [HE.out]; rfl,rfl⟩
   · have HE:Hid (cmpI a b=0):=by show _=_; unfold cmpI; rw [if_neg h1,if_neg h2]
     go_enter Tryz.func199,Tryz.ntmps199
     go_wp2_with fail
     refine (Ca.out _).mono ?_;rintro e w1 ⟨rfl,rfl⟩
     go_wp2_with fail
     refine (Cb.out _).mono ?_;rintro e w1 ⟨rfl,rfl⟩
     go_wp2_with fail
     go_ret;exact ⟨by rw [HE.out]; rfl,rfl⟩
theorem Compare_int_c (a b:Int) (w:World):Calls Tryz.prog 202 #[.int .i64 a,.int .i64 b] w fun e w'=>e=.returned (.int .i64 (cmpI a b))∧w'=w:=by
 have Ca:=Lib.hid (isNaN_int_c a);have Cb:=Lib.hid (isNaN_int_c b)
 by_cases h1:a < b
 · have HE:Hid (cmpI a b=-1):=by show _=_; unfold cmpI; rw [if_pos h1]
   go_enter Tryz.func202,Tryz.ntmps202
   go_wp2_with fail
   refine (Ca.out _).mono ?_;rintro e w1 ⟨rfl,rfl⟩
   go_wp2_with fail
   refine (Cb.out _).mono ?_;rintro e w1 ⟨rfl,rfl⟩
   go_wp2_with fail
   go_ret;exact ⟨by rw [HE.out]; rfl,rfl⟩
 · by_cases h2:b < a
   · have HE:Hid (cmpI a b=1):=by show _=_; unfold cmpI; rw [if_neg h1,if_pos h2]
     go_enter Tryz.func202,Tryz.ntmps202
     go_wp2_with fail
     refine (Ca.out _).mono ?_;rintro e w1 ⟨rfl,rfl⟩
     go_wp2_with fail
     refine (Cb.out _).mono ?_;rintro e w1 ⟨rfl,rfl⟩
     go_wp2_with fail
     go_ret;exact ⟨by rw [HE.out]; rfl,rfl⟩
   · have HE:Hid (cmpI a b=0):=by show _=_; unfold cmpI; rw [if_neg h1,if_neg h2]
     go_enter Tryz.func202,Tryz.ntmps202
     go_wp2_with fail
     refine (Ca.out _).mono ?_;rintro e w1 ⟨rfl,rfl⟩
     go_wp2_with fail
     refine (Cb.out _).mono ?_;rintro e w1 ⟨rfl,rfl⟩
     go_wp2_with fail
     go_ret;exact ⟨by rw [HE.out]; rfl,rfl⟩
def orL (l:List Int):Int:=(l.find? (fun x=>x != 0)).getD 0
theorem orL_at {l:List Int} {k:Nat} (hk:k < l.length) (h:∀ j (hj:j < l.length),j < k→l[j]=0) (hn:l[k]≠0):orL l=l[k]:=by
 unfold orL
 induction l generalizing k with
 | nil=>simp at hk
 | cons x r ih =>
   cases k with
   | zero=>simp only [List.getElem_cons_zero] at hn ⊢; rw [List.find?_cons_of_pos (by simpa using hn)]; rfl
   | succ k =>
     have h0:x=0:=h 0 (by simp) (by omega);rw [List.find?_cons_of_neg (by simp [h0])];exact ih (by simpa using hk) (fun j hj hjk=>h (j+1) (by simp; omega) (by omega)) (by simpa using hn)
theorem orL_none {l:List Int} (h:∀ j (hj:j < l.length),l[j]=0):orL l=0:=by
 unfold orL
 induction l with
 | nil=>rfl
 | cons x r ih =>
   have h0:x=0:=h 0 (by simp);rw [List.find?_cons_of_neg (by simp [h0])];exact ih (fun j hj=>h (j+1) (by simp; omega))
theorem OrL_c {g:Nat} {e:TypeId} (l:List Int) (w:World) (h:Row w g e (l.map (.int .i64))) (hl:l.length≤100) :
 Calls Tryz.prog 198 #[.slice (some ⟨g,0,none⟩) l.length l.length] w fun e w'=>e=.returned (.int .i64 (orL l))∧w'=w:=by
 have R:=Lib.hid h;clear h
 go_enter Tryz.func198,Tryz.ntmps198
 go_wp2_with fail
 go_loop [5,8] (fun s i=>∃ k:Nat,k≤l.length∧i=.int .i64 k∧Hid (∀ j (hj:j < l.length),j < k→l[j]=0)) (fun _ i=>l.length - (intOf i).toNat)
 case atStart=>exact ⟨0,Nat.zero_le _,rfl,Lib.hid (fun _ _ h=>by omega)⟩
 case round =>
  obtain ⟨k,hk,rfl,hz⟩:=hrel
  by_cases hlt:k < l.length
  · have g1:(k:Int) < (l.length:Int):=by omega
    have i0:(0:Int)≤(k:Int):=by omega
    have kw:=IntWalk.i64_in ((k:Int)+1) (by omega);have c0:=R.out.cell' (i:=k) (u:=.int .i64 l[k]) (by simp [hlt])
    by_cases hn:l[k]=0
    · have hz':Hid (∀ j (hj:j < l.length),j < k+1→l[j]=0):=Lib.hid (fun j hj h=>by
       by_cases e:j=k
       · subst e; exact hn
       · exact hz.out j hj (by omega))
      rw [hn] at c0;clear hn
      go_wp2_with fail
      go_round
      case rel=>exact ⟨k+1,by omega,by go_num,hz'⟩
      case measure=>simp [intOf]; omega
    · have g0:(l[k] != 0)=true:=by simp [hn]
      have HO:=Lib.hid (orL_at hlt hz.out hn);clear hn
      go_wp2_with fail
      go_ret;exact ⟨by rw [HO.out]; rfl,rfl⟩
  · obtain rfl:k=l.length:=by omega
    have g1:¬ ((l.length:Int) < (l.length:Int)):=by omega
    have HO:=Lib.hid (orL_none (fun j hj=>hz.out j hj hj))
    go_wp2_with fail
    go_ret;exact ⟨by rw [HO.out]; rfl,rfl⟩
end Go.Proofs.YtalmeogjhmblhaaGreat

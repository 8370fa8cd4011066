/- Slices of strings: the law's own eq, mark, held, to, sz. Conditions: none. -/
import Derived.Test.YtalmeogjhmblhaaGreatMarkw
import Derived.Test.YtalmeogjhmblhaaGreatLaww
import Derived.StillTailTactics
import Derived.BigQuiet
import Derived.Deep.QuietTactic
import Derived.Deep.RegionHeld3
namespace Go.Proofs.YtalmeogjhmblhaaGreat
open Go Go.RowKit
set_option maxHeartbeats 8000000
def strs (e:TypeId):Ty (List ByteArray):=str.slice e
theorem strs_open {o:Bool} {w:World} {e:TypeId} {xs:List ByteArray} {v:Value} {F:List Nat} (h:(strs e).rep o w xs [v] F) :
 ∃ A c,v=.slice A xs.length c∧xs.length≤c∧c≤maxLen∧∀ k (hk:k < xs.length),∃ b off,A=some ⟨b,off,none⟩∧b < w.heap.size∧b∈F∧w.cell? ⟨b,off+k,none⟩=some (.string xs[k])∧xs[k].size≤maxLen:=by
 obtain ⟨A,c,hv,h1,h2,h3⟩:=slice_open h;refine ⟨A,c,hv,h1,h2,fun k hk=>?_⟩;obtain ⟨b,off,ck,Fk,hA,hb,hin,hr,_,hc⟩:=h3 k hk;obtain ⟨rfl,rfl,i1⟩:=str_rep.1 hr;have h0:=hc 0 _ rfl;rw [show k * str.size+0=k from Nat.mul_one k] at h0;exact ⟨b,off,hA,hb,hin,h0,i1⟩
theorem strs_ok {o:Bool} {w:World} {e:TypeId} {xs:List ByteArray} {v:Value} {F:List Nat} (h:(strs e).rep o w xs [v] F):∀ s∈xs,s.size≤maxLen:=by
 obtain ⟨_,_,_,_,_,hr⟩:=strs_open h;intro s hs;obtain ⟨k,hk,rfl⟩:=List.getElem_of_mem hs;obtain ⟨_,_,_,_,_,_,h⟩:=hr k hk;exact h
theorem repL_strs {o:Bool} {w:World}:∀ (xs:List ByteArray),(∀ s∈xs,s.size≤maxLen)→repL str o w xs (xs.map .string) []
 | [],_=>⟨rfl,rfl⟩
 | s :: r,h=>⟨[.string s],_,[],[],rfl,rfl,str_rep.2 ⟨rfl,rfl,h s (by simp)⟩,repL_strs r (fun t ht=>h t (by simp [ht]))⟩
theorem str_eq (a b:ByteArray):(a.toList == b.toList)=decide (a=b):=by
 by_cases h:a=b
 · subst h; simp
 · have:¬ a.toList=b.toList:=fun e=>h (by
    rw [ByteArray.toList_eq,ByteArray.toList_eq] at e;obtain ⟨⟨a⟩⟩:=a;obtain ⟨⟨b⟩⟩:=b;simp at e;rw [e])
   simp [h,this]
theorem str_eq_true {a b:ByteArray} (h:(a.toList == b.toList)=true):a=b:=by rw [str_eq] at h; simpa using h
theorem str_ne_true {a b:ByteArray} (h:(!a.toList == b.toList)=false):a=b:=str_eq_true (by simpa using h)
theorem str_ne {a b:ByteArray} (h:(!a.toList == b.toList)=true):¬ a=b:=by
 intro e; subst e; simp at h
theorem below_drewN {B:Nat} {a w:World} (h:Below B a w) (n:Nat):Below B a (w.drewN n):=h.trans ⟨rfl,rfl,rfl,Nat.le_refl _,fun _ _=>rfl⟩
set_option maxRecDepth 100000 in
theorem eqStringS_c {oa ob:Bool} {ea eb:TypeId} {xs ys:List ByteArray} {v u:Value} {F G:List Nat} (w:World) (h:(strs ea).rep oa w xs [v] F) (h':(strs eb).rep ob w ys [u] G) (hx:xs.length≤1048576) (hy:ys.length≤1048576) :
 Calls Tryz.prog 37 #[v,u] w fun e w'=>e=.returned (.bool (decide (xs=ys)))∧Below w.heap.size w w':=by
 obtain ⟨A,c,rfl,hc1,hc2,hr⟩:=strs_open h;obtain ⟨B,d,rfl,hd1,hd2,hs⟩:=strs_open h';clear h h'
 by_cases hl:xs.length=ys.length
 · have hne:((xs.length:Int) != (ys.length:Int))=false:=by simp [hl]
   have HL:=Lib.hid hl;clear hl
   go_enter Tryz.func37,Tryz.ntmps37
   go_wp2_with fail
   go_loopw [5] (fun i wr=>∃ k:Nat,k≤xs.length∧i=.int .i64 k∧(∀ j (hj:j < xs.length) (hj':j < ys.length),j < k→xs[j]=ys[j])∧Below w.heap.size w wr) (fun i _=>xs.length - (intOf i).toNat)
   case atStart=>exact ⟨0,Nat.zero_le _,rfl,fun _ _ _ h=>by omega,Below.refl _ _⟩
   case round =>
    obtain ⟨k,hk,rfl,hall,hb⟩:=hrel;have hbs:=hb.size
    by_cases hlt:k < xs.length
    · have hlt':k < ys.length:=by have:=HL.out; omega
      obtain ⟨b,off,rfl,hbb,_,h0,_⟩:=hr k hlt;obtain ⟨b',off',rfl,hbb',_,h0',_⟩:=hs k hlt';rw [← hb.cell (p:=⟨b,_,none⟩) hbb] at h0;rw [← hb.cell (p:=⟨b',_,none⟩) hbb'] at h0';have HA:=Lib.hid hall;clear hr hs hall
      go_wp2_with fail
      go_quiet (fail)
      go_wp2_with fail
      · go_ret
        have hne:¬ xs=ys:=fun e=>by
         subst e;exact str_ne (by assumption) rfl
        exact ⟨by simp [hne],below_drewN hb nq⟩
      · go_roundw
        case rel =>
         refine ⟨k+1,by omega,by go_num,fun j hj hj' hjk=>?_,below_drewN hb nq⟩
         by_cases e:j=k
         · subst e; exact str_ne_true (by assumption)
         · exact HA.out j hj hj' (by omega)
        case measure=>simp [intOf]; omega
    · obtain rfl:k=xs.length:=by omega
      have heq:xs=ys:=List.ext_getElem HL.out (fun j h1 h2=>hall j h1 h2 h1);clear hall
      go_wp2_with fail
      go_ret;exact ⟨by simp [heq],hb⟩
 · have hne:((xs.length:Int) != (ys.length:Int))=true:=by rw [bne_iff_ne]; omega
   have hxy:¬ xs=ys:=fun e=>hl (by rw [e])
   have HL:=Lib.hid hxy;clear hl hxy
   go_enter Tryz.func37,Tryz.ntmps37
   go_wp2_with fail
   go_ret;exact ⟨by simp [HL.out],Below.refl _ _⟩
def szStrs (xs:List ByteArray):Nat:=xs.length+(xs.map ByteArray.size).sum
theorem szStrs_take (xs:List ByteArray) (k:Nat) (h:k < xs.length):((xs.take (k+1)).map ByteArray.size).sum=((xs.take k).map ByteArray.size).sum+xs[k].size:=by
 rw [List.take_succ_eq_append_getElem h,List.map_append,List.sum_append]; simp
theorem szStringS_c {o:Bool} {e:TypeId} {xs:List ByteArray} {v:Value} {F:List Nat} (w:World) (h:(strs e).rep o w xs [v] F) (left:Int) (hl:0≤left∧left≤1048576) :
 Calls Tryz.prog 25 #[v,.int .i64 left] w fun e w'=>∃ r:Int,e=.returned (.int .i64 r)∧r≤left∧(0≤r→r+szStrs xs≤left)∧w=w':=by
 obtain ⟨A,c,rfl,hc1,hc2,hr⟩:=strs_open h;clear h;unfold maxLen at hc2
 by_cases h0:left - xs.length < 0
 · go_enter Tryz.func25,Tryz.ntmps25
   go_wp2_with fail
   go_ret;exact ⟨-1,rfl,by omega,by omega,rfl⟩
 · have h1:¬ (left - (xs.length:Int) < 0):=h0
   go_enter Tryz.func25,Tryz.ntmps25
   go_wp2_with fail
   go_loopw [1,5] (fun l i wr=>∃ k:Nat,k≤xs.length∧i=.int .i64 k∧(∃ n:Int,0≤n∧n≤left∧Hid (n+xs.length+((xs.take k).map ByteArray.size).sum=left)∧l=.int .i64 n)∧w=wr) (fun _ i _=>xs.length - (intOf i).toNat)
   case atStart=>exact ⟨0,Nat.zero_le _,rfl,⟨left - xs.length,by omega,by omega,by show _=_; simp,rfl⟩,rfl⟩
   case round =>
    obtain ⟨k,hk,rfl,⟨n,hn0,hn1,hn,rfl⟩,rfl⟩:=hrel
    by_cases hlt:k < xs.length
    · obtain ⟨b,off,rfl,hbb,_,hc0,hs⟩:=hr k hlt
      unfold maxLen at hs;have H:=Lib.hid (szStrs_take xs k hlt);clear hr
      go_wp2_with fail
      · go_ret
        exact ⟨-1,rfl,by omega,by omega,rfl⟩
      · go_roundw
        case rel=>exact ⟨k+1,by omega,by go_num,⟨n - xs[k].size,by omega,by omega,by show _=_; have h1:=hn.out; rw [H.out]; omega,rfl⟩,by first | trivial | rfl⟩
        case measure=>simp [intOf]; omega
    · obtain rfl:k=xs.length:=by omega
      clear hr
      go_wp2_with fail
      go_ret;refine ⟨n,rfl,by omega,fun _=>?_,rfl⟩;have h1:=hn.out;rw [List.take_length] at h1;unfold szStrs;omega
theorem toStringS_c {o:Bool} {e:TypeId} {xs:List ByteArray} {v:Value} {F:List Nat} (w:World) (h:(strs e).rep o w xs [v] F) (hx:xs.length≤1048576) :
 Calls Tryz.prog 31 #[v] w fun e w'=>∃ u G,e=.returned u∧(strs 9).rep true w' xs [u] G∧Fresh w.heap.size G∧Below w.heap.size w w':=by
 have hok:=strs_ok h;obtain ⟨A,c,rfl,hc1,hc2,hr⟩:=strs_open h;have hmk:=make_run (P:=Tryz.prog) (t:=39) (e:=9) (z:=.string .empty) (size:=1) (bytes:=16) Tryz.underlying39 (by kernel_rfl) xs.length xs.length rfl (by omega) (by unfold maxLen; omega)
 go_enter Tryz.func31,Tryz.ntmps31
 go_wp2_with fail
 go_loopw [4] (fun i wr=>∃ k:Nat,k≤xs.length∧i=.int .i64 k∧∃ rest,Row wr w.heap.size 9 ((xs.take k).map Value.string++rest)∧rest.length=xs.length - k∧Below w.heap.size w wr) (fun i _=>xs.length - (intOf i).toNat)
 case atStart =>
  exact ⟨0,Nat.zero_le _,rfl,_,Row.new w _ _,by simp [madeCells],(Below.refl _ _).alloc (Nat.le_refl _) _⟩
 case round =>
  obtain ⟨k,hk,rfl,rest,hrow,hrl,hb⟩:=hrel
  by_cases hlt:k < xs.length
  · obtain ⟨b,off,rfl,hbb,_,h0,_⟩:=hr k hlt
    rw [← hb.cell (p:=⟨b,_,none⟩) hbb] at h0;have hbs:=hb.size;have hrl2:=hrow.lt;have hpl:((xs.take k).map Value.string).length=k:=by rw [List.length_map,List.length_take]; omega
    obtain ⟨r0,rest',rfl⟩:∃ r0 rest',rest=r0 :: rest':=by
     match rest,hrl with
     | r0 :: rest',_=>exact ⟨_,_,rfl⟩
     | [],h=>simp at h; omega
    clear hr h hmk;obtain ⟨⟨v0,hv0⟩,hf0⟩:=hrow.can (i:=k) (by rw [List.length_append,hpl]; simp);have HR:=Lib.hid hrow;clear hrow
    go_wp2_with fail
    go_roundw
    case rel =>
     refine ⟨k+1,by omega,by go_num,rest',?_,by simp at hrl; omega,hb.setCell (Nat.le_refl _) _⟩;have R:=HR.out.put (j:=0) (i:=k) (by rw [hpl]; rfl) (.string xs[k]);rw [List.take_succ_eq_append_getElem hlt,List.map_append,List.append_assoc];exact R
    case measure=>simp [intOf]; omega
  · obtain rfl:k=xs.length:=by omega
    go_wp2_with fail
    go_ret;have h0:rest=[]:=List.eq_nil_of_length_eq_zero (by simpa using hrl);subst h0;rw [List.append_nil,List.take_length] at hrow;exact ⟨_,[w.heap.size],rfl,slice_of_row hrow (repL_strs xs hok) (by unfold maxLen; omega),⟨by simp,by simp⟩,hb⟩
end Go.Proofs.YtalmeogjhmblhaaGreat

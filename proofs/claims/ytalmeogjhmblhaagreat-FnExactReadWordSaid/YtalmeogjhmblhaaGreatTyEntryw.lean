/- The type Entry: its data, how it lies in memory, and the law's own helpers over it. Conditions: none. -/
import Derived.Test.YtalmeogjhmblhaaGreatRows
import Derived.Test.YtalmeogjhmblhaaGreatStrSw
import Derived.Test.YtalmeogjhmblhaaGreatTyTempw
import Derived.Test.YtalmeogjhmblhaaGreatTyStepw
import Derived.Laws.StructEq
import Derived.Test.YtalmeogjhmblhaaGreatTkw
import Derived.Test.YtalmeogjhmblhaaGreatInkBw
import Derived.Deep.RegionHeld3
namespace Go.Proofs.YtalmeogjhmblhaaGreat
open Go Go.RowKit
set_option maxHeartbeats 8000000
set_option maxRecDepth 100000
structure PEntry where
 word:ByteArray
 cost:Int
 deriving DecidableEq
def pEntry:Ty PEntry:=(str.prod int64).via fun s=>(s.word,s.cost)
theorem pEntry_rep {o:Bool} {w:World} {s:PEntry} {cs:List Value} {F:List Nat}:pEntry.rep o w s cs F↔cs=[.string s.word,.int .i64 s.cost]∧F=[]∧s.word.size≤maxLen∧I64 s.cost:=by
 constructor
 · rintro ⟨_,_,_,_,rfl,rfl,⟨rfl,rfl,h0⟩,⟨rfl,rfl,h1⟩⟩
   exact ⟨rfl,rfl,h0,h1⟩
 · rintro ⟨rfl,rfl,h0,h1⟩
   exact ⟨_,_,[],[],rfl,rfl,⟨rfl,rfl,h0⟩,⟨rfl,rfl,h1⟩⟩
def pEntrys (e:TypeId):Ty (List PEntry):=pEntry.slice e
theorem pEntrys_open {o:Bool} {w:World} {e:TypeId} {xs:List PEntry} {v:Value} {F:List Nat} (h:(pEntrys e).rep o w xs [v] F) :
 ∃ A c,v=.slice A xs.length c∧xs.length≤c∧c≤maxLen∧∀ k (hk:k < xs.length),∃ b off,A=some ⟨b,off,none⟩∧b < w.heap.size∧b∈F ∧
  w.cell? ⟨b,off+k * 2,none⟩=some (.string xs[k].word)∧w.cell? ⟨b,off+k * 2+1,none⟩=some (.int .i64 xs[k].cost)∧xs[k].word.size≤maxLen∧I64 xs[k].cost:=by
 obtain ⟨A,c,hv,h1,h2,h3⟩:=slice_open h;refine ⟨A,c,hv,h1,h2,fun k hk=>?_⟩;obtain ⟨b,off,ck,Fk,hA,hb,hin,hr,_,hc⟩:=h3 k hk;obtain ⟨rfl,rfl,i0,i1⟩:=pEntry_rep.1 hr;exact ⟨b,off,hA,hb,hin,hc 0 _ rfl,by rw [Nat.add_assoc]; exact hc 1 _ rfl,i0,i1⟩
def pEntryCells (s:PEntry):List Value:=[.string s.word,.int .i64 s.cost]
def pEntryOk (s:PEntry):Prop:=s.word.size≤maxLen∧I64 s.cost
theorem pEntryCells_len (xs:List PEntry):(xs.flatMap pEntryCells).length=xs.length * 2:=by
 induction xs with
 | nil=>rfl
 | cons a r ih=>simp only [List.flatMap_cons,List.length_append,ih,List.length_cons]; simp [pEntryCells]; omega
theorem repL_pEntry {o:Bool} {w:World}:∀ (xs:List PEntry),(∀ s∈xs,pEntryOk s)→repL pEntry o w xs (xs.flatMap pEntryCells) []
 | [],_=>⟨rfl,rfl⟩
 | s :: r,h=>⟨_,_,[],[],rfl,rfl,pEntry_rep.2 ⟨rfl,rfl,h s (by simp)⟩,repL_pEntry r (fun t ht=>h t (by simp [ht]))⟩
theorem pEntrys_ok {o:Bool} {w:World} {e:TypeId} {xs:List PEntry} {v:Value} {F:List Nat} (h:(pEntrys e).rep o w xs [v] F):∀ s∈xs,pEntryOk s:=by
 obtain ⟨_,_,_,_,_,hr⟩:=pEntrys_open h;intro s hs;obtain ⟨k,hk,rfl⟩:=List.getElem_of_mem hs;obtain ⟨_,_,_,_,_,_,_,h⟩:=hr k hk;exact h
theorem toEntry_c (s:PEntry) (w:World) :
 Calls Tryz.prog 184 #[.agg #[.string s.word,.int .i64 s.cost]] w fun e w'=>e=.returned (.agg #[.string s.word,.int .i64 s.cost])∧Below w.heap.size w w':=by
 go_enter Tryz.func184,Tryz.ntmps184
 go_wp2_with fail
 refine bodyPost_ret (v:=.agg #[.string s.word,.int .i64 s.cost]) (by simp [results,Tryz.results184,go_sem]) rfl ⟨rfl,?_⟩;exact (((Below.refl _ _).alloc (Nat.le_refl _) _).alloc (by simp) _).alloc (by simp; omega) _
theorem toEntryS_c {o:Bool} {e:TypeId} {xs:List PEntry} {v:Value} {F:List Nat} (w:World) (h:(pEntrys e).rep o w xs [v] F) (hx:xs.length≤1048576) :
 Calls Tryz.prog 131 #[v] w fun e w'=>∃ u G,e=.returned u∧(pEntrys 209).rep true w' xs [u] G∧Fresh w.heap.size G∧Below w.heap.size w w':=by
 have hok:=pEntrys_ok h;obtain ⟨A,c,rfl,hc1,hc2,hr⟩:=pEntrys_open h;have hmk:=make_run (P:=Tryz.prog) (t:=49) (e:=209) (z:=.agg #[.string .empty,.int .i64 0]) (size:=2) (bytes:=24) Tryz.underlying49 (by kernel_rfl) xs.length xs.length rfl (by omega) (by unfold maxLen; omega)
 go_enter Tryz.func131,Tryz.ntmps131
 go_wp2_with fail
 go_loopw [4] (fun i wr=>∃ k:Nat,k≤xs.length∧i=.int .i64 k∧∃ rest,Row wr w.heap.size 209 ((xs.take k).flatMap pEntryCells++rest)∧rest.length=(xs.length - k) * 2∧Below w.heap.size w wr) (fun i _=>xs.length - (intOf i).toNat)
 case atStart =>
  exact ⟨0,Nat.zero_le _,rfl,_,Row.new w _ _,by simp [madeCells],(Below.refl _ _).alloc (Nat.le_refl _) _⟩
 case round =>
  obtain ⟨k,hk,rfl,rest,hrow,hrl,hb⟩:=hrel
  by_cases hlt:k < xs.length
  · obtain ⟨b,off,rfl,hbb,_,h0,h1,_⟩:=hr k hlt
    rw [← hb.cell (p:=⟨b,_,none⟩) hbb] at h0 h1;have hbs:=hb.size;have hrl2:=hrow.lt;have hpl:((xs.take k).flatMap pEntryCells).length=k * 2:=by rw [pEntryCells_len,List.length_take]; omega
    obtain ⟨r0,r1,rest',rfl⟩:∃ r0 r1 rest',rest=r0 :: r1 :: rest':=by
     match rest,hrl with
     | r0 :: r1 :: rest',_=>exact ⟨_,_,_,rfl⟩
     | [],h=>simp at h; omega
     | [_],h=>simp at h; omega
    clear hr h hmk
    go_wp2_with (go_at_call 184; refine (toEntry_c xs[k] _).mono ?_; rintro e w1 ⟨rfl,hb1⟩; have hrow1:=hrow.later hb1; obtain ⟨⟨v0,hv0⟩,hf0⟩:=hrow1.can (i:=k * 2) (by simp [hpl]); obtain ⟨⟨v1,hv1⟩,hf1⟩:=hrow1.can (i:=k * 2+1) (by simp [hpl]))
    go_roundw
    case rel =>
     refine ⟨k+1,by omega,by go_num,rest',?_,by simp at hrl; omega,(((hb.trans (hb1.mono hbs)).setCell (Nat.le_refl _) _).setCell (Nat.le_refl _) _)⟩;have R:=((hrow1.put (j:=0) (i:=k * 2) (by rw [hpl]; rfl) (.string xs[k].word)).put (j:=1) (i:=k * 2+1) (by rw [hpl]) (.int .i64 xs[k].cost))
     rw [List.take_succ_eq_append_getElem hlt,List.flatMap_append,List.append_assoc];exact R
    case measure=>simp [intOf]; omega
  · obtain rfl:k=xs.length:=by omega
    go_wp2_with fail
    go_ret;have h0:rest=[]:=List.eq_nil_of_length_eq_zero (by simpa using hrl);subst h0;rw [List.append_nil,List.take_length] at hrow;exact ⟨_,[w.heap.size],rfl,slice_of_row hrow (repL_pEntry xs hok) (by unfold maxLen; omega),⟨by simp,by simp⟩,hb⟩
theorem eqEntry_c (s t:PEntry) (w:World) :
 Calls Tryz.prog 204 #[.agg #[.string s.word,.int .i64 s.cost],.agg #[.string t.word,.int .i64 t.cost]] w fun e w'=>e=.returned (.bool (decide (s=t)))∧Below w.heap.size w w':=by
 have e:decide (s=t)=decide (s.word=t.word∧s.cost=t.cost):=by apply decide_eq_decide.2; cases s; cases t; simp
 rw [e];clear e
 go_enter Tryz.func204,Tryz.ntmps204
 go_wp2_with fail
 all_goals go_ret
 all_goals refine ⟨?_,((Below.refl _ _).alloc (Nat.le_refl _) _).alloc (by simp) _⟩
 all_goals simp_all [str_eq]
theorem eqEntryS_c {oa ob:Bool} {ea eb:TypeId} {xs ys:List PEntry} {v u:Value} {F G:List Nat} (w:World) (h:(pEntrys ea).rep oa w xs [v] F) (h':(pEntrys eb).rep ob w ys [u] G) (hx:xs.length≤1048576) (hy:ys.length≤1048576) :
 Calls Tryz.prog 152 #[v,u] w fun e w'=>e=.returned (.bool (decide (xs=ys)))∧Below w.heap.size w w':=by
 obtain ⟨A,c,rfl,hc1,hc2,hr⟩:=pEntrys_open h;obtain ⟨B,d,rfl,hd1,hd2,hs⟩:=pEntrys_open h';clear h h'
 by_cases hl:xs.length=ys.length
 · have hne:((xs.length:Int) != (ys.length:Int))=false:=by simp [hl]
   have HL:=Lib.hid hl;clear hl
   go_enter Tryz.func152,Tryz.ntmps152
   go_wp2_with fail
   go_loopw [5] (fun i wr=>∃ k:Nat,k≤xs.length∧i=.int .i64 k∧(∀ j (hj:j < xs.length) (hj':j < ys.length),j < k→xs[j]=ys[j])∧Below w.heap.size w wr) (fun i _=>xs.length - (intOf i).toNat)
   case atStart=>exact ⟨0,Nat.zero_le _,rfl,fun _ _ _ h=>by omega,Below.refl _ _⟩
   case round =>
    obtain ⟨k,hk,rfl,hall,hb⟩:=hrel;have hbs:=hb.size
    by_cases hlt:k < xs.length
    · have hlt':k < ys.length:=by have:=HL.out; omega
      obtain ⟨b,off,rfl,hbb,_,h0,h1,_⟩:=hr k hlt;obtain ⟨b',off',rfl,hbb',_,g0,g1,_⟩:=hs k hlt';rw [← hb.cell (p:=⟨b,_,none⟩) hbb] at h0 h1;rw [← hb.cell (p:=⟨b',_,none⟩) hbb'] at g0 g1;have HA:=Lib.hid hall;clear hr hs hall;have C:=eqEntry_c xs[k] ys[k]
      by_cases hkk:xs[k]=ys[k]
      · rw [decide_eq_true hkk] at C
        have HC:=Lib.hid C;have HK:=Lib.hid hkk;clear C hkk
        go_wp2_with fail
        go_still_tail 8,(by kernel_rfl)
        go_wp2_with (go_at_call 204; refine (HC.out _).mono ?_; rintro e w1 ⟨rfl,hb1⟩)
        go_roundw
        case rel =>
         refine ⟨k+1,by omega,by go_num,fun j hj hj' hjk=>?_,hb.drew.trans (hb1.mono hbs)⟩
         by_cases e:j=k
         · subst e; exact HK.out
         · exact HA.out j hj hj' (by omega)
        case measure=>simp [intOf]; omega
      · rw [decide_eq_false hkk] at C
        have HC:=Lib.hid C;have HK:=Lib.hid hkk;clear C hkk
        go_wp2_with fail
        go_still_tail 8,(by kernel_rfl)
        go_wp2_with (go_at_call 204; refine (HC.out _).mono ?_; rintro e w1 ⟨rfl,hb1⟩)
        go_ret;have hne:¬ xs=ys:=fun e=>by subst e; exact HK.out rfl
        exact ⟨by simp [hne],hb.drew.trans (hb1.mono hbs)⟩
    · obtain rfl:k=xs.length:=by omega
      have heq:xs=ys:=List.ext_getElem HL.out (fun j h1 h2=>hall j h1 h2 h1);clear hall
      go_wp2_with fail
      go_ret;exact ⟨by simp [heq],hb⟩
 · have hne:((xs.length:Int) != (ys.length:Int))=true:=by rw [bne_iff_ne]; omega
   have hxy:¬ xs=ys:=fun e=>hl (by rw [e])
   have HL:=Lib.hid hxy;clear hl hxy
   go_enter Tryz.func152,Tryz.ntmps152
   go_wp2_with fail
   go_ret;exact ⟨by simp [HL.out],Below.refl _ _⟩
def pEntryW (s:PEntry):Nat:=s.word.size
theorem szEntry_c (s:PEntry) (left:Int) (w:World) (hs:pEntryOk s) (hl:0≤left∧left≤1048576) :
 Calls Tryz.prog 169 #[.agg #[.string s.word,.int .i64 s.cost],.int .i64 left] w fun e w'=>(∃ r:Int,e=.returned (.int .i64 r)∧-1≤r∧r≤left∧(0≤r→r+pEntryW s≤left))∧Below w.heap.size w w':=by
 obtain ⟨h0,h1⟩:=hs;simp only [maxLen,I64] at *
 go_enter Tryz.func169,Tryz.ntmps169
 go_wp2_with fail
 all_goals go_ret
 all_goals refine ⟨⟨_,rfl,?_⟩,((Below.refl _ _).alloc (Nat.le_refl _) _)⟩
 all_goals (simp only [pEntryW]; omega)
def szpEntry (xs:List PEntry):Nat:=xs.length+(xs.map pEntryW).sum
theorem szpEntry_take (xs:List PEntry) (k:Nat) (h:k < xs.length):((xs.take (k+1)).map pEntryW).sum=((xs.take k).map pEntryW).sum+pEntryW xs[k]:=by
 rw [List.take_succ_eq_append_getElem h,List.map_append,List.sum_append]; simp
theorem szEntryS_c {o:Bool} {e:TypeId} {xs:List PEntry} {v:Value} {F:List Nat} (w:World) (h:(pEntrys e).rep o w xs [v] F) (left:Int) (hl:0≤left∧left≤1048576) :
 Calls Tryz.prog 116 #[v,.int .i64 left] w fun e w'=>(∃ r:Int,e=.returned (.int .i64 r)∧-1≤r∧r≤left∧(0≤r→r+szpEntry xs≤left))∧Below w.heap.size w w':=by
 have hok:=pEntrys_ok h;obtain ⟨A,c,rfl,hc1,hc2,hr⟩:=pEntrys_open h;clear h;unfold maxLen at hc2
 by_cases h0:left - xs.length < 0
 · go_enter Tryz.func116,Tryz.ntmps116
   go_wp2_with fail
   go_ret;exact ⟨⟨-1,rfl,by omega,by omega,by omega⟩,Below.refl _ _⟩
 · have h1:¬ (left - (xs.length:Int) < 0):=h0
   go_enter Tryz.func116,Tryz.ntmps116
   go_wp2_with fail
   go_loopw [1,5] (fun l i wr=>∃ k:Nat,k≤xs.length∧i=.int .i64 k∧(∃ n:Int,0≤n∧n≤left∧Hid (n+xs.length+((xs.take k).map pEntryW).sum≤left)∧l=.int .i64 n)∧Below w.heap.size w wr) (fun _ i _=>xs.length - (intOf i).toNat)
   case atStart=>exact ⟨0,Nat.zero_le _,rfl,⟨left - xs.length,by omega,by omega,by show _≤_; simp,rfl⟩,Below.refl _ _⟩
   case round =>
    obtain ⟨k,hk,rfl,⟨n,hn0,hn1,hn,rfl⟩,hb⟩:=hrel;have hbs:=hb.size
    by_cases hlt:k < xs.length
    · obtain ⟨b,off,rfl,hbb,_,h0,h1,_⟩:=hr k hlt
      rw [← hb.cell (p:=⟨b,_,none⟩) hbb] at h0 h1;have H:=Lib.hid (szpEntry_take xs k hlt);have HO:=Lib.hid (hok _ (List.getElem_mem hlt));clear hr hok
      go_wp2_with fail
      refine (szEntry_c xs[k] n _ HO.out ⟨hn0,by omega⟩).mono ?_;rintro e w1 ⟨⟨r,rfl,hr0,hr1,hr2⟩,hb1⟩
      by_cases hneg:r < 0
      · go_wp2_with fail
        go_ret;exact ⟨⟨-1,rfl,by omega,by omega,by omega⟩,hb.trans (hb1.mono hbs)⟩
      · have hpos:¬ (r < 0):=hneg
        have HR:=Lib.hid (hr2 (by omega));clear hr2
        go_wp2_with fail
        go_roundw
        case rel=>exact ⟨k+1,by omega,by go_num,⟨r,by omega,by omega,(by show _≤_; have h1:=hn.out; have h2:=HR.out; rw [H.out]; omega),rfl⟩,hb.trans (hb1.mono hbs)⟩
        case measure=>simp [intOf]; omega
    · obtain rfl:k=xs.length:=by omega
      clear hr hok
      go_wp2_with fail
      go_ret;refine ⟨⟨n,rfl,by omega,by omega,fun _=>?_⟩,hb⟩;have h1:=hn.out;rw [List.take_length] at h1;unfold szpEntry;omega
structure PBigram where
 first:ByteArray
 second:ByteArray
 cost:Int
 deriving DecidableEq
def pBigram:Ty PBigram:=(str.prod (str.prod int64)).via fun s=>(s.first,s.second,s.cost)
theorem pBigram_rep {o:Bool} {w:World} {s:PBigram} {cs:List Value} {F:List Nat}:pBigram.rep o w s cs F↔cs=[.string s.first,.string s.second,.int .i64 s.cost]∧F=[]∧s.first.size≤maxLen∧s.second.size≤maxLen∧I64 s.cost:=by
 constructor
 · rintro ⟨_,_,_,_,rfl,rfl,⟨rfl,rfl,h0⟩,⟨_,_,_,_,rfl,rfl,⟨rfl,rfl,h1⟩,⟨rfl,rfl,h2⟩⟩⟩
   exact ⟨rfl,rfl,h0,h1,h2⟩
 · rintro ⟨rfl,rfl,h0,h1,h2⟩
   exact ⟨_,_,[],[],rfl,rfl,⟨rfl,rfl,h0⟩,⟨_,_,[],[],rfl,rfl,⟨rfl,rfl,h1⟩,⟨rfl,rfl,h2⟩⟩⟩
def pBigrams (e:TypeId):Ty (List PBigram):=pBigram.slice e
theorem pBigrams_open {o:Bool} {w:World} {e:TypeId} {xs:List PBigram} {v:Value} {F:List Nat} (h:(pBigrams e).rep o w xs [v] F) :
 ∃ A c,v=.slice A xs.length c∧xs.length≤c∧c≤maxLen∧∀ k (hk:k < xs.length),∃ b off,A=some ⟨b,off,none⟩∧b < w.heap.size∧b∈F ∧
  w.cell? ⟨b,off+k * 3,none⟩=some (.string xs[k].first)∧w.cell? ⟨b,off+k * 3+1,none⟩=some (.string xs[k].second)∧w.cell? ⟨b,off+k * 3+2,none⟩=some (.int .i64 xs[k].cost)∧xs[k].first.size≤maxLen∧xs[k].second.size≤maxLen∧I64 xs[k].cost:=by
 obtain ⟨A,c,hv,h1,h2,h3⟩:=slice_open h;refine ⟨A,c,hv,h1,h2,fun k hk=>?_⟩;obtain ⟨b,off,ck,Fk,hA,hb,hin,hr,_,hc⟩:=h3 k hk;obtain ⟨rfl,rfl,i0,i1,i2⟩:=pBigram_rep.1 hr;exact ⟨b,off,hA,hb,hin,hc 0 _ rfl,by rw [Nat.add_assoc]; exact hc 1 _ rfl,by rw [Nat.add_assoc]; exact hc 2 _ rfl,i0,i1,i2⟩
def pBigramCells (s:PBigram):List Value:=[.string s.first,.string s.second,.int .i64 s.cost]
def pBigramOk (s:PBigram):Prop:=s.first.size≤maxLen∧s.second.size≤maxLen∧I64 s.cost
theorem pBigramCells_len (xs:List PBigram):(xs.flatMap pBigramCells).length=xs.length * 3:=by
 induction xs with
 | nil=>rfl
 | cons a r ih=>simp only [List.flatMap_cons,List.length_append,ih,List.length_cons]; simp [pBigramCells]; omega
theorem repL_pBigram {o:Bool} {w:World}:∀ (xs:List PBigram),(∀ s∈xs,pBigramOk s)→repL pBigram o w xs (xs.flatMap pBigramCells) []
 | [],_=>⟨rfl,rfl⟩
 | s :: r,h=>⟨_,_,[],[],rfl,rfl,pBigram_rep.2 ⟨rfl,rfl,h s (by simp)⟩,repL_pBigram r (fun t ht=>h t (by simp [ht]))⟩
theorem pBigrams_ok {o:Bool} {w:World} {e:TypeId} {xs:List PBigram} {v:Value} {F:List Nat} (h:(pBigrams e).rep o w xs [v] F):∀ s∈xs,pBigramOk s:=by
 obtain ⟨_,_,_,_,_,hr⟩:=pBigrams_open h;intro s hs;obtain ⟨k,hk,rfl⟩:=List.getElem_of_mem hs;obtain ⟨_,_,_,_,_,_,_,_,h⟩:=hr k hk;exact h
theorem toBigram_c (s:PBigram) (w:World) :
 Calls Tryz.prog 185 #[.agg #[.string s.first,.string s.second,.int .i64 s.cost]] w fun e w'=>e=.returned (.agg #[.string s.first,.string s.second,.int .i64 s.cost])∧Below w.heap.size w w':=by
 go_enter Tryz.func185,Tryz.ntmps185
 go_wp2_with fail
 refine bodyPost_ret (v:=.agg #[.string s.first,.string s.second,.int .i64 s.cost]) (by simp [results,Tryz.results185,go_sem]) rfl ⟨rfl,?_⟩;exact (((Below.refl _ _).alloc (Nat.le_refl _) _).alloc (by simp) _).alloc (by simp; omega) _
theorem toBigramS_c {o:Bool} {e:TypeId} {xs:List PBigram} {v:Value} {F:List Nat} (w:World) (h:(pBigrams e).rep o w xs [v] F) (hx:xs.length≤1048576) :
 Calls Tryz.prog 132 #[v] w fun e w'=>∃ u G,e=.returned u∧(pBigrams 212).rep true w' xs [u] G∧Fresh w.heap.size G∧Below w.heap.size w w':=by
 have hok:=pBigrams_ok h;obtain ⟨A,c,rfl,hc1,hc2,hr⟩:=pBigrams_open h;have hmk:=make_run (P:=Tryz.prog) (t:=52) (e:=212) (z:=.agg #[.string .empty,.string .empty,.int .i64 0]) (size:=3) (bytes:=40) Tryz.underlying52 (by kernel_rfl) xs.length xs.length rfl (by omega) (by unfold maxLen; omega)
 go_enter Tryz.func132,Tryz.ntmps132
 go_wp2_with fail
 go_loopw [4] (fun i wr=>∃ k:Nat,k≤xs.length∧i=.int .i64 k∧∃ rest,Row wr w.heap.size 212 ((xs.take k).flatMap pBigramCells++rest)∧rest.length=(xs.length - k) * 3∧Below w.heap.size w wr) (fun i _=>xs.length - (intOf i).toNat)
 case atStart =>
  exact ⟨0,Nat.zero_le _,rfl,_,Row.new w _ _,by simp [madeCells],(Below.refl _ _).alloc (Nat.le_refl _) _⟩
 case round =>
  obtain ⟨k,hk,rfl,rest,hrow,hrl,hb⟩:=hrel
  by_cases hlt:k < xs.length
  · obtain ⟨b,off,rfl,hbb,_,h0,h1,h2,_⟩:=hr k hlt
    rw [← hb.cell (p:=⟨b,_,none⟩) hbb] at h0 h1 h2;have hbs:=hb.size;have hrl2:=hrow.lt;have hpl:((xs.take k).flatMap pBigramCells).length=k * 3:=by rw [pBigramCells_len,List.length_take]; omega
    obtain ⟨r0,r1,r2,rest',rfl⟩:∃ r0 r1 r2 rest',rest=r0 :: r1 :: r2 :: rest':=by
     match rest,hrl with
     | r0 :: r1 :: r2 :: rest',_=>exact ⟨_,_,_,_,rfl⟩
     | [],h=>simp at h; omega
     | [_],h=>simp at h; omega
     | [_,_],h=>simp at h; omega
    clear hr h hmk
    go_wp2_with (go_at_call 185; refine (toBigram_c xs[k] _).mono ?_; rintro e w1 ⟨rfl,hb1⟩; have hrow1:=hrow.later hb1; obtain ⟨⟨v0,hv0⟩,hf0⟩:=hrow1.can (i:=k * 3) (by simp [hpl]); obtain ⟨⟨v1,hv1⟩,hf1⟩:=hrow1.can (i:=k * 3+1) (by simp [hpl]); obtain ⟨⟨v2,hv2⟩,hf2⟩:=hrow1.can (i:=k * 3+2) (by simp [hpl]))
    go_roundw
    case rel =>
     refine ⟨k+1,by omega,by go_num,rest',?_,by simp at hrl; omega,((((hb.trans (hb1.mono hbs)).setCell (Nat.le_refl _) _).setCell (Nat.le_refl _) _).setCell (Nat.le_refl _) _)⟩;have R:=(((hrow1.put (j:=0) (i:=k * 3) (by rw [hpl]; rfl) (.string xs[k].first)).put (j:=1) (i:=k * 3+1) (by rw [hpl]) (.string xs[k].second)).put (j:=2) (i:=k * 3+2) (by rw [hpl]) (.int .i64 xs[k].cost))
     rw [List.take_succ_eq_append_getElem hlt,List.flatMap_append,List.append_assoc];exact R
    case measure=>simp [intOf]; omega
  · obtain rfl:k=xs.length:=by omega
    go_wp2_with fail
    go_ret;have h0:rest=[]:=List.eq_nil_of_length_eq_zero (by simpa using hrl);subst h0;rw [List.append_nil,List.take_length] at hrow;exact ⟨_,[w.heap.size],rfl,slice_of_row hrow (repL_pBigram xs hok) (by unfold maxLen; omega),⟨by simp,by simp⟩,hb⟩
theorem eqBigram_c (s t:PBigram) (w:World) :
 Calls Tryz.prog 205 #[.agg #[.string s.first,.string s.second,.int .i64 s.cost],.agg #[.string t.first,.string t.second,.int .i64 t.cost]] w fun e w'=>e=.returned (.bool (decide (s=t)))∧Below w.heap.size w w':=by
 have e:decide (s=t)=decide (s.first=t.first∧s.second=t.second∧s.cost=t.cost):=by apply decide_eq_decide.2; cases s; cases t; simp
 rw [e];clear e
 go_enter Tryz.func205,Tryz.ntmps205
 go_wp2_with fail
 all_goals go_ret
 all_goals refine ⟨?_,((Below.refl _ _).alloc (Nat.le_refl _) _).alloc (by simp) _⟩
 all_goals simp_all [str_eq]
theorem eqBigramS_c {oa ob:Bool} {ea eb:TypeId} {xs ys:List PBigram} {v u:Value} {F G:List Nat} (w:World) (h:(pBigrams ea).rep oa w xs [v] F) (h':(pBigrams eb).rep ob w ys [u] G) (hx:xs.length≤1048576) (hy:ys.length≤1048576) :
 Calls Tryz.prog 153 #[v,u] w fun e w'=>e=.returned (.bool (decide (xs=ys)))∧Below w.heap.size w w':=by
 obtain ⟨A,c,rfl,hc1,hc2,hr⟩:=pBigrams_open h;obtain ⟨B,d,rfl,hd1,hd2,hs⟩:=pBigrams_open h';clear h h'
 by_cases hl:xs.length=ys.length
 · have hne:((xs.length:Int) != (ys.length:Int))=false:=by simp [hl]
   have HL:=Lib.hid hl;clear hl
   go_enter Tryz.func153,Tryz.ntmps153
   go_wp2_with fail
   go_loopw [5] (fun i wr=>∃ k:Nat,k≤xs.length∧i=.int .i64 k∧(∀ j (hj:j < xs.length) (hj':j < ys.length),j < k→xs[j]=ys[j])∧Below w.heap.size w wr) (fun i _=>xs.length - (intOf i).toNat)
   case atStart=>exact ⟨0,Nat.zero_le _,rfl,fun _ _ _ h=>by omega,Below.refl _ _⟩
   case round =>
    obtain ⟨k,hk,rfl,hall,hb⟩:=hrel;have hbs:=hb.size
    by_cases hlt:k < xs.length
    · have hlt':k < ys.length:=by have:=HL.out; omega
      obtain ⟨b,off,rfl,hbb,_,h0,h1,h2,_⟩:=hr k hlt;obtain ⟨b',off',rfl,hbb',_,g0,g1,g2,_⟩:=hs k hlt';rw [← hb.cell (p:=⟨b,_,none⟩) hbb] at h0 h1 h2;rw [← hb.cell (p:=⟨b',_,none⟩) hbb'] at g0 g1 g2;have HA:=Lib.hid hall;clear hr hs hall;have C:=eqBigram_c xs[k] ys[k]
      by_cases hkk:xs[k]=ys[k]
      · rw [decide_eq_true hkk] at C
        have HC:=Lib.hid C;have HK:=Lib.hid hkk;clear C hkk
        go_wp2_with fail
        go_still_tail 8,(by kernel_rfl)
        go_wp2_with (go_at_call 205; refine (HC.out _).mono ?_; rintro e w1 ⟨rfl,hb1⟩)
        go_roundw
        case rel =>
         refine ⟨k+1,by omega,by go_num,fun j hj hj' hjk=>?_,hb.drew.trans (hb1.mono hbs)⟩
         by_cases e:j=k
         · subst e; exact HK.out
         · exact HA.out j hj hj' (by omega)
        case measure=>simp [intOf]; omega
      · rw [decide_eq_false hkk] at C
        have HC:=Lib.hid C;have HK:=Lib.hid hkk;clear C hkk
        go_wp2_with fail
        go_still_tail 8,(by kernel_rfl)
        go_wp2_with (go_at_call 205; refine (HC.out _).mono ?_; rintro e w1 ⟨rfl,hb1⟩)
        go_ret;have hne:¬ xs=ys:=fun e=>by subst e; exact HK.out rfl
        exact ⟨by simp [hne],hb.drew.trans (hb1.mono hbs)⟩
    · obtain rfl:k=xs.length:=by omega
      have heq:xs=ys:=List.ext_getElem HL.out (fun j h1 h2=>hall j h1 h2 h1);clear hall
      go_wp2_with fail
      go_ret;exact ⟨by simp [heq],hb⟩
 · have hne:((xs.length:Int) != (ys.length:Int))=true:=by rw [bne_iff_ne]; omega
   have hxy:¬ xs=ys:=fun e=>hl (by rw [e])
   have HL:=Lib.hid hxy;clear hl hxy
   go_enter Tryz.func153,Tryz.ntmps153
   go_wp2_with fail
   go_ret;exact ⟨by simp [HL.out],Below.refl _ _⟩
def pBigramW (s:PBigram):Nat:=s.first.size+s.second.size
theorem szBigram_c (s:PBigram) (left:Int) (w:World) (hs:pBigramOk s) (hl:0≤left∧left≤1048576) :
 Calls Tryz.prog 170 #[.agg #[.string s.first,.string s.second,.int .i64 s.cost],.int .i64 left] w fun e w'=>(∃ r:Int,e=.returned (.int .i64 r)∧-1≤r∧r≤left∧(0≤r→r+pBigramW s≤left))∧Below w.heap.size w w':=by
 obtain ⟨h0,h1,h2⟩:=hs;simp only [maxLen,I64] at *
 go_enter Tryz.func170,Tryz.ntmps170
 go_wp2_with fail
 all_goals go_ret
 all_goals refine ⟨⟨_,rfl,?_⟩,((Below.refl _ _).alloc (Nat.le_refl _) _)⟩
 all_goals (simp only [pBigramW]; omega)
def szpBigram (xs:List PBigram):Nat:=xs.length+(xs.map pBigramW).sum
theorem szpBigram_take (xs:List PBigram) (k:Nat) (h:k < xs.length):((xs.take (k+1)).map pBigramW).sum=((xs.take k).map pBigramW).sum+pBigramW xs[k]:=by
 rw [List.take_succ_eq_append_getElem h,List.map_append,List.sum_append]; simp
theorem szBigramS_c {o:Bool} {e:TypeId} {xs:List PBigram} {v:Value} {F:List Nat} (w:World) (h:(pBigrams e).rep o w xs [v] F) (left:Int) (hl:0≤left∧left≤1048576) :
 Calls Tryz.prog 117 #[v,.int .i64 left] w fun e w'=>(∃ r:Int,e=.returned (.int .i64 r)∧-1≤r∧r≤left∧(0≤r→r+szpBigram xs≤left))∧Below w.heap.size w w':=by
 have hok:=pBigrams_ok h;obtain ⟨A,c,rfl,hc1,hc2,hr⟩:=pBigrams_open h;clear h;unfold maxLen at hc2
 by_cases h0:left - xs.length < 0
 · go_enter Tryz.func117,Tryz.ntmps117
   go_wp2_with fail
   go_ret;exact ⟨⟨-1,rfl,by omega,by omega,by omega⟩,Below.refl _ _⟩
 · have h1:¬ (left - (xs.length:Int) < 0):=h0
   go_enter Tryz.func117,Tryz.ntmps117
   go_wp2_with fail
   go_loopw [1,5] (fun l i wr=>∃ k:Nat,k≤xs.length∧i=.int .i64 k∧(∃ n:Int,0≤n∧n≤left∧Hid (n+xs.length+((xs.take k).map pBigramW).sum≤left)∧l=.int .i64 n)∧Below w.heap.size w wr) (fun _ i _=>xs.length - (intOf i).toNat)
   case atStart=>exact ⟨0,Nat.zero_le _,rfl,⟨left - xs.length,by omega,by omega,by show _≤_; simp,rfl⟩,Below.refl _ _⟩
   case round =>
    obtain ⟨k,hk,rfl,⟨n,hn0,hn1,hn,rfl⟩,hb⟩:=hrel;have hbs:=hb.size
    by_cases hlt:k < xs.length
    · obtain ⟨b,off,rfl,hbb,_,h0,h1,h2,_⟩:=hr k hlt
      rw [← hb.cell (p:=⟨b,_,none⟩) hbb] at h0 h1 h2;have H:=Lib.hid (szpBigram_take xs k hlt);have HO:=Lib.hid (hok _ (List.getElem_mem hlt));clear hr hok
      go_wp2_with fail
      refine (szBigram_c xs[k] n _ HO.out ⟨hn0,by omega⟩).mono ?_;rintro e w1 ⟨⟨r,rfl,hr0,hr1,hr2⟩,hb1⟩
      by_cases hneg:r < 0
      · go_wp2_with fail
        go_ret;exact ⟨⟨-1,rfl,by omega,by omega,by omega⟩,hb.trans (hb1.mono hbs)⟩
      · have hpos:¬ (r < 0):=hneg
        have HR:=Lib.hid (hr2 (by omega));clear hr2
        go_wp2_with fail
        go_roundw
        case rel=>exact ⟨k+1,by omega,by go_num,⟨r,by omega,by omega,(by show _≤_; have h1:=hn.out; have h2:=HR.out; rw [H.out]; omega),rfl⟩,hb.trans (hb1.mono hbs)⟩
        case measure=>simp [intOf]; omega
    · obtain rfl:k=xs.length:=by omega
      clear hr hok
      go_wp2_with fail
      go_ret;refine ⟨⟨n,rfl,by omega,by omega,fun _=>?_⟩,hb⟩;have h1:=hn.out;rw [List.take_length] at h1;unfold szpBigram;omega
structure PSetting where
 points:Int
 most:Int
 pen:Int
 deriving DecidableEq
def pSetting:Ty PSetting:=(int64.prod (int64.prod int64)).via fun s=>(s.points,s.most,s.pen)
theorem pSetting_rep {o:Bool} {w:World} {s:PSetting} {cs:List Value} {F:List Nat}:pSetting.rep o w s cs F↔cs=[.int .i64 s.points,.int .i64 s.most,.int .i64 s.pen]∧F=[]∧I64 s.points∧I64 s.most∧I64 s.pen:=by
 constructor
 · rintro ⟨_,_,_,_,rfl,rfl,⟨rfl,rfl,h0⟩,⟨_,_,_,_,rfl,rfl,⟨rfl,rfl,h1⟩,⟨rfl,rfl,h2⟩⟩⟩
   exact ⟨rfl,rfl,h0,h1,h2⟩
 · rintro ⟨rfl,rfl,h0,h1,h2⟩
   exact ⟨_,_,[],[],rfl,rfl,⟨rfl,rfl,h0⟩,⟨_,_,[],[],rfl,rfl,⟨rfl,rfl,h1⟩,⟨rfl,rfl,h2⟩⟩⟩
theorem toSetting_c (s:PSetting) (w:World) :
 Calls Tryz.prog 71 #[.agg #[.int .i64 s.points,.int .i64 s.most,.int .i64 s.pen]] w fun e w'=>e=.returned (.agg #[.int .i64 s.points,.int .i64 s.most,.int .i64 s.pen])∧Below w.heap.size w w':=by
 go_enter Tryz.func71,Tryz.ntmps71
 go_wp2_with fail
 refine bodyPost_ret (v:=.agg #[.int .i64 s.points,.int .i64 s.most,.int .i64 s.pen]) (by simp [results,Tryz.results71,go_sem]) rfl ⟨rfl,?_⟩;exact (((Below.refl _ _).alloc (Nat.le_refl _) _).alloc (by simp) _).alloc (by simp; omega) _
theorem eqSetting_c (s t:PSetting) (w:World) :
 Calls Tryz.prog 90 #[.agg #[.int .i64 s.points,.int .i64 s.most,.int .i64 s.pen],.agg #[.int .i64 t.points,.int .i64 t.most,.int .i64 t.pen]] w fun e w'=>e=.returned (.bool (decide (s=t)))∧Below w.heap.size w w':=by
 have e:decide (s=t)=decide (s.points=t.points∧s.most=t.most∧s.pen=t.pen):=by apply decide_eq_decide.2; cases s; cases t; simp
 rw [e];clear e
 go_enter Tryz.func90,Tryz.ntmps90
 go_wp2_with fail
 all_goals go_ret
 all_goals refine ⟨?_,((Below.refl _ _).alloc (Nat.le_refl _) _).alloc (by simp) _⟩
 all_goals simp_all
structure PSetup where
 band:Int
 temps:List PTemp
 points:Int
 most:Int
 pen:Int
 entries:List PEntry
 dflt:Int
 bigrams:List PBigram
 pause:Int
 deriving DecidableEq
structure PSess where
 setup:PSetup
 strokes:List PStroke
 opn:List PPoint
 time:Int
 words:List ByteArray
 deriving DecidableEq
structure SeSmall (p:PSetup):Prop where
 t:p.temps.length≤1048576
 f:∀ l∈p.temps,l.feats.length≤1048576
 e:p.entries.length≤1048576
 b:p.bigrams.length≤1048576
structure SsSmall (q:PSess):Prop where
 s:SeSmall q.setup
 i:q.strokes.length≤1048576
 j:∀ l∈q.strokes,l.length≤1048576
 o:q.opn.length≤1048576
 w:q.words.length≤1048576
structure SeBytes (p:PSetup):Prop where
 t:∀ l∈p.temps,l.label.size≤1048576
 e:∀ l∈p.entries,l.word.size≤1048576
 b:∀ l∈p.bigrams,l.first.size≤1048576∧l.second.size≤1048576
structure SsBytes (q:PSess):Prop where
 s:SeBytes q.setup
 w:∀ l∈q.words,l.size≤1048576
def szSe (p:PSetup):Nat:=szTemps p.temps+szpEntry p.entries+szpBigram p.bigrams
def szSs (q:PSess):Nat:=szSe q.setup+szStrokes q.strokes+q.opn.length+szStrs q.words
def sameSetupB (p q:PSetup):Bool :=
 (decide (p.band=q.band) && decide (p.temps=q.temps)) && (decide ((⟨p.points,p.most,p.pen⟩:PSetting)=⟨q.points,q.most,q.pen⟩) && (decide (p.entries=q.entries) && ((decide (p.dflt=q.dflt) && decide (p.bigrams=q.bigrams)) && decide (p.pause=q.pause))))
def sameSessB (p q:PSess):Bool:=sameSetupB p.setup q.setup && (decide (p.strokes=q.strokes) && (decide (p.opn=q.opn) && (decide (p.time=q.time) && decide (p.words=q.words))))
theorem sameSetupB_iff (p q:PSetup):sameSetupB p q=true↔p=q:=by
 cases p; cases q
 simp only [sameSetupB,Bool.and_eq_true,decide_eq_true_eq,PSetting.mk.injEq,PSetup.mk.injEq];constructor
 · rintro ⟨⟨h1,h2⟩,⟨h3,h4,h5⟩,h6,⟨h7,h8⟩,h9⟩; exact ⟨h1,h2,h3,h4,h5,h6,h7,h8,h9⟩
 · rintro ⟨h1,h2,h3,h4,h5,h6,h7,h8,h9⟩; exact ⟨⟨h1,h2⟩,⟨h3,h4,h5⟩,h6,⟨h7,h8⟩,h9⟩
theorem sameSessB_iff (p q:PSess):sameSessB p q=true↔p=q:=by
 cases p; cases q
 simp only [sameSessB,Bool.and_eq_true,decide_eq_true_eq,PSess.mk.injEq,sameSetupB_iff]
theorem sameSessB_refl (p:PSess):sameSessB p p=true:=(sameSessB_iff p p).2 rfl
theorem sum_mem_le {l:List Nat} {x:Nat} (h:x∈l):x≤l.sum:=by
 induction l with
 | nil=>simp at h
 | cons a r ih =>
   rw [List.sum_cons];rcases List.mem_cons.1 h with rfl | h
   · omega
   · have:=ih h; omega
theorem SeSmall.of {p:PSetup} (h:szSe p≤1048576):SeSmall p∧SeBytes p:=by
 unfold szSe at h;have ht:=szTemps_each (xs:=p.temps) (n:=1048576) (by omega);have he:szpEntry p.entries≤1048576:=by omega
 have hb:szpBigram p.bigrams≤1048576:=by omega
 unfold szpEntry at he;unfold szpBigram at hb;refine ⟨⟨ht.1,fun l hl=>(ht.2 l hl).2,by omega,by omega⟩,⟨fun l hl=>(ht.2 l hl).1,fun l hl=>?_,fun l hl=>?_⟩⟩
 · have:=sum_mem_le (List.mem_map.2 ⟨l,hl,rfl⟩:pEntryW l∈p.entries.map pEntryW)
   have e:pEntryW l=l.word.size:=rfl;omega
 · have:=sum_mem_le (List.mem_map.2 ⟨l,hl,rfl⟩:pBigramW l∈p.bigrams.map pBigramW)
   have e:pBigramW l=l.first.size+l.second.size:=rfl;omega
theorem SsSmall.of {q:PSess} (h:szSs q≤1048576):SsSmall q∧SsBytes q:=by
 unfold szSs at h;have hs:=SeSmall.of (p:=q.setup) (by omega);have hi:szStrokes q.strokes≤1048576:=by omega
 have hw:szStrs q.words≤1048576:=by omega
 unfold szStrokes at hi;unfold szStrs at hw;refine ⟨⟨hs.1,by omega,fun l hl=>?_,by omega,by omega⟩,⟨hs.2,fun l hl=>?_⟩⟩
 · have:=sum_mem_le (List.mem_map.2 ⟨l,hl,rfl⟩:l.length∈q.strokes.map List.length)
   omega
 · have:=sum_mem_le (List.mem_map.2 ⟨l,hl,rfl⟩:l.size∈q.words.map ByteArray.size)
   omega
theorem szStringS_b {o:Bool} {e:TypeId} {xs:List ByteArray} {v:Value} {F:List Nat} (w:World) (h:(strs e).rep o w xs [v] F) (left:Int) (hl:0≤left∧left≤1048576) :
 Calls Tryz.prog 25 #[v,.int .i64 left] w fun e w'=>(∃ r:Int,e=.returned (.int .i64 r)∧r≤left∧(0≤r→r+szStrs xs≤left))∧Below w.heap.size w w' :=
 (szStringS_c w h left hl).mono fun _ _ ⟨r,h1,h2,h3,h4⟩=>⟨⟨r,h1,h2,h3⟩,h4 ▸ Below.refl _ _⟩
def GivesB (b:Bool) (w:World) (e:Ending) (w':World):Prop:=e=.returned (.bool b)∧∃ n,w'=w.drewN n
theorem keep_b {w2 w3:World} {b o:Nat} {u:Value} (o3:Below w2.heap.size w2 w3) (hb:b < w2.heap.size) (hu:w2.cell? ⟨b,o,none⟩=some u):w3.cell? ⟨b,o,none⟩=some u :=
 (Below.cell (p:=⟨b,o,none⟩) o3 hb).trans hu
theorem impl_ValidInk_c {o:Bool} {pe e:TypeId} {xs:List PStroke} {v:Value} {F:List Nat} (w:World) (h:(pStrokes pe e).rep o w xs [v] F) (hx:xs.length≤1048576) (hxe:∀ l∈xs,l.length≤1048576) :
 Calls Tryz.prog 77 #[.agg #[v]] w fun e w'=>e=.returned (.bool (inkB xs))∧Below w.heap.size w w':=by
 obtain ⟨A,c,rfl,hc1,hc2,hr⟩:=pStrokes_open h;clear h
 go_enter Tryz.func77,Tryz.ntmps77
 go_wp2_with fail
 go_loopw [8] (fun i wr=>∃ k:Nat,k≤xs.length∧i=.int .i64 k∧Hid (stsOk xs k=true)∧wr.cell? ⟨w.heap.size,0,none⟩=some (.slice A xs.length c)∧w.heap.size < wr.heap.size∧Below w.heap.size w wr) (fun i _=>xs.length - (intOf i).toNat)
 case atStart=>exact ⟨0,Nat.zero_le _,rfl,rfl,by simp,by simp,(Below.refl _ _).alloc (Nat.le_refl _) _⟩
 case round =>
  obtain ⟨k,hk,rfl,hok,hself,hsl,hb⟩:=hrel;have hbs:=hb.size
  by_cases hlt:k < xs.length
  · obtain ⟨b,off,u,Fk,rfl,hbb,_,hrk,_,h0⟩:=hr k hlt
    rw [← hb.cell (p:=⟨b,_,none⟩) hbb] at h0;obtain ⟨Au,cu,rfl⟩:=slice_len hrk;have hle:=hxe _ (List.getElem_mem hlt);have QK:=hrk.below hb;have RN:=(Row.new wr 124 #[.slice Au xs[k].length cu]).drew;have QA:=Lib.hid (QK.alloc (.cells #[.slice Au xs[k].length cu] 124)).drew;have al:Below w.heap.size w (wr.alloc (.cells #[.slice Au xs[k].length cu] 124)).drew:=(hb.alloc hbs _).drew;have HC:=Lib.hid (impl_ValidStroke_c (wr.alloc (.cells #[.slice Au xs[k].length cu] 124)).drew QA.out hle);have hsz:wr.heap.size < (wr.alloc (.cells #[.slice Au xs[k].length cu] 124)).drew.heap.size:=by simp
    have hself1:(wr.alloc (.cells #[.slice Au xs[k].length cu] 124)).drew.cell? ⟨w.heap.size,0,none⟩=some (.slice (some ⟨b,off,none⟩) xs.length c):=(World.cell?_alloc_past (w:=wr) _ _ _ hsl).trans hself;clear QK;cases hp:strokeB xs[k]
    · have HF:=Lib.hid (inkB_false hlt (stOk_bad hlt hp))
      simp only [hp] at HC;clear hr hp hrk
      go_wp2_with fail
      have hS:(fun w'=>w'.cell? ⟨wr.heap.size,0,none⟩=some (.slice Au xs[k].length cu)) (wr.alloc (.cells #[.slice Au xs[k].length cu] 124)).drew:=RN.c0;dsimp only at hS;refine wp_region_held_drew (S:=(fun w'=>w'.cell? ⟨wr.heap.size,0,none⟩=some (.slice Au xs[k].length cu))) (by kernel_rfl) hS (fun _=>?_);refine tJ 0 hS ?_;refine rJ 1 fun K hK=>?_
      refine step_call 80 #[.tmp 13] _ rfl rfl #[.agg #[.slice Au xs[k].length cu]] Tryz.call80 (by go_simp) HC.out ?_;rintro e w1 ⟨rfl,b1⟩;refine ⟨_,rfl,?_⟩;replace hS:w1.cell? ⟨wr.heap.size,0,none⟩=some (.slice Au xs[k].length cu):=(RN.later b1).c0;refine bJ hK hS ?_;clear hK K;simp only [Act.put,pA,pB,pC];refine tJ 2 hS ?_;refine tJ 3 hS ?_;refine tJ0 4 hS ?_;refine tJ0 5 hS ?_;refine tJ0 6 hS ?_;refine tJ0 7 hS ?_;refine tJ0 8 hS ?_;refine tJ0 9 hS ?_;refine tJ0 10 hS ?_;refine tJ0 11 hS ?_;refine tJ0 12 hS ?_;refine tJ0 13 hS ?_;refine tJ0 14 hS ?_;refine tJ0 15 hS ?_;refine tJ0 16 hS ?_;refine tJ0 17 hS ?_;refine tJ0 18 hS ?_;refine tJ0 19 hS ?_;refine tJ 20 hS ?_;refine wpAnyH_done (by kernel_rfl) ?_ _
      go_wp2_with fail
      go_ret;exact ⟨ret_boolI HF.out.symm,al.trans (b1.mono (by omega))⟩
    · have HP:=Lib.hid hp
      simp only [hp] at HC
      by_cases hz:k=0
      · have HK:Hid (stsOk xs (k+1)=true):=by show _=_; rw [stsOk,hok.out,stOk_step hlt HP.out (.inl hz)]; rfl
        have g0:(0 < k)=False:=eq_false (by omega);clear hr hz hp hrk
        go_wp2_with fail
        have hS:(fun w'=>w'.cell? ⟨wr.heap.size,0,none⟩=some (.slice Au xs[k].length cu)) (wr.alloc (.cells #[.slice Au xs[k].length cu] 124)).drew:=RN.c0;dsimp only at hS;refine wp_region_held_drew (S:=(fun w'=>w'.cell? ⟨wr.heap.size,0,none⟩=some (.slice Au xs[k].length cu))) (by kernel_rfl) hS (fun _=>?_);refine tJ 0 hS ?_;refine rJ 1 fun K hK=>?_
        refine step_call 80 #[.tmp 13] _ rfl rfl #[.agg #[.slice Au xs[k].length cu]] Tryz.call80 (by go_simp) HC.out ?_;rintro e w1 ⟨rfl,b1⟩;refine ⟨_,rfl,?_⟩;replace hS:w1.cell? ⟨wr.heap.size,0,none⟩=some (.slice Au xs[k].length cu):=(RN.later b1).c0;refine bJ hK hS ?_;clear hK K;simp only [Act.put,pA,pB,pC];refine tJ 2 hS ?_;refine tJ 3 hS ?_;refine tJ 4 hS ?_;refine tJ 5 hS ?_;refine tJ 6 hS ?_;refine tJ0 7 hS ?_;refine tJ0 8 hS ?_;refine tJ0 9 hS ?_;refine tJ0 10 hS ?_;refine tJ0 11 hS ?_;refine tJ0 12 hS ?_;refine tJ0 13 hS ?_;refine tJ0 14 hS ?_;refine tJ0 15 hS ?_;refine tJ0 16 hS ?_;refine tJ0 17 hS ?_;refine tJ0 18 hS ?_;refine tJ 19 hS ?_;refine tJ 20 hS ?_;refine wpAnyH_done (by kernel_rfl) ?_ _;have hself2:=(Below.cell (p:=⟨w.heap.size,0,none⟩) b1 (by show w.heap.size < _; omega)).trans hself1;have hsz1:=b1.size
        go_wp2_with fail
        go_roundw
        case rel=>exact ⟨k+1,by omega,by go_num,HK,hself2,by omega,al.trans (b1.mono (by omega))⟩
        case measure=>simp [intOf]; omega
      · obtain ⟨j,hj⟩:∃ j,k=j+1:=⟨k - 1,by omega⟩
        have jl:j < xs.length:=by omega
        obtain ⟨b',off',u',Fj,e',hbb',_,hrj,_,h3⟩:=hr j jl;obtain ⟨Aj,cj,rfl⟩:=slice_len hrj;injection e' with e'
        injection e' with e1 e2 _
        subst e1; subst e2
        rw [← hb.cell (p:=⟨b,_,none⟩) hbb] at h3;have hbw:b < wr.heap.size:=by omega
        have h31:(wr.alloc (.cells #[.slice Au xs[k].length cu] 124)).drew.cell? ⟨b,off+j,none⟩=some (.slice Aj xs[j].length cj):=(World.cell?_alloc_past (w:=wr) _ _ _ hbw).trans h3;have hlej:=hxe _ (List.getElem_mem jl);have QJ:=Lib.hid ((hrj.below hb).alloc (.cells #[.slice Au xs[k].length cu] 124)).drew;have p1:=Lib.hid (strokeB_pos hp);have p2:=Lib.hid (strokeB_pos (stOk_stroke jl (stsOk_get hok.out (show j < k by omega))));have CF:=Lib.hid (fun w2 (bb:Below (wr.alloc (.cells #[.slice Au xs[k].length cu] 124)).drew.heap.size (wr.alloc (.cells #[.slice Au xs[k].length cu] 124)).drew w2)=>impl_firstOf_c w2 (QA.out.below bb) p1.out);have CL:=Lib.hid (fun w2 (bb:Below (wr.alloc (.cells #[.slice Au xs[k].length cu] 124)).drew.heap.size (wr.alloc (.cells #[.slice Au xs[k].length cu] 124)).drew w2)=>impl_lastOf_c w2 (QJ.out.below bb) p2.out hlej);have g0:(0 < k)=True:=eq_true (by omega);have gj:IntKind.i64.wrap ((k:Int) - 1)=(j:Int):=(IntWalk.i64_in _ (by omega)).trans (by omega);have jl':(j:Int) < (xs.length:Int):=by omega
        have j0:(0:Int)≤(j:Int):=by omega
        have HT:firstT xs[k]≤lastT xs[j]→Hid (inkB xs=false):=fun ht=>inkB_false hlt (by subst hj; exact stOk_late hlt ht)
        have HN:¬ firstT xs[k]≤lastT xs[j]→Hid (stsOk xs (k+1)=true):=fun ht=>by
         show _=_
         rw [stsOk,hok.out,stOk_step hlt HP.out (.inr ⟨j,hj,fun _=>by omega⟩)]; rfl
        have ef:(pt xs[k] 0).t=firstT xs[k]:=rfl;have el:(pt xs[j] (xs[j].length - 1)).t=lastT xs[j]:=rfl;rw [ef] at CF;rw [el] at CL;generalize hft:firstT xs[k]=ft at CF HT HN;generalize hlt':lastT xs[j]=ltt at CL HT HN;have HT':=Lib.hid HT;have HN':=Lib.hid HN;have HJ:=Lib.hid hj;clear hr h3 hj hz hp hrj hrk HT HN ef el hft hlt'
        by_cases ht:ft≤ltt
        · have HF:=HT'.out ht
          have gt:(ft≤ltt)=True:=eq_true ht;clear ht
          go_wp2_with fail
          have hfd:∀ (x y z:Int) (w:World),(Instr.field 128 (.agg #[.int .i64 x,.int .i64 y,.int .i64 z]) 2).run Tryz.prog w=.ok (.int .i64 z) w:=fun _ _ _ _=>by kernel_rfl
          have x1:=RN.cell' (i:=0) (u:=.slice Au xs[k].length cu) rfl
          go_region_held3 (fun w'=>w'.cell? ⟨wr.heap.size,0,none⟩=some (.slice Au xs[k].length cu)∧w'.cell? ⟨w.heap.size,0,none⟩=some (.slice (some ⟨b,off,none⟩) xs.length c)∧w'.cell? ⟨b,off+j,none⟩=some (.slice Aj xs[j].length cj)) (first | exact ⟨x1,hself1,h31⟩ | exact ⟨(RN.later b1).c0,keep_b b1 (Nat.lt_trans hsl hsz) hself1,keep_b b1 (Nat.lt_trans hbw hsz) h31⟩ | exact ⟨(RN.later (bt b1 b2)).c0,keep_b (bt b1 b2) (Nat.lt_trans hsl hsz) hself1,keep_b (bt b1 b2) (Nat.lt_trans hbw hsz) h31⟩ | exact ⟨(RN.later (bt (bt b1 b2) b3)).c0,keep_b (bt (bt b1 b2) b3) (Nat.lt_trans hsl hsz) hself1,keep_b (bt (bt b1 b2) b3) (Nat.lt_trans hbw hsz) h31⟩) (first | (go_at_call 80; refine HC.out.mono ?_; rintro e w1 ⟨rfl,b1⟩) | (go_at_call 81; refine (CF.out _ b1).mono ?_; rintro e w2 ⟨rfl,b2⟩) | (go_at_call 81; refine (CF.out _ (bt b1 b2)).mono ?_; rintro e w3 ⟨rfl,b3⟩) | (go_at_call 82; refine (CL.out _ b1).mono ?_; rintro e w2 ⟨rfl,b2⟩) | (go_at_call 82; refine (CL.out _ (bt b1 b2)).mono ?_; rintro e w3 ⟨rfl,b3⟩))
          all_goals
           go_wp2_with fail
           go_ret;exact ⟨ret_boolI HF.out.symm,al.trans ((bt (bt b1 b2) b3).mono (by omega))⟩
        · have HK:=HN'.out ht
          have gt:(ft≤ltt)=False:=eq_false ht;clear ht
          go_wp2_with fail
          have hfd:∀ (x y z:Int) (w:World),(Instr.field 128 (.agg #[.int .i64 x,.int .i64 y,.int .i64 z]) 2).run Tryz.prog w=.ok (.int .i64 z) w:=fun _ _ _ _=>by kernel_rfl
          have x1:=RN.cell' (i:=0) (u:=.slice Au xs[k].length cu) rfl
          go_region_held3 (fun w'=>w'.cell? ⟨wr.heap.size,0,none⟩=some (.slice Au xs[k].length cu)∧w'.cell? ⟨w.heap.size,0,none⟩=some (.slice (some ⟨b,off,none⟩) xs.length c)∧w'.cell? ⟨b,off+j,none⟩=some (.slice Aj xs[j].length cj)) (first | exact ⟨x1,hself1,h31⟩ | exact ⟨(RN.later b1).c0,keep_b b1 (Nat.lt_trans hsl hsz) hself1,keep_b b1 (Nat.lt_trans hbw hsz) h31⟩ | exact ⟨(RN.later (bt b1 b2)).c0,keep_b (bt b1 b2) (Nat.lt_trans hsl hsz) hself1,keep_b (bt b1 b2) (Nat.lt_trans hbw hsz) h31⟩ | exact ⟨(RN.later (bt (bt b1 b2) b3)).c0,keep_b (bt (bt b1 b2) b3) (Nat.lt_trans hsl hsz) hself1,keep_b (bt (bt b1 b2) b3) (Nat.lt_trans hbw hsz) h31⟩) (first | (go_at_call 80; refine HC.out.mono ?_; rintro e w1 ⟨rfl,b1⟩) | (go_at_call 81; refine (CF.out _ b1).mono ?_; rintro e w2 ⟨rfl,b2⟩) | (go_at_call 81; refine (CF.out _ (bt b1 b2)).mono ?_; rintro e w3 ⟨rfl,b3⟩) | (go_at_call 82; refine (CL.out _ b1).mono ?_; rintro e w2 ⟨rfl,b2⟩) | (go_at_call 82; refine (CL.out _ (bt b1 b2)).mono ?_; rintro e w3 ⟨rfl,b3⟩))
          all_goals
           have hself2:=keep_b (bt (bt b1 b2) b3) (Nat.lt_trans hsl hsz) hself1;have hsz3:=(bt (bt b1 b2) b3).size;have hb3:=al.trans ((bt (bt b1 b2) b3).mono (by omega));clear x1
           go_wp2_with fail
           go_roundw
           case rel=>exact ⟨k+1,by omega,by go_num,HK,hself2,by omega,hb3⟩
           case measure=>simp [intOf]; omega
  · obtain rfl:k=xs.length:=by omega
    clear hr;have HV:Hid (inkB xs=decide (xs.length≤16)):=by show _=_; rw [inkB,hok.out]; rfl
    go_wp2_with fail
    go_ret;exact ⟨ret_boolI (by rw [HV.out,decide_eq_decide]; omega),hb⟩
end Go.Proofs.YtalmeogjhmblhaaGreat

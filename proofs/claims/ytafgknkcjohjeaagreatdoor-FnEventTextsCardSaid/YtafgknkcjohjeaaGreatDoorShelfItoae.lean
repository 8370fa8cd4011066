/- The shelf's contract for FormatInt at base 10, at this program: what it says is proved in the library for any program. Conditions: none. -/
import Derived.Shelf.Strconv.Itoa0
import Derived.Shelf.Strconv.Itoa1
import Derived.Shelf.Strconv.Itoa2
import Derived.Shelf.Strconv.Itoa3
import Derived.Shelf.LaysM
import Derived.Test.YtafgknkcjohjeaaGreatDoorLibe
import Derived.Test.YtafgknkcjohjeaaGreatDoorProg
import Derived.Test.YtafgknkcjohjeaaGreatDoorTyFeate
import Derived.Test.YtafgknkcjohjeaaGreatDoorRows
import Derived.Test.YtafgknkcjohjeaaGreatDoorPoss2e
import Derived.Test.YtafgknkcjohjeaaGreatDoorRcWordse
import Derived.Lib.SplitLaws
import Derived.Lib.IndexBytes
import Derived.Lib.ParseIntBTie
import Derived.Lib.ItoaMem
import Derived.Lib.Strings
import Derived.Test.YtafgknkcjohjeaaGreatDoorTke
namespace Go.Proofs.YtafgknkcjohjeaaGreatDoor
open Go Go.Shelf Go.RowKit
set_option maxHeartbeats 8000000
def laysM246_ren:Go.Shelf.Ren:=⟨fun | 246=>54 | 283=>79 | 284=>80 | 285=>81 | 286=>82 | 129=>106 | 317=>105 | 318=>107 | 319=>108 | 320=>109 | 337=>124 | 338=>125 | n=>n,fun | 2=>2 | 3=>3 | 9=>9 | 4=>4 | 171=>155 | 0=>0 | 53=>71 | 37=>22 | 5=>5 | 173=>158 | 212=>198 | 51=>185 | 20=>20 | 213=>199 | 46=>103 | 232=>233 | 233=>234 | n=>n,fun | 17=>3 | 18=>6 | 19=>7 | n=>n⟩
theorem laysM246:Go.Proofs.LaysM.n246 Tryz.prog laysM246_ren:={
 mixed:=by kernel_rfl
 f129:=Tryz.func106.trans (congrArg some (by kernel_rfl))
 f246:=Tryz.func54.trans (congrArg some (by kernel_rfl))
 f283:=Tryz.func79.trans (congrArg some (by kernel_rfl))
 f284:=Tryz.func80.trans (congrArg some (by kernel_rfl))
 f285:=Tryz.func81.trans (congrArg some (by kernel_rfl))
 f286:=Tryz.func82.trans (congrArg some (by kernel_rfl))
 f317:=Tryz.func105.trans (congrArg some (by kernel_rfl))
 f318:=Tryz.func107.trans (congrArg some (by kernel_rfl))
 f319:=Tryz.func108.trans (congrArg some (by kernel_rfl))
 f320:=Tryz.func109.trans (congrArg some (by kernel_rfl))
 f337:=Tryz.func124.trans (congrArg some (by kernel_rfl))
 f338:=Tryz.func125.trans (congrArg some (by kernel_rfl))
 t0:=Tryz.underlying0
 a0:=Tryz.isAgg0
 z0:=Tryz.sizeOf0
 v0:=Tryz.zeroValue0
 t2:=Tryz.underlying2
 a2:=Tryz.isAgg2
 z2:=Tryz.sizeOf2
 v2:=Tryz.zeroValue2
 t3:=Tryz.underlying3
 a3:=Tryz.isAgg3
 z3:=Tryz.sizeOf3
 v3:=Tryz.zeroValue3
 t4:=Tryz.underlying4
 a4:=Tryz.isAgg4
 z4:=Tryz.sizeOf4
 v4:=Tryz.zeroValue4
 t5:=Tryz.underlying5
 a5:=Tryz.isAgg5
 z5:=Tryz.sizeOf5
 v5:=Tryz.zeroValue5
 t9:=Tryz.underlying9
 a9:=Tryz.isAgg9
 z9:=Tryz.sizeOf9
 v9:=Tryz.zeroValue9
 t20:=Tryz.underlying20
 a20:=Tryz.isAgg20
 z20:=Tryz.sizeOf20
 v20:=Tryz.zeroValue20
 t37:=Tryz.underlying22
 a37:=Tryz.isAgg22
 z37:=Tryz.sizeOf22
 v37:=Tryz.zeroValue22
 t46:=Tryz.underlying103
 a46:=Tryz.isAgg103
 z46:=Tryz.sizeOf103
 v46:=Tryz.zeroValue103
 t51:=Tryz.underlying185
 a51:=Tryz.isAgg185
 z51:=Tryz.sizeOf185
 v51:=Tryz.zeroValue185
 t53:=Tryz.underlying71
 a53:=Tryz.isAgg71
 z53:=Tryz.sizeOf71
 v53:=Tryz.zeroValue71
 t171:=Tryz.underlying155
 a171:=Tryz.isAgg155
 z171:=Tryz.sizeOf155
 v171:=Tryz.zeroValue155
 t173:=Tryz.underlying158
 a173:=Tryz.isAgg158
 z173:=Tryz.sizeOf158
 v173:=Tryz.zeroValue158
 t212:=Tryz.underlying198
 a212:=Tryz.isAgg198
 z212:=Tryz.sizeOf198
 v212:=Tryz.zeroValue198
 t213:=Tryz.underlying199
 a213:=Tryz.isAgg199
 z213:=Tryz.sizeOf199
 t232:=Tryz.underlying233
 a232:=Tryz.isAgg233
 z232:=Tryz.sizeOf233
 v232:=Tryz.zeroValue233
 t233:=Tryz.underlying234
 a233:=Tryz.isAgg234
 z233:=Tryz.sizeOf234
 v233:=Tryz.zeroValue234
 g17:=by kernel_rfl
 g18:=by kernel_rfl
 g19:=by kernel_rfl
 i0:=by kernel_rfl
 i2:=by kernel_rfl
 i3:=by kernel_rfl
 i4:=by kernel_rfl
 i5:=by kernel_rfl
 i9:=by kernel_rfl
 i20:=by kernel_rfl
 i37:=by kernel_rfl
 i46:=by kernel_rfl
 i51:=by kernel_rfl
 i53:=by kernel_rfl
 i171:=by kernel_rfl
 i173:=by kernel_rfl
 i212:=by kernel_rfl
 i232:=by kernel_rfl
 i233:=by kernel_rfl
 m17:=by kernel_rfl
 m18:=by kernel_rfl
 m19:=by kernel_rfl }
open Go.RowKit Go.Sort Go.Lib in
theorem FormatInt10_c (n:Int) (h0:-9223372036854775808≤n) (h1:n≤9223372036854775807) (w:World) (htab:Lib.TabIs Tryz.prog w "internal/strconv.uint64pow10" .u64 Lib.pow10Tab) :
 Calls Tryz.prog 54 #[.int .i64 n,.int .i64 10] w fun e w'=>e=.returned (.string ⟨(Lib.itoa n).toArray⟩)∧∃ k os,w'=grow (w.drewN k) os:=Any.internal_strconv_FormatInt_10 laysM246 n h0 h1 w htab
end Go.Proofs.YtafgknkcjohjeaaGreatDoor
namespace Go.Proofs.YtafgknkcjohjeaaGreatDoor
open Go Go.RowKit Go.Shelf
set_option maxHeartbeats 8000000
def decB (n:Nat):ByteArray:=⟨(Lib.decDigits n).toArray⟩
theorem decDigits_len (m:Nat):∀ f,m < 10 ^ (f+1)→(Lib.decDigits m).length≤f+1:=by
 intro f
 induction f generalizing m with
 | zero=>intro h; rw [Lib.decDigits,dif_pos (by omega)]; simp
 | succ f ih =>
   intro h;rw [Lib.decDigits]
   by_cases h2:m < 10
   · rw [dif_pos h2]; simp
   · rw [dif_neg h2,List.length_append,List.length_singleton]
     have:=ih (m / 10) (by rw [Nat.pow_succ] at h; omega);omega
theorem decB_size {n:Nat} (h:n≤9223372036854775807):(decB n).size≤19:=by
 have:=decDigits_len n 18 (by omega)
 simpa [decB,ByteArray.size] using this
theorem grow_below {w:World} {os:Array Obj} {k:Nat}:Below w.heap.size w (Sort.grow (w.drewN k) os):=by
 refine ⟨rfl,rfl,rfl,?_,fun i hi=>?_⟩
 · show w.heap.size≤(w.heap++os).size
   simp
 · show (w.heap++os)[i]?=w.heap[i]?
   rw [Array.getElem?_append_left hi]
theorem FormatInt_c (n:Nat) (w:World) (hn:n≤9223372036854775807) (htab:Lib.TabIs Tryz.prog w "internal/strconv.uint64pow10" .u64 Lib.pow10Tab) :
 Calls Tryz.prog 40 #[.int .i64 n,.int .i64 10] w fun e w'=>e=.returned (.string (decB n))∧Below w.heap.size w w':=by
 have C:=FormatInt10_c (n:Int) (by omega) (by omega);have e1:Lib.itoa (n:Int)=Lib.decDigits n:=by simp [Lib.itoa]
 rw [e1] at C;have HC:=Lib.hid C;clear C e1
 go_enter Tryz.func40,Tryz.ntmps40
 go_wp2_with fail
 refine (HC.out _ htab).mono ?_;rintro e w1 ⟨rfl,k,os,rfl⟩
 go_wp2_with fail
 go_ret;exact ⟨rfl,grow_below⟩
theorem impl_Decimal_c (n:Nat) (w:World) (hn:n≤9223372036854775807) (htab:Lib.TabIs Tryz.prog w "internal/strconv.uint64pow10" .u64 Lib.pow10Tab) :
 Calls Tryz.prog 21 #[.int .i64 n] w fun e w'=>e=.returned (.string (decB n))∧Below w.heap.size w w':=by
 have HC:=Lib.hid (FormatInt_c n w hn htab)
 go_enter Tryz.func21,Tryz.ntmps21
 go_wp2_with fail
 refine HC.out.mono ?_;rintro e w1 ⟨rfl,b1⟩
 go_wp2_with fail
 go_ret;exact ⟨rfl,b1⟩
end Go.Proofs.YtafgknkcjohjeaaGreatDoor
namespace Go.Proofs.YtafgknkcjohjeaaGreatDoor
open Go Go.RowKit
set_option maxHeartbeats 8000000
def nameB (k:Int):ByteArray:=if k=1 then ⟨#[100,111,119,110]⟩ else if k=2 then ⟨#[109,111,118,101]⟩ else if k=3 then ⟨#[117,112]⟩ else ⟨#[112,97,117,115,101]⟩
theorem impl_eventName_c (k:Int) (w:World) (hk:(k=1∨k=2)∨(k=3∨k=4)) :
 Calls Tryz.prog 19 #[.int .i64 k] w fun en w'=>en=.returned (.string (nameB k))∧Below w.heap.size w w':=by
 rcases hk with (rfl | rfl) | (rfl | rfl)
 all_goals
  go_enter Tryz.func19,Tryz.ntmps19
  go_wp2_with fail
  go_ret;exact ⟨rfl,(Below.refl _ _).alloc (Nat.le_refl _) _⟩
def evText (e:PEvent):ByteArray :=
 if possB e then
  if e.kind=1∨e.kind=2 then nameB e.kind++⟨#[32]⟩++decB e.x.toNat++⟨#[32]⟩++decB e.y.toNat++⟨#[32]⟩++decB e.t.toNat
  else nameB e.kind++⟨#[32]⟩++decB e.t.toNat
 else .empty
end Go.Proofs.YtafgknkcjohjeaaGreatDoor
namespace Go.Proofs.YtafgknkcjohjeaaGreatDoor
open Go Go.RowKit
set_option maxHeartbeats 8000000
theorem dd_digit (n:Nat):∀ b∈Lib.decDigits n,48≤b.toNat∧b.toNat≤57:=by
 induction n using Nat.strongRecOn with
 | ind n ih =>
   intro b hb;rw [Lib.decDigits] at hb
   split at hb
   · rename_i h
     simp only [List.mem_singleton] at hb;subst hb;rw [UInt8.toNat_ofNat',Nat.mod_eq_of_lt (by omega)];omega
   · rename_i h
     rcases List.mem_append.1 hb with h1 | h1
     · exact ih _ (by omega) b h1
     · simp only [List.mem_singleton] at h1
       subst h1;rw [UInt8.toNat_ofNat',Nat.mod_eq_of_lt (by omega)];omega
theorem dd_pos (n:Nat):1≤(Lib.decDigits n).length:=by
 rw [Lib.decDigits]; split <;> simp
theorem dd_le {n:Nat} (h:n < 1000000000000000000):(Lib.decDigits n).length≤18:=decDigits_len n 17 (by omega)
def valL (a:Nat) (l:List UInt8):Nat:=l.foldl (fun n b=>10 * n+(b.toNat - 48)) a
theorem val_dd (n:Nat):valL 0 (Lib.decDigits n)=n:=by
 induction n using Nat.strongRecOn with
 | ind n ih =>
   rw [Lib.decDigits]
   split
   · simp only [valL,List.foldl_cons,List.foldl_nil,UInt8.toNat_ofNat']
     omega
   · have:=ih (n / 10) (by omega)
     rw [valL] at this;rw [valL,List.foldl_append,this];simp only [List.foldl_cons,List.foldl_nil,UInt8.toNat_ofNat'];omega
theorem valL_mono (l:List UInt8):∀ a,a≤valL a l:=by
 induction l with
 | nil=>intro a; exact Nat.le_refl _
 | cons b l ih=>intro a; have:=ih (10 * a+(b.toNat - 48)); show a≤valL (10 * a+(b.toNat - 48)) l; omega
theorem parseM {l:List UInt8} (h:∀ b∈l,48≤b.toNat∧b.toNat≤57):∀ a,valL a l < 1000000000000000000→Lib.parseUintM (2 ^ 64 - 1) a l=.ok (valL a l):=by
 induction l with
 | nil=>intro a _; rfl
 | cons b l ih =>
   intro a ha;have hb:=h b (List.mem_cons_self ..);have e1:valL a (b :: l)=valL (a * 10+(b.toNat - 48)) l:=by rw [Nat.mul_comm]; rfl
   rw [e1] at ha ⊢;have hm:=valL_mono l (a * 10+(b.toNat - 48));rw [Lib.parseUintM,if_pos hb,if_neg (by omega),if_neg (by omega)];exact ih (fun c hc=>h c (List.mem_cons_of_mem _ hc)) _ ha
def rdec (l:List UInt8):Int × Bool :=
 if (Lib.trimPrefix l [45]).length < 1∨18 < (Lib.trimPrefix l [45]).length then (0,false)
 else match Lib.parseIntB 64 l with
  | .ok v=>if Lib.itoa v=l then (v,true) else (0,false)
  | _=>(0,false)
theorem head_dd {n:Nat} {c:UInt8} {r:List UInt8} (h:Lib.decDigits n=c :: r):48≤c.toNat∧c.toNat≤57:=dd_digit n c (by rw [h]; exact List.mem_cons_self ..)
theorem parse_dd {n:Nat} (h:n < 1000000000000000000):Lib.parseIntB 64 (Lib.decDigits n)=.ok (n:Int):=by
 have hp:=dd_pos n;have hm:=parseM (dd_digit n) 0 (by rw [val_dd]; exact h);rw [val_dd] at hm;cases hl:Lib.decDigits n with
 | nil=>rw [hl] at hp; simp at hp
 | cons c r =>
   have hc:=head_dd hl;rw [Lib.parseIntB];have h1:¬ c.toNat=43:=by omega
   have h2:¬ c.toNat=45:=by omega
   rw [hl] at hm;simp only [h1,h2,or_self,if_false,Lib.parseUintB,List.cons_ne_nil,hm];rw [if_neg (by omega),if_neg (by omega)]
theorem trim_dd (n:Nat):Lib.trimPrefix (Lib.decDigits n) [45]=Lib.decDigits n:=by
 rw [Lib.trimPrefix,if_neg];cases hl:Lib.decDigits n with
 | nil=>simp [Lib.hasPrefix]
 | cons c r =>
   have hc:=head_dd hl;intro h;simp only [Lib.hasPrefix,List.isPrefixOf,Bool.and_true,beq_iff_eq] at h;rw [← h] at hc;exact absurd hc.1 (by decide)
theorem rdec_dd {n:Nat} (h:n < 1000000000000000000):rdec (Lib.decDigits n)=((n:Int),true):=by
 rw [rdec,trim_dd,if_neg (by have:=dd_pos n; have:=dd_le h; omega),parse_dd h];simp [Lib.itoa_nonneg]
def splitL:List UInt8→List (List UInt8)
 | []=>[[]]
 | b :: l=>if b=32 then [] :: splitL l else (b :: (splitL l).headD []) :: (splitL l).tail
theorem splitL_ne (l:List UInt8):splitL l≠[]:=by
 cases l with
 | nil=>simp [splitL]
 | cons b l=>rw [splitL]; split <;> simp
theorem split_word {w:List UInt8} (h:∀ b∈w,b≠32):splitL w=[w]:=by
 induction w with
 | nil=>rfl
 | cons b w ih =>
   rw [splitL,if_neg (h b (List.mem_cons_self ..)),ih (fun c hc=>h c (List.mem_cons_of_mem _ hc))]; rfl
theorem split_app {w r:List UInt8} (h:∀ b∈w,b≠32):splitL (w++32 :: r)=w :: splitL r:=by
 induction w with
 | nil=>rw [List.nil_append,splitL,if_pos rfl]
 | cons b w ih =>
   rw [List.cons_append,splitL,if_neg (h b (List.mem_cons_self ..)),ih (fun c hc=>h c (List.mem_cons_of_mem _ hc))]; rfl
theorem cut_app {w r:List UInt8} (h:∀ b∈w,b≠32):Lib.cut (w++32 :: r) [32]=(w,r,true):=by
 have hi:Lib.index (w++32 :: r) [32]=w.length:=by
  rw [Lib.index_one]
  induction w with
  | nil=>simp [Lib.indexByte]
  | cons b w ih =>
    have hb:=h b (List.mem_cons_self ..);rw [List.cons_append,Lib.indexByte,ih (fun c hc=>h c (List.mem_cons_of_mem _ hc))];simp only [beq_iff_eq,hb,if_false,List.length_cons];rw [if_neg (by omega)]; omega
 rw [Lib.cut,if_pos (by omega),hi];simp
theorem dd_noblank (n:Nat):∀ b∈Lib.decDigits n,b≠32:=by
 intro b hb hc;have:=dd_digit n b hb;subst hc;exact absurd this.1 (by decide)
def nameL (k:Int):List UInt8:=if k=1 then [100,111,119,110] else if k=2 then [109,111,118,101] else if k=3 then [117,112] else [112,97,117,115,101]
theorem name_noblank (k:Int):∀ b∈nameL k,b≠32:=by
 unfold nameL
 split
 · decide
 · split
   · decide
   · split <;> decide
theorem nameB_list (k:Int):(nameB k).data.toList=nameL k:=by
 unfold nameB nameL
 split
 · rfl
 · split
   · rfl
   · split <;> rfl
def evL (e:PEvent):List UInt8 :=
 if e.kind=1∨e.kind=2 then nameL e.kind++32 :: (Lib.decDigits e.x.toNat++32 :: (Lib.decDigits e.y.toNat++32 :: Lib.decDigits e.t.toNat))
 else nameL e.kind++32 :: Lib.decDigits e.t.toNat
theorem toList_app (a b:ByteArray):(a++b).data.toList=a.data.toList++b.data.toList:=by simp
theorem evText_list {e:PEvent} (h:possB e=true):(evText e).data.toList=evL e:=by
 rw [evText,if_pos h,evL]
 split <;> simp only [toList_app,nameB_list,decB,List.append_assoc] <;> rfl
def kindL (l:List UInt8):Int:=if l=nameL 1 then 1 else if l=nameL 2 then 2 else if l=nameL 3 then 3 else if l=nameL 4 then 4 else 0
def implE (l:List UInt8):PEvent :=
 let ns:=(splitL (Lib.cut l [32]).2.1).map fun w=>(rdec w).1
 ⟨kindL (Lib.cut l [32]).1,if ns.length=3 then ns.getD 0 0 else 0,if ns.length=3 then ns.getD 1 0 else 0,ns.getD (ns.length - 1) 0⟩
theorem kindL_name {k:Int} (h:(k=1∨k=2)∨(k=3∨k=4)):kindL (nameL k)=k:=by
 rcases h with (rfl | rfl) | (rfl | rfl) <;> decide
theorem possB_up {e:PEvent} (h:possB e=true) (hk:¬ (e.kind=1∨e.kind=2)):e.x=0∧e.y=0:=by
 unfold possB at h;rw [if_neg hk] at h
 split at h
 · simp only [Bool.and_eq_true,decide_eq_true_eq] at h; omega
 · cases h
theorem implE_evL {e:PEvent} (h:possB e=true):implE (evL e)=e:=by
 have ht:=possB_t h;have hxy:=possB_xy h;have hk:=possB_kind h;have hu:=possB_up h;obtain ⟨kind,x,y,t⟩:=e;dsimp only at ht hxy hk hu;obtain ⟨x,rfl⟩:∃ n:Nat,x=n:=⟨x.toNat,by omega⟩
 obtain ⟨y,rfl⟩:∃ n:Nat,y=n:=⟨y.toNat,by omega⟩
 obtain ⟨t,rfl⟩:∃ n:Nat,t=n:=⟨t.toNat,by omega⟩
 unfold evL;dsimp only [Int.toNat_natCast]
 split
 · simp only [implE,cut_app (name_noblank kind),split_app (dd_noblank _),split_word (dd_noblank _),List.map_cons,List.map_nil,rdec_dd (show x < 1000000000000000000 by omega),rdec_dd (show y < 1000000000000000000 by omega),rdec_dd (show t < 1000000000000000000 by omega),kindL_name hk]
   rfl
 · rename_i hn
   obtain ⟨hx,hy⟩:=hu hn;simp only [implE,cut_app (name_noblank kind),split_word (dd_noblank _),List.map_cons,List.map_nil,rdec_dd (show t < 1000000000000000000 by omega),kindL_name hk,hx,hy];rfl
theorem two {α:Type} {l:List α} {d:α} (h:l.length=2):∃ a,l=[l.headD d,a]:=by
 match l,h with
 | [w,a],_=>exact ⟨a,rfl⟩
def readOk (s:ByteArray):Bool:=possB (implE s.data.toList) && decide (evText (implE s.data.toList)=s)
theorem ba_ext {a b:ByteArray} (h:a.data.toList=b.data.toList):a=b:=ByteArray.ext (Array.toList_inj.1 h)
end Go.Proofs.YtafgknkcjohjeaaGreatDoor
namespace Go.Proofs.YtafgknkcjohjeaaGreatDoor
open Go Go.RowKit
set_option maxHeartbeats 8000000
def Tab (w:World):Prop:=Lib.TabIs Tryz.prog w "internal/strconv.uint64pow10" .u64 Lib.pow10Tab
theorem Tab.below {w w':World} (h:Tab w) (hb:Below w.heap.size w w'):Tab w':=by
 unfold Tab Lib.TabIs World.var? at h ⊢;cases hg:Tryz.prog.globalNamed "internal/strconv.uint64pow10" with
 | none=>rw [hg] at h; cases h
 | some g =>
   rw [hg] at h;simp only [Option.bind_some] at h ⊢
   have hlt:g < w.heap.size:=by
    rcases Nat.lt_or_ge g w.heap.size with h' | h'
    · exact h'
    · rw [Array.getElem?_eq_none h'] at h; cases h
   rw [hb.block g hlt];exact h
set_option maxRecDepth 100000 in
theorem impl_EventText_c (e:PEvent) (w:World) (hT:Tab w) :
 Calls Tryz.prog 8 #[.agg #[.int .i64 e.kind,.int .i64 e.x,.int .i64 e.y,.int .i64 e.t]] w fun en w'=>en=.returned (.string (evText e))∧Below w.heap.size w w':=by
 have al:∀ x:Obj,Below w.heap.size w (w.alloc x):=fun x=>(Below.refl _ _).alloc (Nat.le_refl _) x
 have C:=impl_possible_c e;cases hp:possB e
 · rw [hp] at C
   have HC:=Lib.hid C;have hv:evText e=.empty:=by simp [evText,hp]
   rw [hv];clear C hv hp hT
   go_enter Tryz.func8,Tryz.ntmps8
   go_wp2_with fail
   refine (HC.out _).mono ?_;rintro en w1 ⟨rfl,rfl⟩
   go_wp2_with fail
   go_ret;exact ⟨rfl,(al _).alloc (by simp) _⟩
 · rw [hp] at C
   have ht:=possB_t hp;have hxy:=possB_xy hp;have hk:=possB_kind hp;obtain ⟨kind,x,y,t⟩:=e;dsimp only at ht hxy hk C ⊢;obtain ⟨nx,rfl⟩:∃ n:Nat,x=(n:Int):=⟨x.toNat,by omega⟩
   obtain ⟨ny,rfl⟩:∃ n:Nat,y=(n:Int):=⟨y.toNat,by omega⟩
   obtain ⟨nt,rfl⟩:∃ n:Nat,t=(n:Int):=⟨t.toNat,by omega⟩
   have hv:evText ⟨kind,nx,ny,nt⟩=if kind=1∨kind=2 then nameB kind++⟨#[32]⟩++decB nx++⟨#[32]⟩++decB ny++⟨#[32]⟩++decB nt else nameB kind++⟨#[32]⟩++decB nt:=by
    rw [evText,if_pos hp]; simp
   rw [hv];have HC:=Lib.hid C;have zt:=decB_size (n:=nt) (by omega);have zx:=decB_size (n:=nx) (by omega);have zy:=decB_size (n:=ny) (by omega);have zn:(nameB kind).size≤5:=by unfold nameB; (repeat' split) <;> decide
   have HN:=Lib.hid (fun w'=>impl_eventName_c kind w' hk);have HX:=Lib.hid (fun w' (q:Tab w')=>impl_Decimal_c nx w' (by omega) q);have HY:=Lib.hid (fun w' (q:Tab w')=>impl_Decimal_c ny w' (by omega) q);have HT:=Lib.hid (fun w' (q:Tab w')=>impl_Decimal_c nt w' (by omega) q);have R:=(Row.new w 48 #[.int .i64 kind,.int .i64 (nx:Int),.int .i64 (ny:Int),.int .i64 (nt:Int)]).alloc (.cells #[.int .i64 kind,.int .i64 (nx:Int),.int .i64 (ny:Int),.int .i64 (nt:Int)] 48);have R2:=R.drew;have T2:Tab ((w.alloc (.cells #[.int .i64 kind,.int .i64 (nx:Int),.int .i64 (ny:Int),.int .i64 (nt:Int)] 48)).alloc (.cells #[.int .i64 kind,.int .i64 (nx:Int),.int .i64 (ny:Int),.int .i64 (nt:Int)] 48)).drew:=(hT.below (al _)).below (((Below.refl _ _).alloc (Nat.le_refl _) _).drew);have b2:Below w.heap.size w ((w.alloc (.cells #[.int .i64 kind,.int .i64 (nx:Int),.int .i64 (ny:Int),.int .i64 (nt:Int)] 48)).alloc (.cells #[.int .i64 kind,.int .i64 (nx:Int),.int .i64 (ny:Int),.int .i64 (nt:Int)] 48)).drew:=((al _).alloc (by simp) _).drew;have c0:=R.c0;have c1:=R.c1;have c2:=R.c2;have c3:=R.c3;have y0:=R2.c0;have y1:=R2.c1;have y2:=R2.c2;have y3:=R2.c3;clear hv C hp ht hxy hT R al;have s0:(9223372036854775807 < (nameB kind).size+1)=False:=eq_false (by omega);have s1:(9223372036854775807 < (nameB kind).size+1+(decB nx).size)=False:=eq_false (by omega);have s2:(9223372036854775807 < (nameB kind).size+1+(decB nx).size+1)=False:=eq_false (by omega);have s3:(9223372036854775807 < (nameB kind).size+1+(decB nx).size+1+(decB ny).size)=False:=eq_false (by omega);have s4:(9223372036854775807 < (nameB kind).size+1+(decB nx).size+1+(decB ny).size+1)=False:=eq_false (by omega);have s5:(9223372036854775807 < (nameB kind).size+1+(decB nx).size+1+(decB ny).size+1+(decB nt).size)=False:=eq_false (by omega);have s7:(9223372036854775807 < (nameB kind).size+1+(decB nt).size)=False:=eq_false (by omega);rcases hk with (rfl | rfl) | (rfl | rfl)
   · rw [if_pos (by omega)]
     go_enter Tryz.func8,Tryz.ntmps8
     go_wp2_with fail
     refine (HC.out _).mono ?_;rintro en w1 ⟨rfl,rfl⟩
     go_wp2_with fail
     have hS:(fun w':World=>w'.cell? ⟨w.heap.size,0,none⟩=some (.int .i64 1)∧w'.cell? ⟨w.heap.size,1,none⟩=some (.int .i64 (nx:Int))∧w'.cell? ⟨w.heap.size,2,none⟩=some (.int .i64 (ny:Int))∧w'.cell? ⟨w.heap.size,3,none⟩=some (.int .i64 (nt:Int))) ((w.alloc (.cells #[.int .i64 1,.int .i64 (nx:Int),.int .i64 (ny:Int),.int .i64 (nt:Int)] 48)).alloc (.cells #[.int .i64 1,.int .i64 (nx:Int),.int .i64 (ny:Int),.int .i64 (nt:Int)] 48)).drew:=⟨y0,y1,y2,y3⟩
     dsimp only at hS;refine wp_region_held_drew (S:=(fun w':World=>w'.cell? ⟨w.heap.size,0,none⟩=some (.int .i64 1)∧w'.cell? ⟨w.heap.size,1,none⟩=some (.int .i64 (nx:Int))∧w'.cell? ⟨w.heap.size,2,none⟩=some (.int .i64 (ny:Int))∧w'.cell? ⟨w.heap.size,3,none⟩=some (.int .i64 (nt:Int)))) (by kernel_rfl) hS (fun _=>?_);refine tJ 0 hS ?_;refine tJ 1 hS ?_;refine tJ 4 hS ?_;refine tJ 5 hS ?_;refine tJ 9 hS ?_;refine tJ 10 hS ?_;refine tJ 14 hS ?_;refine tJ 15 hS ?_;refine rJ 2 fun K hK=>?_
     refine step_call 19 #[.tmp 15] _ rfl rfl #[.int .i64 1] Tryz.call19 (by go_simp) (HN.out _) ?_;rintro en w3 ⟨rfl,bw3⟩;refine ⟨_,rfl,?_⟩;replace R2:=R2.later bw3;replace T2:=T2.below bw3;replace b2:=bt b2 bw3;replace hS:(fun w':World=>w'.cell? ⟨w.heap.size,0,none⟩=some (.int .i64 1)∧w'.cell? ⟨w.heap.size,1,none⟩=some (.int .i64 (nx:Int))∧w'.cell? ⟨w.heap.size,2,none⟩=some (.int .i64 (ny:Int))∧w'.cell? ⟨w.heap.size,3,none⟩=some (.int .i64 (nt:Int))) w3:=⟨R2.c0,R2.c1,R2.c2,R2.c3⟩
     dsimp only at hS;refine bJ hK hS ?_;clear hK K;simp only [Act.put,pA,pB,pC];refine tJ 3 hS ?_;refine rJ 6 fun K hK=>?_
     refine step_call 21 #[.tmp 19] _ rfl rfl #[.int .i64 (nx:Int)] Tryz.call21 (by go_simp) (HX.out _ T2) ?_;rintro en w4 ⟨rfl,bw4⟩;refine ⟨_,rfl,?_⟩;replace R2:=R2.later bw4;replace T2:=T2.below bw4;replace b2:=bt b2 bw4;replace hS:(fun w':World=>w'.cell? ⟨w.heap.size,0,none⟩=some (.int .i64 1)∧w'.cell? ⟨w.heap.size,1,none⟩=some (.int .i64 (nx:Int))∧w'.cell? ⟨w.heap.size,2,none⟩=some (.int .i64 (ny:Int))∧w'.cell? ⟨w.heap.size,3,none⟩=some (.int .i64 (nt:Int))) w4:=⟨R2.c0,R2.c1,R2.c2,R2.c3⟩
     dsimp only at hS;refine bJ hK hS ?_;clear hK K;simp only [Act.put,pA,pB,pC];refine tJ 7 hS ?_;refine tJ 8 hS ?_;refine rJ 11 fun K hK=>?_
     refine step_call 21 #[.tmp 24] _ rfl rfl #[.int .i64 (ny:Int)] Tryz.call21 (by go_simp) (HY.out _ T2) ?_;rintro en w5 ⟨rfl,bw5⟩;refine ⟨_,rfl,?_⟩;replace R2:=R2.later bw5;replace T2:=T2.below bw5;replace b2:=bt b2 bw5;replace hS:(fun w':World=>w'.cell? ⟨w.heap.size,0,none⟩=some (.int .i64 1)∧w'.cell? ⟨w.heap.size,1,none⟩=some (.int .i64 (nx:Int))∧w'.cell? ⟨w.heap.size,2,none⟩=some (.int .i64 (ny:Int))∧w'.cell? ⟨w.heap.size,3,none⟩=some (.int .i64 (nt:Int))) w5:=⟨R2.c0,R2.c1,R2.c2,R2.c3⟩
     dsimp only at hS;refine bJ hK hS ?_;clear hK K;simp only [Act.put,pA,pB,pC];refine tJ 12 hS ?_;refine tJ 13 hS ?_;refine rJ 16 fun K hK=>?_
     refine step_call 21 #[.tmp 29] _ rfl rfl #[.int .i64 (nt:Int)] Tryz.call21 (by go_simp) (HT.out _ T2) ?_;rintro en w6 ⟨rfl,bw6⟩;refine ⟨_,rfl,?_⟩;replace R2:=R2.later bw6;replace T2:=T2.below bw6;replace b2:=bt b2 bw6;replace hS:(fun w':World=>w'.cell? ⟨w.heap.size,0,none⟩=some (.int .i64 1)∧w'.cell? ⟨w.heap.size,1,none⟩=some (.int .i64 (nx:Int))∧w'.cell? ⟨w.heap.size,2,none⟩=some (.int .i64 (ny:Int))∧w'.cell? ⟨w.heap.size,3,none⟩=some (.int .i64 (nt:Int))) w6:=⟨R2.c0,R2.c1,R2.c2,R2.c3⟩
     dsimp only at hS;refine bJ hK hS ?_;clear hK K;simp only [Act.put,pA,pB,pC];refine tJ 17 hS ?_;refine tJ 18 hS ?_;refine wpAnyH_done (by kernel_rfl) ?_ _
     go_wp2_with fail
     go_ret;exact ⟨rfl,b2⟩
   · rw [if_pos (by omega)]
     go_enter Tryz.func8,Tryz.ntmps8
     go_wp2_with fail
     refine (HC.out _).mono ?_;rintro en w1 ⟨rfl,rfl⟩
     go_wp2_with fail
     have hS:(fun w':World=>w'.cell? ⟨w.heap.size,0,none⟩=some (.int .i64 2)∧w'.cell? ⟨w.heap.size,1,none⟩=some (.int .i64 (nx:Int))∧w'.cell? ⟨w.heap.size,2,none⟩=some (.int .i64 (ny:Int))∧w'.cell? ⟨w.heap.size,3,none⟩=some (.int .i64 (nt:Int))) ((w.alloc (.cells #[.int .i64 2,.int .i64 (nx:Int),.int .i64 (ny:Int),.int .i64 (nt:Int)] 48)).alloc (.cells #[.int .i64 2,.int .i64 (nx:Int),.int .i64 (ny:Int),.int .i64 (nt:Int)] 48)).drew:=⟨y0,y1,y2,y3⟩
     dsimp only at hS;refine wp_region_held_drew (S:=(fun w':World=>w'.cell? ⟨w.heap.size,0,none⟩=some (.int .i64 2)∧w'.cell? ⟨w.heap.size,1,none⟩=some (.int .i64 (nx:Int))∧w'.cell? ⟨w.heap.size,2,none⟩=some (.int .i64 (ny:Int))∧w'.cell? ⟨w.heap.size,3,none⟩=some (.int .i64 (nt:Int)))) (by kernel_rfl) hS (fun _=>?_);refine tJ 0 hS ?_;refine tJ 1 hS ?_;refine tJ 4 hS ?_;refine tJ 5 hS ?_;refine tJ 9 hS ?_;refine tJ 10 hS ?_;refine tJ 14 hS ?_;refine tJ 15 hS ?_;refine rJ 2 fun K hK=>?_
     refine step_call 19 #[.tmp 15] _ rfl rfl #[.int .i64 2] Tryz.call19 (by go_simp) (HN.out _) ?_;rintro en w3 ⟨rfl,bw3⟩;refine ⟨_,rfl,?_⟩;replace R2:=R2.later bw3;replace T2:=T2.below bw3;replace b2:=bt b2 bw3;replace hS:(fun w':World=>w'.cell? ⟨w.heap.size,0,none⟩=some (.int .i64 2)∧w'.cell? ⟨w.heap.size,1,none⟩=some (.int .i64 (nx:Int))∧w'.cell? ⟨w.heap.size,2,none⟩=some (.int .i64 (ny:Int))∧w'.cell? ⟨w.heap.size,3,none⟩=some (.int .i64 (nt:Int))) w3:=⟨R2.c0,R2.c1,R2.c2,R2.c3⟩
     dsimp only at hS;refine bJ hK hS ?_;clear hK K;simp only [Act.put,pA,pB,pC];refine tJ 3 hS ?_;refine rJ 6 fun K hK=>?_
     refine step_call 21 #[.tmp 19] _ rfl rfl #[.int .i64 (nx:Int)] Tryz.call21 (by go_simp) (HX.out _ T2) ?_;rintro en w4 ⟨rfl,bw4⟩;refine ⟨_,rfl,?_⟩;replace R2:=R2.later bw4;replace T2:=T2.below bw4;replace b2:=bt b2 bw4;replace hS:(fun w':World=>w'.cell? ⟨w.heap.size,0,none⟩=some (.int .i64 2)∧w'.cell? ⟨w.heap.size,1,none⟩=some (.int .i64 (nx:Int))∧w'.cell? ⟨w.heap.size,2,none⟩=some (.int .i64 (ny:Int))∧w'.cell? ⟨w.heap.size,3,none⟩=some (.int .i64 (nt:Int))) w4:=⟨R2.c0,R2.c1,R2.c2,R2.c3⟩
     dsimp only at hS;refine bJ hK hS ?_;clear hK K;simp only [Act.put,pA,pB,pC];refine tJ 7 hS ?_;refine tJ 8 hS ?_;refine rJ 11 fun K hK=>?_
     refine step_call 21 #[.tmp 24] _ rfl rfl #[.int .i64 (ny:Int)] Tryz.call21 (by go_simp) (HY.out _ T2) ?_;rintro en w5 ⟨rfl,bw5⟩;refine ⟨_,rfl,?_⟩;replace R2:=R2.later bw5;replace T2:=T2.below bw5;replace b2:=bt b2 bw5;replace hS:(fun w':World=>w'.cell? ⟨w.heap.size,0,none⟩=some (.int .i64 2)∧w'.cell? ⟨w.heap.size,1,none⟩=some (.int .i64 (nx:Int))∧w'.cell? ⟨w.heap.size,2,none⟩=some (.int .i64 (ny:Int))∧w'.cell? ⟨w.heap.size,3,none⟩=some (.int .i64 (nt:Int))) w5:=⟨R2.c0,R2.c1,R2.c2,R2.c3⟩
     dsimp only at hS;refine bJ hK hS ?_;clear hK K;simp only [Act.put,pA,pB,pC];refine tJ 12 hS ?_;refine tJ 13 hS ?_;refine rJ 16 fun K hK=>?_
     refine step_call 21 #[.tmp 29] _ rfl rfl #[.int .i64 (nt:Int)] Tryz.call21 (by go_simp) (HT.out _ T2) ?_;rintro en w6 ⟨rfl,bw6⟩;refine ⟨_,rfl,?_⟩;replace R2:=R2.later bw6;replace T2:=T2.below bw6;replace b2:=bt b2 bw6;replace hS:(fun w':World=>w'.cell? ⟨w.heap.size,0,none⟩=some (.int .i64 2)∧w'.cell? ⟨w.heap.size,1,none⟩=some (.int .i64 (nx:Int))∧w'.cell? ⟨w.heap.size,2,none⟩=some (.int .i64 (ny:Int))∧w'.cell? ⟨w.heap.size,3,none⟩=some (.int .i64 (nt:Int))) w6:=⟨R2.c0,R2.c1,R2.c2,R2.c3⟩
     dsimp only at hS;refine bJ hK hS ?_;clear hK K;simp only [Act.put,pA,pB,pC];refine tJ 17 hS ?_;refine tJ 18 hS ?_;refine wpAnyH_done (by kernel_rfl) ?_ _
     go_wp2_with fail
     go_ret;exact ⟨rfl,b2⟩
   · rw [if_neg (by omega)]
     go_enter Tryz.func8,Tryz.ntmps8
     go_wp2_with fail
     refine (HC.out _).mono ?_;rintro en w1 ⟨rfl,rfl⟩
     go_wp2_with fail
     have hS:(fun w':World=>w'.cell? ⟨w.heap.size,0,none⟩=some (.int .i64 3)∧w'.cell? ⟨w.heap.size,1,none⟩=some (.int .i64 (nx:Int))∧w'.cell? ⟨w.heap.size,2,none⟩=some (.int .i64 (ny:Int))∧w'.cell? ⟨w.heap.size,3,none⟩=some (.int .i64 (nt:Int))) ((w.alloc (.cells #[.int .i64 3,.int .i64 (nx:Int),.int .i64 (ny:Int),.int .i64 (nt:Int)] 48)).alloc (.cells #[.int .i64 3,.int .i64 (nx:Int),.int .i64 (ny:Int),.int .i64 (nt:Int)] 48)).drew:=⟨y0,y1,y2,y3⟩
     dsimp only at hS;refine wp_region_held_drew (S:=(fun w':World=>w'.cell? ⟨w.heap.size,0,none⟩=some (.int .i64 3)∧w'.cell? ⟨w.heap.size,1,none⟩=some (.int .i64 (nx:Int))∧w'.cell? ⟨w.heap.size,2,none⟩=some (.int .i64 (ny:Int))∧w'.cell? ⟨w.heap.size,3,none⟩=some (.int .i64 (nt:Int)))) (by kernel_rfl) hS (fun _=>?_);refine tJ 0 hS ?_;refine tJ 1 hS ?_;refine tJ 4 hS ?_;refine tJ 5 hS ?_;refine rJ 2 fun K hK=>?_
     refine step_call 19 #[.tmp 33] _ rfl rfl #[.int .i64 3] Tryz.call19 (by go_simp) (HN.out _) ?_;rintro en w3 ⟨rfl,bw3⟩;refine ⟨_,rfl,?_⟩;replace R2:=R2.later bw3;replace T2:=T2.below bw3;replace b2:=bt b2 bw3;replace hS:(fun w':World=>w'.cell? ⟨w.heap.size,0,none⟩=some (.int .i64 3)∧w'.cell? ⟨w.heap.size,1,none⟩=some (.int .i64 (nx:Int))∧w'.cell? ⟨w.heap.size,2,none⟩=some (.int .i64 (ny:Int))∧w'.cell? ⟨w.heap.size,3,none⟩=some (.int .i64 (nt:Int))) w3:=⟨R2.c0,R2.c1,R2.c2,R2.c3⟩
     dsimp only at hS;refine bJ hK hS ?_;clear hK K;simp only [Act.put,pA,pB,pC];refine tJ 3 hS ?_;refine rJ 6 fun K hK=>?_
     refine step_call 21 #[.tmp 37] _ rfl rfl #[.int .i64 (nt:Int)] Tryz.call21 (by go_simp) (HT.out _ T2) ?_;rintro en w4 ⟨rfl,bw4⟩;refine ⟨_,rfl,?_⟩;replace R2:=R2.later bw4;replace T2:=T2.below bw4;replace b2:=bt b2 bw4;replace hS:(fun w':World=>w'.cell? ⟨w.heap.size,0,none⟩=some (.int .i64 3)∧w'.cell? ⟨w.heap.size,1,none⟩=some (.int .i64 (nx:Int))∧w'.cell? ⟨w.heap.size,2,none⟩=some (.int .i64 (ny:Int))∧w'.cell? ⟨w.heap.size,3,none⟩=some (.int .i64 (nt:Int))) w4:=⟨R2.c0,R2.c1,R2.c2,R2.c3⟩
     dsimp only at hS;refine bJ hK hS ?_;clear hK K;simp only [Act.put,pA,pB,pC];refine tJ 7 hS ?_;refine tJ 8 hS ?_;refine wpAnyH_done (by kernel_rfl) ?_ _
     go_wp2_with fail
     go_ret;exact ⟨rfl,b2⟩
   · rw [if_neg (by omega)]
     go_enter Tryz.func8,Tryz.ntmps8
     go_wp2_with fail
     refine (HC.out _).mono ?_;rintro en w1 ⟨rfl,rfl⟩
     go_wp2_with fail
     have hS:(fun w':World=>w'.cell? ⟨w.heap.size,0,none⟩=some (.int .i64 4)∧w'.cell? ⟨w.heap.size,1,none⟩=some (.int .i64 (nx:Int))∧w'.cell? ⟨w.heap.size,2,none⟩=some (.int .i64 (ny:Int))∧w'.cell? ⟨w.heap.size,3,none⟩=some (.int .i64 (nt:Int))) ((w.alloc (.cells #[.int .i64 4,.int .i64 (nx:Int),.int .i64 (ny:Int),.int .i64 (nt:Int)] 48)).alloc (.cells #[.int .i64 4,.int .i64 (nx:Int),.int .i64 (ny:Int),.int .i64 (nt:Int)] 48)).drew:=⟨y0,y1,y2,y3⟩
     dsimp only at hS;refine wp_region_held_drew (S:=(fun w':World=>w'.cell? ⟨w.heap.size,0,none⟩=some (.int .i64 4)∧w'.cell? ⟨w.heap.size,1,none⟩=some (.int .i64 (nx:Int))∧w'.cell? ⟨w.heap.size,2,none⟩=some (.int .i64 (ny:Int))∧w'.cell? ⟨w.heap.size,3,none⟩=some (.int .i64 (nt:Int)))) (by kernel_rfl) hS (fun _=>?_);refine tJ 0 hS ?_;refine tJ 1 hS ?_;refine tJ 4 hS ?_;refine tJ 5 hS ?_;refine rJ 2 fun K hK=>?_
     refine step_call 19 #[.tmp 33] _ rfl rfl #[.int .i64 4] Tryz.call19 (by go_simp) (HN.out _) ?_;rintro en w3 ⟨rfl,bw3⟩;refine ⟨_,rfl,?_⟩;replace R2:=R2.later bw3;replace T2:=T2.below bw3;replace b2:=bt b2 bw3;replace hS:(fun w':World=>w'.cell? ⟨w.heap.size,0,none⟩=some (.int .i64 4)∧w'.cell? ⟨w.heap.size,1,none⟩=some (.int .i64 (nx:Int))∧w'.cell? ⟨w.heap.size,2,none⟩=some (.int .i64 (ny:Int))∧w'.cell? ⟨w.heap.size,3,none⟩=some (.int .i64 (nt:Int))) w3:=⟨R2.c0,R2.c1,R2.c2,R2.c3⟩
     dsimp only at hS;refine bJ hK hS ?_;clear hK K;simp only [Act.put,pA,pB,pC];refine tJ 3 hS ?_;refine rJ 6 fun K hK=>?_
     refine step_call 21 #[.tmp 37] _ rfl rfl #[.int .i64 (nt:Int)] Tryz.call21 (by go_simp) (HT.out _ T2) ?_;rintro en w4 ⟨rfl,bw4⟩;refine ⟨_,rfl,?_⟩;replace R2:=R2.later bw4;replace T2:=T2.below bw4;replace b2:=bt b2 bw4;replace hS:(fun w':World=>w'.cell? ⟨w.heap.size,0,none⟩=some (.int .i64 4)∧w'.cell? ⟨w.heap.size,1,none⟩=some (.int .i64 (nx:Int))∧w'.cell? ⟨w.heap.size,2,none⟩=some (.int .i64 (ny:Int))∧w'.cell? ⟨w.heap.size,3,none⟩=some (.int .i64 (nt:Int))) w4:=⟨R2.c0,R2.c1,R2.c2,R2.c3⟩
     dsimp only at hS;refine bJ hK hS ?_;clear hK K;simp only [Act.put,pA,pB,pC];refine tJ 7 hS ?_;refine tJ 8 hS ?_;refine wpAnyH_done (by kernel_rfl) ?_ _
     go_wp2_with fail
     go_ret;exact ⟨rfl,b2⟩
end Go.Proofs.YtafgknkcjohjeaaGreatDoor

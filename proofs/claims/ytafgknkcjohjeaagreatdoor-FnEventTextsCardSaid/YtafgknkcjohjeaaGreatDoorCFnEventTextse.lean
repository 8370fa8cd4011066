/- FnEventTexts: events are restored from their texts; the frame round the law, with the variables that the row lists. Conditions: none. -/
import Derived.Test.YtafgknkcjohjeaaGreatDoorEtOe
import Derived.Test.YtafgknkcjohjeaaGreatDoorCards
import Derived.Test.YtafgknkcjohjeaaGreatDoorTie
import Derived.JoinedOf
import Derived.OpenShut
import Derived.Deep.DeepHandedRow
import Derived.Lib.LaidTab
import Derived.Stop.LaidErr
import Derived.Shelf.LaysM
namespace Go.Proofs.YtafgknkcjohjeaaGreatDoor
open Go Go.RowKit Go.ChangeShapes Go.WideShapes Go.ChangeAt
set_option maxRecDepth 100000
theorem opens_code:Opens Tryz.prog 22 (byte.slice 5):=opens_slice Tryz.underlying22 (by kernel_rfl) (by decide) (opens_byte Tryz.underlying5)
namespace claim_FnEventTexts
theorem own:ownKnob Tryz.prog.godebug=none:=by kernel_rfl
theorem laidOut:laidOutB Tryz.prog=true:=by kernel_rfl
theorem reads:(Tryz.f3.params.toList.all fun t=>Tryz.prog.readableRec t && decide (t < Tryz.prog.types.size))=true:=by kernel_rfl
theorem gTab:Tryz.prog.globalNamed "internal/strconv.uint64pow10" = some 3:=by kernel_rfl
theorem gTabType:(Tryz.prog.globals[(3:Nat)]?).map (·.type)=some 198:=by kernel_rfl
theorem cellsE:Tryz.prog.cellsOf 71=1:=by kernel_rfl
theorem cellsT:Tryz.prog.cellsOf 198=20:=by kernel_rfl
theorem table {W:World} (h:laidMetH Tryz.prog Rows.fnEventTextsRow.laid W):Tab W :=
 Lib.tabIs_of_head (rest:=_) gTab gTabType Tryz.underlying198 Tryz.underlying71 cellsE cellsT (laidMet.tail (laidMet.tail h))
theorem maxInt {W:World} (h:W.ShapedOpen Tryz.prog):∃ m,W.cell? ⟨0,0,none⟩=some (.int .i64 m) :=
 Go.Proofs.cell_of_shapedOpen_int (zero:=#[.int .i64 0]) (t:=3) h (of_decide_eq_true (by kernel_rfl)) (by kernel_rfl) rfl (by kernel_rfl) (by kernel_rfl) Tryz.underlying3
theorem star : "*" ++ "errors.errorString" = "*errors.errorString" := by decide
theorem typeName_es (u:TypeId) (h:Tryz.prog.typeName? 3 u=some "*errors.errorString"):u=219 :=
 typeName_ptr_named (nm := "errors.errorString") (by rw [star]; kernel_rfl) (by kernel_rfl) (by decide) u (by rw [star]; exact h)
theorem env {W:World} (h:laidMetH Tryz.prog Rows.fnEventTextsRow.laid W) (hs:W.ShapedOpen Tryz.prog):Env W:=by
 refine ⟨table h,maxInt hs,?_,?_⟩
 · obtain ⟨a,s,hv,_⟩:=laid_sentinel (laidMet.tail (laidMet.tail (laidMet.tail (laidMet.tail (laidMet.tail h))))) gSyn (by kernel_rfl) Tryz.underlying95 (by intro u hu; exact typeName_es u hu) Tryz.underlying219 Tryz.underlying221 rfl rfl Tryz.underlying9 (by kernel_rfl) (by kernel_rfl)
   exact ⟨_,_,hv⟩
 · obtain ⟨a,s,hv,_⟩:=laid_sentinel (laidMet.tail (laidMet.tail (laidMet.tail (laidMet.tail h)))) gRan (by kernel_rfl) Tryz.underlying95 (by intro u hu; exact typeName_es u hu) Tryz.underlying219 Tryz.underlying221 rfl rfl Tryz.underlying9 (by kernel_rfl) (by kernel_rfl)
   exact ⟨_,_,hv⟩
theorem contract (H:Type) (enc:TypeId × Value→H) (W:World) (base:Nat) (args:Array Value) (ds gs:List (DataW H)) (before:List MemPlace)
 (hval:∀ (j:Nat) t v,Tryz.f3.params[j]?=some t→args[j]?=some v→Value.okWide Tryz.prog W .any base t v)
 (hW:DataW.Whole enc Tryz.prog Tryz.f3.params.toList Rows.fnEventTextsSpec.vars false W args.toList ds gs before) (hL:laidMetH Tryz.prog Rows.fnEventTextsRow.laid W) (hsh:W.ShapedOpen Tryz.prog) :
 Calls Tryz.prog 3 args W fun e W'=>∃ v,e=.returned v∧Rows.fnEventTextsSpec.post enc Tryz.prog Tryz.f3 false true false false W args v W':=by
 have hW':=hW;obtain ⟨p,q,hA0,hV,rfl,hfz,hnd⟩:=hW;have hA:DataW.TrodAll enc Tryz.prog W 0 (fun _=>true) true Tryz.f3.params.toList args.toList ds p:=hA0;clear hA0;rw [Tryz.params3] at hA hval;obtain ⟨v0,vs0,d0,ds0,p0,q0,hargs,rfl,rfl,h0,r0⟩:=trodAll_cons hA;obtain ⟨v1,vs1,d1,ds1,p1,q1,rfl,rfl,rfl,h1,r1⟩:=trodAll_cons r0;obtain ⟨rfl,rfl,rfl⟩:=trodAll_nil r1;obtain rfl:args=#[v0,v1]:=by cases args; simp_all
 obtain ⟨x0,F0,k0⟩:=arg_slice Tryz.underlying22 (hval 0 22 v0 rfl rfl) opens_code h0;obtain ⟨x1,F1,k1⟩:=arg_slice Tryz.underlying22 (hval 1 22 v1 rfl rfl) opens_code h1;refine (law_FnEventTexts W (env hL hsh) k0 k1).mono fun e W' ⟨he,hb⟩=>?_
 subst he;exact ⟨_,rfl,law_post (P:=Tryz.prog) (tb:=4) laidOut reads (by kernel_rfl) Tryz.underlying4 rfl rfl hW' hb⟩
def firstVals:List Value:=match (Go.Pinned.utf8First:DataW Unit) with | .agg l=>l.map (fun | .lit (.int k n)=>.int k n | _=>.bool false) | _=>[]
noncomputable def laidWorld (os:Os):World :=
 { World.holding Tryz.prog os ⟨#[],#[],[]⟩ with heap:=(((((((((World.holding Tryz.prog os ⟨#[],#[],[]⟩).heap.modify 6 fun | .cells _ t frozen=>.cells (([0,1,28,2,29,14,24,3,30,22,20,15,25,17,4,8,31,27,13,23,21,19,16,7,26,12,18,6,11,5,10,9].map (Value.int .u8)).toArray) t frozen | o=>o).modify 7 fun | .cells _ t frozen=>.cells (([0,1,56,2,57,49,28,3,61,58,42,50,38,29,17,4,62,47,59,36,45,43,51,22,53,39,33,30,24,18,12,5,63,55,48,27,60,41,37,16,46,35,44,21,52,32,23,11,54,26,40,15,34,20,31,10,25,14,19,9,13,8,7,6].map (Value.int .u8)).toArray) t frozen | o=>o).modify 3 fun | .cells _ t frozen=>.cells (([1,10,100,1000,10000,100000,1000000,10000000,100000000,1000000000,10000000000,100000000000,1000000000000,10000000000000,100000000000000,1000000000000000,10000000000000000,100000000000000000,1000000000000000000,10000000000000000000].map (Value.int .u64)).toArray) t frozen | o=>o).modify 5 fun | .cells _ t frozen=>.cells (([128,191,160,191,128,159,144,191,128,143,0,0,0,0,0,0,0,0,0,0,0,0,0,0,0,0,0,0,0,0,0,0].map (Value.int .u8)).toArray) t frozen | o=>o).modify 4 fun | .cells _ t frozen=>.cells (firstVals.toArray) t frozen | o=>o).modify 2 fun | .cells _ t frozen=>.cells (#[.iface 219 (.pointer (some ⟨(World.holding Tryz.prog os ⟨#[],#[],[]⟩).heap.size,0,none⟩))]) t frozen | o=>o).modify 1 fun | .cells _ t frozen=>.cells (#[.iface 219 (.pointer (some ⟨(World.holding Tryz.prog os ⟨#[],#[],[]⟩).heap.size+1,0,none⟩))]) t frozen | o=>o).push (.cells #[.string ⟨#[118,97,108,117,101,32,111,117,116,32,111,102,32,114,97,110,103,101]⟩] 221)).push (.cells #[.string ⟨#[105,110,118,97,108,105,100,32,115,121,110,116,97,120]⟩] 221) }
theorem laid_met (os:Os):laidMet Tryz.prog Rows.fnEventTextsRow.laid ((laidWorld os).forCall (fun _ _=>0) ⟨#[],#[.slice none 0 0,.slice none 0 0],[]⟩).memory :=
 laidMet_of_run' 700 (by kernel_rfl) (by kernel_rfl)
theorem readsD (os:Os) {H:Type} (enc:TypeId × Value→H):∃ places,DataW.whole enc Tryz.prog ((laidWorld os).forCall (fun _ _=>0) ⟨#[],#[.slice none 0 0,.slice none 0 0],[]⟩).memory Tryz.f3.params.toList Rows.fnEventTextsSpec.vars false (#[.slice none 0 0,.slice none 0 0]:Array Value).toList 8=some ([.nil,.nil],[],places) :=
 ⟨[],by kernel_rfl⟩
theorem lifted (os:Os) (started:os.Started) (H:Type) (enc:TypeId × Value→H) (F:Stop.Interp) :
 ReturnsInHanded {} Tryz.checked os 3 .any ((OpenSpec.ofChange Rows.fnEventTextsSpec).preRow enc Tryz.prog Tryz.f3 Rows.fnEventTextsRow.domain false Rows.fnEventTextsRow.laid) (((OpenSpec.ofChange Rows.fnEventTextsSpec).at F).post enc Tryz.prog Tryz.f3 false true false false):=by
 obtain ⟨places,hx⟩:=readsD os enc
 refine returnsInHanded_of_row (C:=Tryz.checked) (s:=OpenSpec.ofChange Rows.fnEventTextsSpec) own started (by kernel_rfl) Tryz.func3
  (witness_row_at (enc:=enc) (C:=Tryz.checked) false (laidWorld os) #[.slice none 0 0,.slice none 0 0] rfl (by kernel_rfl) (by kernel_rfl) (by kernel_rfl)
    (OpenSpec.preRow_of_cond 8 hx (by kernel_rfl) (fun k hk=>by cases hk) (by kernel_rfl) (laid_met os))) ?_
 intro W base args ds gs before hval hW _ _ _ hL hsh _;exact contract H enc W base args ds gs before hval hW hL hsh
theorem said:Rows.FnEventTextsSaid :=
 OpenClaim.holds_of_cond 3 Tryz.f3 rfl rfl rfl rfl rfl rfl rfl ⟨rfl,rfl,rfl,rfl,rfl⟩ rfl rfl rfl rfl rfl (by kernel_rfl) Tryz.func3 (by kernel_rfl)
  (of_decide_eq_true (by kernel_rfl)) (by unfold Func.isWrapper; first | (rw [if_pos (by decide +kernel)]; kernel_rfl) | (rw [if_neg (by decide +kernel)]; exact ⟨rfl,rfl⟩))
  (fun os started H enc _ F=>by rw [OpenClaim.pre_eq_preRow]; exact lifted os started H enc F)
theorem plain (f:FuncId) (fn:Func) (hf:Tryz.pinned.checked.prog.funcNamed "loop.example/g00918/laws.FnEventTexts" = some f) (hfn:Tryz.pinned.checked.prog.funcs[f]?=some fn) :
 true=Tryz.pinned.checked.prog.looks []∧∀ (j:Nat) t,fn.params[j]?=some t→Tryz.pinned.checked.prog.wantsStandIn t=false:=by
 obtain rfl:f=3:=Option.some.inj ((show Tryz.prog.funcNamed "loop.example/g00918/laws.FnEventTexts" = some 3 by kernel_rfl).symm.trans hf) |>.symm;obtain rfl:fn=Tryz.f3:=(Option.some.inj (Tryz.func3.symm.trans hfn)).symm;refine ⟨by kernel_rfl,fun j t ht=>?_⟩;rw [Tryz.params3] at ht;obtain rfl:t=22:=by simpa using Array.mem_of_getElem? ht
 exact (show Tryz.prog.wantsStandIn 22=false by kernel_rfl)
end claim_FnEventTexts
theorem fnEventTexts_holds:Rows.FnEventTextsCardSaid :=
 Claim7.holds_tied_plain_at .later [] _ _ _ _ claim_FnEventTexts.said (fun _ h=>by cases h) (by kernel_rfl) (fun _ h=>by cases h) fnEventTexts_row_tie rfl ⟨rfl,rfl⟩ (by kernel_rfl) rfl claim_FnEventTexts.plain (by kernel_rfl)
#print axioms fnEventTexts_holds
end Go.Proofs.YtafgknkcjohjeaaGreatDoor

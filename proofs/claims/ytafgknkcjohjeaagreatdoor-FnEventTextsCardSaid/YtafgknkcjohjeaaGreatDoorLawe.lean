/- The frame round a law: from a walk that ends in 'true' and leaves old memory alone to the given statement's 'post'; arguments opened to plain data by their types. No program is named here. Conditions: none. -/
import Derived.Test.YtafgknkcjohjeaaGreatDoorLibe
import Derived.OpenShut
import Derived.ShutString
namespace Go.Proofs.YtafgknkcjohjeaaGreatDoor
open Go Go.RowKit Go.ChangeShapes Go.WideShapes Go.ChangeAt
theorem args_stay {H:Type} {enc:TypeId × Value→H} {P:Program} {W W':World} (hl:laidOutB P=true) (hb:Below W.heap.size W W') :
 ∀ (ts:List TypeId) (vs:List Value) (ds:List (DataW H)) (p:List MemPlace),(∀ t∈ts,P.readableRec t=true∧t < P.types.size) →
  DataW.TrodAll enc P W 0 (fun _=>true) true ts vs ds p→(∀ x∈p,x.block < W.heap.size) →
  DataW.TrodAll enc P W' 0 (fun b=>decide (b < W.heap.size)) true ts vs ds p
 | [],[],[],_,_,h,_=>h
 | t :: ts,v :: vs,d :: ds,_,hr,⟨p,q,h1,h2,rfl⟩,hlt =>
   ⟨p,q,Below.trod hl (hr t (by simp)).1 (hr t (by simp)).2 h1 hb (fun x hx=>hlt x (by simp [hx])),
    args_stay hl hb ts vs ds q (fun t' ht'=>hr t' (by simp [ht'])) h2 (fun x hx=>hlt x (by simp [hx])),rfl⟩
 | [],_ :: _,_,_,_,h,_=>h.elim
 | [],[],_ :: _,_,_,h,_=>h.elim
 | _ :: _,[],_,_,_,h,_=>h.elim
 | _ :: _,_ :: _,[],_,_,h,_=>h.elim
theorem law_post {H:Type} {enc:TypeId × Value→H} {P:Program} {f:Func} {s:ChangeSpec} {W W':World} {args:Array Value} {ds gs:List (DataW H)} {before:List MemPlace} {tb:TypeId}
 (hl:laidOutB P=true) (hr0:(f.params.toList.all fun t=>P.readableRec t && decide (t < P.types.size))=true) (hres:f.resultTypes=#[tb]) (hbool:P.underlying tb=some .bool) (hvars:s.vars=[])
 (hs:s.fn H ds={ results:=[.lit (.bool true)],args:=ds,vars:=[] })
 (hW:DataW.Whole enc P f.params.toList s.vars false W args.toList ds gs before) (hb:Below W.heap.size W W') :
 s.post enc P f false true false false W args (.bool true) W':=by
 have hr:∀ t∈f.params.toList,P.readableRec t=true∧t < P.types.size:=fun t ht=>by simpa using List.all_eq_true.1 hr0 t ht
 have hW':=hW;have hlt:∀ x∈before,x.block < W.heap.size:=fun x hx=>hW.lt x hx
 obtain ⟨p,q,hA,hV,rfl,hfz,hnd⟩:=hW;rw [hvars] at hV;obtain ⟨rfl,rfl⟩:=trodVars_none hV;refine ⟨ds,[],p++[],[],p,[],hW',?_,?_,?_,hb.frame _,fun h=>by cases h⟩
 · rw [List.append_nil,hs,hres]
   exact trodAll_mk1 (shut_bool hbool _)
 · rw [List.append_nil,hs]
   exact args_stay hl hb _ _ _ _ hr hA (fun x hx=>hlt x (by simp [hx]))
 · rw [List.append_nil,hs,hvars]
   exact rfl
structure Opens {α:Type} (P:Program) (t:TypeId) (T:Ty α):Prop where
 out:∀ {H:Type} {enc:TypeId × Value→H} {w:World} {base:Nat} {sp:Nat→Bool} {held:Bool} {fuel:Nat} {cs:List Value} {x:DataW H × List MemPlace},
  DataW.trod enc P w base sp held fuel t cs=some x→∃ a F,T.rep false w a cs F
section
variable {α β:Type} {P:Program} {t e:TypeId}
theorem opens_byte (ht:P.underlying t=some (.int .u8)):Opens P t byte:=by
 constructor; intro H enc w base sp held fuel cs x h
 obtain ⟨n,rfl,_,hw⟩:=DataW.trod_int ht h;have hn:0≤n∧n≤255:=by simpa [Lit.wf,IntKind.min,IntKind.max,IntKind.signed,IntKind.bits] using hw
 refine ⟨UInt8.ofNat n.toNat,[],?_,rfl,trivial⟩
 have:((UInt8.ofNat n.toNat).toNat:Int)=n:=by
  rw [UInt8.toNat_ofNat']; omega
 show [Value.int .u8 n]=[Value.int .u8 ((UInt8.ofNat n.toNat).toNat:Int)]
 rw [this]
theorem repL_of {T:Ty α} {w:World} (css:Nat→List Value):∀ n i:Nat,(∀ k,i≤k→k < i+n→∃ a F,T.rep false w a (css k) F) →
 ∃ xs F,xs.length=n∧repL T false w xs ((List.range' i n).flatMap css) F
 | 0,i,_=>⟨[],[],rfl,rfl,rfl⟩
 | n+1,i,h=>by
   obtain ⟨a,F,ha⟩:=h i (Nat.le_refl _) (by omega);obtain ⟨xs,G,hl,hx⟩:=repL_of css n (i+1) (fun k h1 h2=>h k (by omega) (by omega));refine ⟨a :: xs,F++G,by simp [hl],css i,_,F,G,?_,rfl,ha,hx⟩;simp [List.range'_succ]
theorem flat_get {css:Nat→List Value} {s:Nat} (hs0:0 < s):∀ (n i:Nat) (_hs:∀ k,i≤k→k < i+n→(css k).length=s) (j:Nat) (u:Value),((List.range' i n).flatMap css)[j]?=some u →
 ∃ k r,i≤k∧k < i+n∧r < s∧j=(k - i) * s+r∧(css k)[r]?=some u
 | 0,_,_,_,_,h=>by simp at h
 | n+1,i,hs,j,u,h=>by
   rw [List.range'_succ,List.flatMap_cons] at h;have h0:=hs i (Nat.le_refl _) (by omega)
   by_cases hj:j < s
   · rw [List.getElem?_append_left (by omega)] at h
     exact ⟨i,j,Nat.le_refl _,by omega,hj,by simp,h⟩
   · rw [List.getElem?_append_right (by omega),h0] at h
     obtain ⟨k,r,h1,h2,h3,h4,h5⟩:=flat_get hs0 n (i+1) (fun k a b=>hs k (by omega) (by omega)) (j - s) u h;refine ⟨k,r,by omega,by omega,h3,?_,h5⟩;have e:k - i=(k - (i+1))+1:=by omega
     rw [e,Nat.add_mul]; omega
theorem opens_slice {T:Ty α} (ht:P.underlying t=some (.slice e)) (hC:P.cellsOf e=T.size) (h0:0 < T.size) (he:Opens P e T):Opens P t (T.slice e):=by
 constructor; intro H enc w base sp held fuel cs x h
 rcases Go.Deep.open_slice ht h with ⟨rfl,_⟩ | ⟨a,len,cap,m,n,D,Pl,rfl,hb,hl,hm,hmm,rfl,hx⟩
 · exact ⟨[],[],(slice_nil T e false w)⟩
 · have hlm:len≤m:=by rw [hmm]; split <;> omega
   have hcell:∀ i,i < len→∃ cs',cs'.length=T.size∧(∀ j,j < T.size→w.cell? ((a.add (i * T.size)).add j)=cs'[j]?)∧(∃ y F,T.rep false w y cs' F):=by
    intro i hi;obtain ⟨cs',h1,h2⟩:=hx i (by omega);rw [hC] at h1;obtain ⟨_,hlen,hat⟩:=World.cells?_some h1;exact ⟨cs',hlen,hat,he.out h2⟩
   let css:Nat→List Value:=fun i=>if hi:i < len then (hcell i hi).choose else []
   have hcss:∀ i,i < len→(css i).length=T.size∧(∀ j,j < T.size→w.cell? ((a.add (i * T.size)).add j)=(css i)[j]?)∧(∃ y F,T.rep false w y (css i) F):=by
    intro i hi;have:css i=(hcell i hi).choose:=by simp [css,hi]
    rw [this];exact (hcell i hi).choose_spec
   obtain ⟨xs,F,hlen,hr⟩:=repL_of (T:=T) (w:=w) css len 0 (fun k _ hk=>(hcss k (by omega)).2.2);refine ⟨xs,[a.block].filter (fun b=>decide (b < w.heap.size))++F,some a,cap,_,_,F,by rw [hlen],rfl,by omega,hm,hr,?_,?_,fun h=>by cases h⟩
   · intro b hb'
     simpa using (List.mem_filter.1 hb').2
   · intro hn
     have hpos:0 < len:=by omega
     obtain ⟨hl0,hc0,_⟩:=hcss 0 hpos;have h00:=hc0 0 h0;rw [Nat.zero_mul] at h00;have e0:((a.add 0).add 0)=a:=by simp [Addr.add]
     rw [e0,List.getElem?_eq_getElem (by omega)] at h00
     have hspot:a.spot=none:=by
      obtain ⟨b,off,spot⟩:=a;exact World.cell?_spot h00
     have hlt:a.block < w.heap.size:=World.block_lt_of_cell? w a h00;obtain ⟨b,off,spot⟩:=a;simp only at hspot;subst hspot;refine ⟨b,off,rfl,?_,?_⟩
     · rw [List.mem_filter]; exact ⟨by simp,by simpa using hlt⟩
     · intro j u hu
       obtain ⟨k,r,_,hk,hr',rfl,hget⟩:=flat_get h0 len 0 (fun k _ hk=>(hcss k (by omega)).1) j u hu;have:=(hcss k (by omega)).2.1 r hr';rw [hget] at this;rw [Go.Deep.add_add] at this;have e1:((⟨b,off,none⟩:Addr).add (k * T.size+r))=⟨b,off+(k * T.size+r),none⟩:=by unfold Addr.add; split <;> simp_all
       rw [e1] at this
       simpa using this
theorem arg_slice {H:Type} {enc:TypeId × Value→H} {w:World} {r:Reach} {b0 base:Nat} {sp:Nat→Bool} {held:Bool} {v:Value} {d:DataW H} {p:List MemPlace} {T:Ty α} (ht:P.underlying t=some (.slice e)) (hv:Value.okWide P w r b0 t v) (ho:Opens P t T) (h:DataW.Trod enc P w base sp held t v d p):∃ a F,T.rep false w a [v] F:=by
 obtain ⟨a,n,c,rfl⟩:=okWide_slice ht hv;obtain ⟨fuel,hf⟩:=h;exact ho.out (by simpa [Value.cells] using hf)
end
end Go.Proofs.YtafgknkcjohjeaaGreatDoor

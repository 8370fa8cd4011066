/- The type Template: its data, how it lies in memory, and the law's own to, eq and sz over it. Conditions: none. -/
import Derived.Test.YtalmeogjhmblhaaGreatRows
import Derived.Test.YtalmeogjhmblhaaGreatConfw
namespace Go.Proofs.YtalmeogjhmblhaaGreat
open Go Go.RowKit
set_option maxHeartbeats 8000000
structure PTemp where
 label:ByteArray
 feats:List PFeat
 deriving DecidableEq
def pTemp (ep:TypeId):Ty PTemp:=(str.prod (pFeats ep)).via fun t=>(t.label,t.feats)
def pTemps (ep e:TypeId):Ty (List PTemp):=(pTemp ep).slice e
theorem pTemp_rep {ep:TypeId} {o:Bool} {w:World} {t:PTemp} {cs:List Value} {F:List Nat}:(pTemp ep).rep o w t cs F↔∃ v,cs=[.string t.label,v]∧t.label.size≤maxLen∧(pFeats ep).rep o w t.feats [v] F:=by
 constructor
 · rintro ⟨c1,c2,F1,F2,rfl,rfl,⟨rfl,rfl,h1⟩,h2⟩
   obtain ⟨A,c,ec,F0,F3,rfl,_⟩:=id h2;exact ⟨_,rfl,h1,by simpa using h2⟩
 · rintro ⟨v,rfl,h1,h2⟩
   exact ⟨[.string t.label],[v],[],F,rfl,rfl,⟨rfl,rfl,h1⟩,h2⟩
theorem pTemps_open {ep:TypeId} {o:Bool} {w:World} {e:TypeId} {xs:List PTemp} {v:Value} {F:List Nat} (h:(pTemps ep e).rep o w xs [v] F) :
 ∃ A c,v=.slice A xs.length c∧xs.length≤c∧c≤maxLen∧∀ k (hk:k < xs.length),∃ b off u Fk,A=some ⟨b,off,none⟩∧b < w.heap.size∧b∈F ∧
  xs[k].label.size≤maxLen∧(pFeats ep).rep o w xs[k].feats [u] Fk∧(∀ x∈Fk,x∈F)∧w.cell? ⟨b,off+k * 2,none⟩=some (.string xs[k].label)∧w.cell? ⟨b,off+k * 2+1,none⟩=some u:=by
 obtain ⟨A,c,hv,h1,h2,h3⟩:=slice_open h;refine ⟨A,c,hv,h1,h2,fun k hk=>?_⟩;obtain ⟨b,off,ck,Fk,hA,hb,hin,hr,hF,hc⟩:=h3 k hk;obtain ⟨u,rfl,hl,hr2⟩:=pTemp_rep.1 hr;exact ⟨b,off,u,Fk,hA,hb,hin,hl,hr2,hF,hc 0 _ rfl,by rw [Nat.add_assoc]; exact hc 1 _ rfl⟩
theorem Row.onl {w w':World} {F:List Nat} {g:Nat} {e:TypeId} {cs:List Value} (h:Row w g e cs) (ho:Only F w w') (hg:g∉F):Row w' g e cs:=(ho.block g h.lt hg).trans h
theorem fresh_join {B N:Nat} {F G:List Nat} (h:Fresh B F) (hl:∀ x∈F,x < N) (k:Fresh N G) (hB:B≤N):Fresh B (F++G) :=
 ⟨List.nodup_append.2 ⟨h.1,k.1,fun x h1 y h2 e=>by subst e; have:=hl x h1; have:=k.2 x h2; omega⟩,fun x hx=>by
  rcases List.mem_append.1 hx with h1 | h1
  · exact h.2 x h1
  · have:=k.2 x h1; omega⟩
theorem toTemplate_c {o:Bool} {e:TypeId} {l:ByteArray} {xs:List PFeat} {v:Value} {F:List Nat} (w:World) (h:(pFeats e).rep o w xs [v] F) (hx:xs.length≤1048576) :
 Calls Tryz.prog 183 #[.agg #[.string l,v]] w fun e' w'=>∃ u G,e'=.returned (.agg #[.string l,u])∧(pFeats 347).rep true w' xs [u] G∧Fresh w.heap.size G∧Below w.heap.size w w':=by
 obtain ⟨Aa,ka,rfl⟩:=slice_len h;have lb:∀ x,x < w.heap.size→x∉[w.heap.size+1,w.heap.size+1+1]:=fun x hx hin=>by simp at hin; omega
 have ndh:∀ x∈_,x∉[w.heap.size+1,w.heap.size+1+1]:=fun x hx=>lb x (h.blocks x hx)
 go_enter Tryz.func183,Tryz.ntmps183
 go_wp2_with fail
 have on1:=(Only.refl [w.heap.size+1,w.heap.size+1+1] (((w.alloc (.cells #[.string l,.slice Aa xs.length ka] 251)).alloc (.cells #[.string { data:=#[] },.slice none 0 0] 260)).alloc (.cells #[.string l,.slice none 0 0] 260)))
 replace h:=(((h.alloc (.cells #[.string l,.slice Aa xs.length ka] 251)).alloc (.cells #[.string { data:=#[] },.slice none 0 0] 260)).alloc (.cells #[.string l,.slice none 0 0] 260))
 have R:=(((Row.new w 251 #[.string l,.slice Aa xs.length ka]).alloc (.cells #[.string { data:=#[] },.slice none 0 0] 260)).alloc (.cells #[.string l,.slice none 0 0] 260))
 have T:=((Row.new (w.alloc (.cells #[.string l,.slice Aa xs.length ka] 251)) 260 #[.string { data:=#[] },.slice none 0 0]).alloc (.cells #[.string l,.slice none 0 0] 260))
 have O:=Row.new ((w.alloc (.cells #[.string l,.slice Aa xs.length ka] 251)).alloc (.cells #[.string { data:=#[] },.slice none 0 0] 260)) 260 #[.string l,.slice none 0 0];simp only [World.size_alloc] at T O;have bb:Below w.heap.size w (((w.alloc (.cells #[.string l,.slice Aa xs.length ka] 251)).alloc (.cells #[.string { data:=#[] },.slice none 0 0] 260)).alloc (.cells #[.string l,.slice none 0 0] 260)):=((((Below.refl _ _).alloc (Nat.le_refl _) _).alloc (by simp) _).alloc (by simp; omega) _)
 have bbs:w.heap.size+1+1+1≤((((w.alloc (.cells #[.string l,.slice Aa xs.length ka] 251)).alloc (.cells #[.string { data:=#[] },.slice none 0 0] 260)).alloc (.cells #[.string l,.slice none 0 0] 260))).heap.size:=by simp
 replace h:=h.only on1 ndh;replace R:=R.onl on1 (fun hin=>by simp at hin <;> omega);replace bb:=bb.trans (on1.below (by omega) (fun x hx=>by simp at hx; omega));replace bbs:=Nat.le_trans bbs on1.size;refine (toFeatS_c _ h hx).mono ?_;rintro e w1 ⟨u1_0,G1_0,rfl,r1_0,f1,b1⟩;replace h:=h.below b1;replace R:=R.later b1;replace T:=T.later b1;replace O:=O.later b1;have bz1:=b1.size;replace bb:=bb.trans (b1.mono bb.size);obtain ⟨Au1_0,ku1_0,rfl⟩:=slice_len r1_0;have FR:=f1.mono (B':=w.heap.size) (by omega);have fl1:∀ x∈G1_0,w.heap.size+1+1+1≤x:=fun x hx=>Nat.le_trans bbs (f1.2 x hx)
 have ndr1_0:∀ x∈G1_0,x∉[w.heap.size+1,w.heap.size+1+1]:=fun x hx hin=>by have:=fl1 x (by simp [hx]); simp at hin; omega
 replace bbs:=Nat.le_trans bbs bz1;have sz1:=bbs;have qr0:=R.c0;have qr1:=R.c1;have qo0:=O.c0;have qo1:=O.c1;have qof:=O.frozen;have qt0:=T.c0;have qt1:=T.c1;have qtf:=T.frozen
 go_wp2_with fail
 have onE:=((((Only.refl [w.heap.size+1,w.heap.size+1+1] w1).set (p:=⟨w.heap.size+1+1,1,none⟩) (by simp) (.slice Au1_0 xs.length ku1_0)).set (p:=⟨w.heap.size+1,0,none⟩) (by simp) (.string l)).set (p:=⟨w.heap.size+1,1,none⟩) (by simp) (.slice Au1_0 xs.length ku1_0))
 have TF:=(((T.far (p:=⟨w.heap.size+1+1,1,none⟩) (by simp) (.slice Au1_0 xs.length ku1_0)).set 0 (.string l)).set 1 (.slice Au1_0 xs.length ku1_0))
 have e0:=TF.c0;have e1:=TF.c1;clear qr0 qr1 qo0 qo1 qt0 qt1 qof qtf;replace r1_0:=r1_0.only onE ndr1_0;have bE:=bb.trans (onE.below bb.size (fun x hx=>by simp at hx; omega));have hres:(.agg #[.string l,.slice Au1_0 xs.length ku1_0])=(.agg #[.string l,.slice Au1_0 xs.length ku1_0]:Value):=rfl;refine bodyPost_ret (v:=.agg #[.string l,.slice Au1_0 xs.length ku1_0]) (by simp only [results,Tryz.results183]; go_simp) rfl ⟨_,G1_0,rfl,r1_0,?_,bE⟩
 simpa only [List.append_assoc] using FR
theorem toTemplateS_c {o:Bool} {pe e:TypeId} {xs:List PTemp} {v:Value} {F:List Nat} (w:World) (h:(pTemps pe e).rep o w xs [v] F) (hx:xs.length≤1048576) (hxe:∀ l∈xs,l.feats.length≤1048576) :
 Calls Tryz.prog 130 #[v] w fun e w'=>∃ u G,e=.returned u∧(pTemps 347 260).rep true w' xs [u] G∧Fresh w.heap.size G∧Below w.heap.size w w':=by
 obtain ⟨A,c,rfl,hc1,hc2,hr⟩:=pTemps_open h;have hmk:=make_run (P:=Tryz.prog) (t:=45) (e:=260) (z:=.agg #[.string .empty,.slice none 0 0]) (size:=2) (bytes:=40) Tryz.underlying45 (by kernel_rfl) xs.length xs.length rfl (by omega) (by unfold maxLen; omega)
 go_enter Tryz.func130,Tryz.ntmps130
 go_wp2_with fail
 go_loopw [4] (fun i wr=>∃ k:Nat,k≤xs.length∧i=.int .i64 k∧∃ cs G rest,Row wr w.heap.size 260 (cs++rest)∧repL (pTemp 347) true wr (xs.take k) cs G∧Fresh (w.heap.size+1) G∧rest.length=(xs.length - k) * 2∧Below w.heap.size w wr) (fun i _=>xs.length - (intOf i).toNat)
 case atStart =>
  exact ⟨0,Nat.zero_le _,rfl,[],[],_,Row.new w _ _,⟨rfl,rfl⟩,⟨by simp,by simp⟩,by simp [madeCells],(Below.refl _ _).alloc (Nat.le_refl _) _⟩
 case round =>
  obtain ⟨k,hk,rfl,cs,G,rest,hrow,hrep,hfr,hrl,hb⟩:=hrel
  by_cases hlt:k < xs.length
  · obtain ⟨b,off,v1,F1,rfl,hbb,_,hls,R1,_,h0,h1⟩:=hr k hlt
    rw [← hb.cell (p:=⟨b,_,none⟩) hbb] at h0 h1;have hbs:=hb.size;have hrl2:=hrow.lt
    have hpl:cs.length=k * 2:=by
     have:=repL_len hrep;rw [List.length_take,Nat.min_eq_left (by omega)] at this;rw [this]; rfl
    obtain ⟨r0,r1,rest',rfl⟩:∃ r0 r1 rest',rest=r0 :: r1 :: rest':=by
     match rest,hrl with
     | r0 :: r1 :: rest',_=>exact ⟨_,_,_,rfl⟩
     | [],h=>simp at h; omega
     | [_],h=>simp at h; omega
    have L1:=hxe _ (List.getElem_mem hlt);obtain ⟨A0,k0,rfl⟩:=slice_len R1;have Q1:=Lib.hid (R1.below hb);have HR:=Lib.hid hrow;have HP:=Lib.hid hrep;have HF:=Lib.hid hfr;have HL:=Lib.hid hpl;clear hr h hmk R1 hrow hrep hfr hpl
    go_wp2_with (go_at_call 183; refine (toTemplate_c (l:=xs[k].label) _ Q1.out L1).mono ?_; rintro e w1 ⟨u1,G1,rfl,r1,f1,hb1⟩; obtain ⟨A1,k1,rfl⟩:=slice_len r1; have hrow1:=HR.out.later hb1; obtain ⟨⟨v0,hv0⟩,hf0⟩:=hrow1.can (i:=k * 2) (by simp [HL.out]); obtain ⟨⟨v1,hv1⟩,hf1⟩:=hrow1.can (i:=k * 2+1) (by simp [HL.out]))
    go_roundw
    case rel =>
     have hz:=hb1.size;refine ⟨k+1,by omega,by go_num,cs++[.string xs[k].label,.slice A1 (xs[k].feats).length k1],G++G1,rest',?_,?_,⟨?_,?_⟩,by simp at hrl; omega,((hb.trans (hb1.mono hbs)).setCell (Nat.le_refl _) _).setCell (Nat.le_refl _) _⟩
     · have R:=(hrow1.put (j:=0) (i:=k * 2) (by rw [HL.out]; rfl) (.string xs[k].label)).put (j:=1) (i:=k * 2+1) (by rw [HL.out]) (.slice A1 (xs[k].feats).length k1)
       rw [List.append_assoc];exact R
     · rw [List.take_succ_eq_append_getElem hlt]
       have nG:w.heap.size∉G:=fun hin=>by have:=HF.out.2 _ hin; omega
       have nG1:w.heap.size∉G1:=fun hin=>by have:=f1.2 _ hin; omega
       refine repL_append (repL_set (repL_set (repL_below HP.out hb1) nG _) nG _) (repL_single.2 (pTemp_rep.2 ⟨_,rfl,hls,(r1.setCell nG1 _).setCell nG1 _⟩))
     · refine List.nodup_append.2 ⟨HF.out.1,f1.1,fun x h1 y h2 e=>?_⟩
       subst e;have:=repL_lt HP.out x h1; have:=f1.2 x h2; omega
     · intro x hx
       rcases List.mem_append.1 hx with h | h
       · exact HF.out.2 x h
       · have:=f1.2 x h; omega
    case measure=>simp [intOf]; omega
  · obtain rfl:k=xs.length:=by omega
    go_wp2_with fail
    go_ret;have h0:rest=[]:=List.eq_nil_of_length_eq_zero (by simpa using hrl);subst h0;rw [List.append_nil] at hrow;rw [List.take_length] at hrep;exact ⟨_,w.heap.size :: G,rfl,slice_of_row hrow hrep (by unfold maxLen; omega),⟨List.nodup_cons.2 ⟨fun hin=>by have:=hfr.2 _ hin; omega,hfr.1⟩,fun x hx=>by rcases List.mem_cons.1 hx with rfl | h; exact Nat.le_refl _; have:=hfr.2 x h; omega⟩,hb⟩
theorem eqTemplate_c {oa ob:Bool} {ea eb:TypeId} {l m:ByteArray} {xs ys:List PFeat} {v u:Value} {F G:List Nat} (w:World) (h:(pFeats ea).rep oa w xs [v] F) (h':(pFeats eb).rep ob w ys [u] G) (hx:xs.length≤1048576) (hy:ys.length≤1048576) :
 Calls Tryz.prog 203 #[.agg #[.string l,v],.agg #[.string m,u]] w fun e w'=>e=.returned (.bool (decide (l=m) && decide (xs=ys)))∧Below w.heap.size w w':=by
 have H:=Lib.hid (fun w' (q:(pFeats ea).rep oa w' xs [v] F) (q':(pFeats eb).rep ob w' ys [u] G)=>eqFeatS_c w' q q' hx hy);have hb:Below w.heap.size w ((w.alloc (.cells #[.string l,v] 260)).alloc (.cells #[.string m,u] 260)):=((Below.refl _ _).alloc (Nat.le_refl _) _).alloc (by simp) _;have g:(!(l.toList == m.toList))=!(decide (l=m)):=by rw [str_eq]
 generalize decide (l=m)=d at g ⊢;generalize decide (xs=ys)=d' at H ⊢;obtain ⟨A1,k1,rfl⟩:=slice_len h;obtain ⟨A2,k2,rfl⟩:=slice_len h';cases d
 · go_enter Tryz.func203,Tryz.ntmps203
   go_wp2_with fail
   go_ret;exact ⟨rfl,hb⟩
 · cases d'
   all_goals
    go_enter Tryz.func203,Tryz.ntmps203
    go_wp2_with fail
    refine (H.out _ ((h.alloc _).alloc _) ((h'.alloc _).alloc _)).mono ?_;rintro e w1 ⟨rfl,b1⟩
    go_wp2_with fail
    go_ret;exact ⟨rfl,hb.trans (b1.mono hb.size)⟩
set_option maxRecDepth 100000 in
theorem eqTemplateS_c {oa ob:Bool} {pa pb ea eb:TypeId} {xs ys:List PTemp} {v u:Value} {F G:List Nat} (w:World) (h:(pTemps pa ea).rep oa w xs [v] F) (h':(pTemps pb eb).rep ob w ys [u] G) (hx:xs.length≤1048576) (hy:ys.length≤1048576) (hxe:∀ l∈xs,l.feats.length≤1048576) (hye:∀ l∈ys,l.feats.length≤1048576) :
 Calls Tryz.prog 151 #[v,u] w fun e w'=>e=.returned (.bool (decide (xs=ys)))∧Below w.heap.size w w':=by
 obtain ⟨A,c,rfl,hc1,hc2,hr⟩:=pTemps_open h;obtain ⟨B,d,rfl,hd1,hd2,hs⟩:=pTemps_open h';clear h h'
 by_cases hl:xs.length=ys.length
 · have hne:((xs.length:Int) != (ys.length:Int))=false:=by simp [hl]
   have HL:=Lib.hid hl;clear hl
   go_enter Tryz.func151,Tryz.ntmps151
   go_wp2_with fail
   go_loopw [5] (fun i wr=>∃ k:Nat,k≤xs.length∧i=.int .i64 k∧(∀ j (hj:j < xs.length) (hj':j < ys.length),j < k→xs[j]=ys[j])∧Below w.heap.size w wr) (fun i _=>xs.length - (intOf i).toNat)
   case atStart=>exact ⟨0,Nat.zero_le _,rfl,fun _ _ _ h=>by omega,Below.refl _ _⟩
   case round =>
    obtain ⟨k,hk,rfl,hall,hb⟩:=hrel;have hbs:=hb.size
    by_cases hlt:k < xs.length
    · have hlt':k < ys.length:=by have:=HL.out; omega
      obtain ⟨b,off,v1,F1,rfl,hbb,_,_,R1,_,h0,h1⟩:=hr k hlt;obtain ⟨b',off',v2,F2,rfl,hbb',_,_,R2,_,g0,g1⟩:=hs k hlt';rw [← hb.cell (p:=⟨b,_,none⟩) hbb] at h0 h1;rw [← hb.cell (p:=⟨b',_,none⟩) hbb'] at g0 g1
      have e2:(xs[k]=ys[k])=(xs[k].label=ys[k].label∧xs[k].feats=ys[k].feats):=by
       rw [eq_iff_iff]; constructor
       · intro h; rw [h]; exact ⟨rfl,rfl⟩
       · intro h; cases hx:xs[k]; cases hy:ys[k]; rw [hx,hy] at h; simpa using h
      have hd:(decide (xs[k].label=ys[k].label) && decide (xs[k].feats=ys[k].feats))=decide (xs[k]=ys[k]):=by rw [← Bool.decide_and]; exact decide_eq_decide.2 (by rw [e2])
      have L1:=hxe _ (List.getElem_mem hlt);have L2:=hye _ (List.getElem_mem hlt');have C:=fun (w':World) (q1:(pFeats pa).rep oa w' xs[k].feats [v1] F1) (q2:(pFeats pb).rep ob w' ys[k].feats [v2] F2)=>eqTemplate_c (l:=xs[k].label) (m:=ys[k].label) w' q1 q2 L1 L2
      rw [hd] at C;have Q1:=Lib.hid (R1.below hb);have Q2:=Lib.hid (R2.below hb);have HA:=Lib.hid hall;obtain ⟨A1,k1,rfl⟩:=slice_len R1;obtain ⟨A2,k2,rfl⟩:=slice_len R2;clear hr hs R1 R2 e2 hd hall
      by_cases heq:xs[k]=ys[k]
      · rw [decide_eq_true heq] at C
        have HC:=Lib.hid C;have HK:=Lib.hid heq;clear C heq
        go_wp2_with fail
        go_still_tail 8,(by kernel_rfl)
        go_wp2_with (go_at_call 203; refine (HC.out _ Q1.out.drew Q2.out.drew).mono ?_; rintro e w1 ⟨rfl,b1⟩)
        go_roundw
        case rel=>exact ⟨k+1,by omega,by go_num,fun j hj hj' h=>by
         rcases Nat.lt_or_eq_of_le (Nat.le_of_lt_succ h) with h | h
         · exact HA.out j hj hj' h
         · subst h; exact HK.out,hb.drew.trans (b1.mono hbs)⟩
        case measure=>simp [intOf]; omega
      · rw [decide_eq_false heq] at C
        have HC:=Lib.hid C;have hne2:¬ xs=ys:=fun e=>heq (by subst e; rfl)
        have HN:=Lib.hid hne2;clear hne2 C heq
        go_wp2_with fail
        go_still_tail 8,(by kernel_rfl)
        go_wp2_with (go_at_call 203; refine (HC.out _ Q1.out.drew Q2.out.drew).mono ?_; rintro e w1 ⟨rfl,b1⟩)
        go_ret;exact ⟨by simp [HN.out],hb.drew.trans (b1.mono hbs)⟩
    · obtain rfl:k=xs.length:=by omega
      have heq:xs=ys:=List.ext_getElem HL.out (fun j h1 h2=>hall j h1 h2 h1);have HE:=Lib.hid heq;clear heq hr hs
      go_wp2_with fail
      go_ret;exact ⟨by simp [← HE.out],hb⟩
 · have hne:((xs.length:Int) != (ys.length:Int))=true:=by rw [bne_iff_ne]; omega
   have hxy:¬ xs=ys:=fun e=>hl (by rw [e])
   have HL:=Lib.hid hxy;clear hl hxy
   go_enter Tryz.func151,Tryz.ntmps151
   go_wp2_with fail
   go_ret;exact ⟨by simp [HL.out],Below.refl _ _⟩
def szTemp (t:PTemp):Nat:=t.label.size+t.feats.length
def szTemps (xs:List PTemp):Nat:=xs.length+(xs.map szTemp).sum
theorem szTemps_take (xs:List PTemp) (k:Nat) (h:k < xs.length):((xs.take (k+1)).map szTemp).sum=((xs.take k).map szTemp).sum+szTemp xs[k]:=by
 rw [List.take_succ_eq_append_getElem h,List.map_append,List.sum_append]; simp
theorem szTemps_each {xs:List PTemp} {n:Nat} (h:szTemps xs≤n):xs.length≤n∧∀ t∈xs,t.label.size≤n∧t.feats.length≤n:=by
 unfold szTemps at h;refine ⟨by omega,fun t ht=>?_⟩
 have:∀ l:List Nat,∀ x∈l,x≤l.sum:=by
  intro l
  induction l with
  | nil=>simp
  | cons a r ih =>
    intro x hx;rw [List.sum_cons];rcases List.mem_cons.1 hx with rfl | hx
    · omega
    · have:=ih x hx; omega
 have:=this _ _ (List.mem_map.2 ⟨t,ht,rfl⟩:szTemp t∈xs.map szTemp);have e:szTemp t=t.label.size+t.feats.length:=rfl;omega
theorem szTemplate_c {o:Bool} {e:TypeId} {l:ByteArray} {xs:List PFeat} {v:Value} {F:List Nat} (w:World) (h:(pFeats e).rep o w xs [v] F) (hls:l.size≤maxLen) (left:Int) (hl:0≤left∧left≤1048576) :
 Calls Tryz.prog 168 #[.agg #[.string l,v],.int .i64 left] w fun e' w'=>(∃ r:Int,e'=.returned (.int .i64 r)∧-1≤r∧r≤left∧(0≤r→r+(l.size+xs.length:Nat)≤left))∧Below w.heap.size w w':=by
 have al:Below w.heap.size w (w.alloc (.cells #[.string l,v] 251)):=(Below.refl _ _).alloc (Nat.le_refl _) _;obtain ⟨A1,k1,rfl⟩:=slice_len h;unfold maxLen at hls
 by_cases h0:left - l.size < 0
 · go_enter Tryz.func168,Tryz.ntmps168
   go_wp2_with fail
   go_ret;exact ⟨⟨-1,rfl,by omega,by omega,by omega⟩,al⟩
 · have h1:¬ (left - (l.size:Int) < 0):=h0
   have H:=Lib.hid (fun w' (q:(pFeats e).rep o w' xs [.slice A1 xs.length k1] F)=>szFeatS_c w' q (left - l.size) (by omega))
   go_enter Tryz.func168,Tryz.ntmps168
   go_wp2_with fail
   refine (H.out _ (h.alloc _)).mono ?_;rintro e' w1 ⟨⟨r,rfl,hr0,hr1,hr2⟩,b1⟩
   by_cases n0:r < 0
   · go_wp2_with fail
     go_ret;exact ⟨⟨-1,rfl,by omega,by omega,by omega⟩,al.trans (b1.mono (by simp))⟩
   · go_wp2_with fail
     go_ret;exact ⟨⟨r,rfl,by omega,by omega,by omega⟩,al.trans (b1.mono (by simp))⟩
theorem szTemplateS_c {o:Bool} {pe e:TypeId} {xs:List PTemp} {v:Value} {F:List Nat} (w:World) (h:(pTemps pe e).rep o w xs [v] F) (left:Int) (hl:0≤left∧left≤1048576) :
 Calls Tryz.prog 115 #[v,.int .i64 left] w fun e w'=>(∃ r:Int,e=.returned (.int .i64 r)∧r≤left∧(0≤r→r+szTemps xs≤left))∧Below w.heap.size w w':=by
 obtain ⟨A,c,rfl,hc1,hc2,hr⟩:=pTemps_open h;clear h;unfold maxLen at hc2
 by_cases h0:left - xs.length < 0
 · go_enter Tryz.func115,Tryz.ntmps115
   go_wp2_with fail
   go_ret;exact ⟨⟨-1,rfl,by omega,by omega⟩,Below.refl _ _⟩
 · have h1:¬ (left - (xs.length:Int) < 0):=h0
   go_enter Tryz.func115,Tryz.ntmps115
   go_wp2_with fail
   go_loopw [1,5] (fun l i wr=>∃ k:Nat,k≤xs.length∧i=.int .i64 k∧(∃ n:Int,0≤n∧n≤left∧Hid (n+xs.length+((xs.take k).map szTemp).sum≤left)∧l=.int .i64 n)∧Below w.heap.size w wr) (fun _ i _=>xs.length - (intOf i).toNat)
   case atStart=>exact ⟨0,Nat.zero_le _,rfl,⟨left - xs.length,by omega,by omega,by show _≤_; simp,rfl⟩,Below.refl _ _⟩
   case round =>
    obtain ⟨k,hk,rfl,⟨n,hn0,hn1,hn,rfl⟩,hb⟩:=hrel;have hbs:=hb.size
    by_cases hlt:k < xs.length
    · obtain ⟨b,off,v1,F1,rfl,hbb,_,hls,R1,_,hc0,hc1'⟩:=hr k hlt
      rw [← hb.cell (p:=⟨b,_,none⟩) hbb] at hc0 hc1';have Q1:=Lib.hid (szTemplate_c (l:=xs[k].label) wr (R1.below hb) hls n ⟨hn0,by omega⟩);have H:=Lib.hid (szTemps_take xs k hlt);have HS:=Lib.hid (show szTemp xs[k]=xs[k].label.size+xs[k].feats.length from rfl);obtain ⟨A1,k1,rfl⟩:=slice_len R1;clear hr R1 hls
      go_wp2_with fail
      refine Q1.out.mono ?_;rintro e w1 ⟨⟨r,rfl,hr0,hr1,hr2⟩,hb1⟩
      by_cases n0:r < 0
      · go_wp2_with fail
        go_ret;exact ⟨⟨-1,rfl,by omega,by omega⟩,hb.trans (hb1.mono hbs)⟩
      · go_wp2_with fail
        go_roundw
        case rel=>exact ⟨k+1,by omega,by go_num,⟨r,by omega,by omega,by show _≤_; have h1:=hn.out; have:=hr2 (by omega); have:=HS.out; rw [H.out]; omega,rfl⟩,hb.trans (hb1.mono hbs)⟩
        case measure=>simp [intOf]; omega
    · obtain rfl:k=xs.length:=by omega
      clear hr
      go_wp2_with fail
      go_ret;refine ⟨⟨n,rfl,by omega,fun _=>?_⟩,hb⟩;have h1:=hn.out;rw [List.take_length] at h1;unfold szTemps;omega
end Go.Proofs.YtalmeogjhmblhaaGreat

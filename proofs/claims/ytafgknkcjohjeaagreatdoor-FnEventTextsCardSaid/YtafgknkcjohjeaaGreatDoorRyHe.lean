/- The least cost ahead of a pair, in the program. Conditions: none. -/
import Derived.Test.YtafgknkcjohjeaaGreatDoorRzHe
import Derived.Test.YtafgknkcjohjeaaGreatDoorRyFe
import Derived.Test.YtafgknkcjohjeaaGreatDoorTke
import Derived.Test.YtafgknkcjohjeaaGreatDoorRyCe
import Derived.Test.YtafgknkcjohjeaaGreatDoorRcWordse
import Derived.Test.YtafgknkcjohjeaaGreatDoorTyFeate
import Derived.Test.YtafgknkcjohjeaaGreatDoorRyPe
namespace Go.Proofs.YtafgknkcjohjeaaGreatDoor
open Go Go.RowKit
set_option maxHeartbeats 8000000
set_option maxRecDepth 100000
def Around (w:World) (a b:List PFeat) (band:Int) (T i j m gU gR:Nat):Prop :=
 (0 < i→w.cell? ⟨T,i - 1,none⟩=some (.slice (some ⟨gU,0,none⟩) m m)∧∀ y,y < m→w.cell? ⟨gU,y,none⟩=some (.int .i64 (elC a b band 1099511627776 (i - 1) y))) ∧
 w.cell? ⟨T,i,none⟩=some (.slice (some ⟨gR,0,none⟩) m m)∧(∀ y,y < j→w.cell? ⟨gR,y,none⟩=some (.int .i64 (elC a b band 1099511627776 i y)))∧T < w.heap.size∧(0 < i→gU < w.heap.size)∧gR < w.heap.size
theorem Around.below {w w':World} {a b:List PFeat} {band:Int} {T i j m gU gR:Nat} (h:Around w a b band T i j m gU gR) (hb:Below w.heap.size w w'):Around w' a b band T i j m gU gR:=by
 obtain ⟨h1,h2,h3,h4,h5,h6⟩:=h;refine ⟨fun h0=>⟨(hb.cell (p:=⟨T,_,none⟩) h4).trans (h1 h0).1,fun y hy=>(hb.cell (p:=⟨gU,_,none⟩) (h5 h0)).trans ((h1 h0).2 y hy)⟩,(hb.cell (p:=⟨T,_,none⟩) h4).trans h2,fun y hy=>(hb.cell (p:=⟨gR,_,none⟩) h6).trans (h3 y hy),Nat.lt_of_lt_of_le h4 hb.size,fun h0=>Nat.lt_of_lt_of_le (h5 h0) hb.size,Nat.lt_of_lt_of_le h6 hb.size⟩
def Done (w:World) (a b:List PFeat) (band:Int) (B m i:Nat) (G:Nat→Nat):Prop:=∀ x,x < i→Row w (G x) 2 (ints m fun y=>elC a b band 1099511627776 x y)∧B < G x
theorem Done.later {w w':World} {a b:List PFeat} {band:Int} {B m i:Nat} {G:Nat→Nat} (h:Done w a b band B m i G) (hb:Below w.heap.size w w'):Done w' a b band B m i G:=fun x hx=>⟨(h x hx).1.later hb,(h x hx).2⟩
theorem Done.drew {w:World} {a b:List PFeat} {band:Int} {B m i:Nat} {G:Nat→Nat} (h:Done w a b band B m i G):Done w.drew a b band B m i G:=fun x hx=>⟨(h x hx).1.drew,(h x hx).2⟩
theorem Done.far {w:World} {a b:List PFeat} {band:Int} {B m i g q:Nat} {G:Nat→Nat} (h:Done w a b band B m i G) (hg:∀ x,x < i→G x≠g) (v:Value):Done (w.setCell ⟨g,q,none⟩ v) a b band B m i G:=fun x hx=>⟨(h x hx).1.far (p:=⟨g,q,none⟩) (hg x hx) v,(h x hx).2⟩
theorem spec_l09Least_c {oa ob:Bool} {ea eb:TypeId} {a b:List PFeat} {va vb:Value} {F G:List Nat} {band v:Int} (w:World) (ha:(pFeats ea).rep oa w a [va] F) (hb:(pFeats eb).rep ob w b [vb] G) (fa:∀ f∈a,featB f=true) (fb:∀ f∈b,featB f=true) (ha1:1≤a.length∧a.length≤72) (hb1:1≤b.length∧b.length≤72) (hbd:0≤band∧band≤72) (hv:elZ a b band=some v) :
 Calls Tryz.prog 128 #[va,vb,.int .i64 band] w fun e w'=>e=.returned (.int .i64 v)∧Below w.heap.size w w':=by
 have CT:=Lib.hid (spec_l09Table_c w ha hb fa fb ha1 hb1 hbd);have HV:=Lib.hid (elC_last (far:=1000000000) hv);obtain ⟨x,hx⟩:∃ x,a.length=x+1:=⟨a.length - 1,by omega⟩
 obtain ⟨y,hy⟩:∃ y,b.length=y+1:=⟨b.length - 1,by omega⟩
 have hN:a.length * b.length=x * (y+1)+y+1:=by rw [hx,hy,Nat.add_mul]; omega
 have hsm:a.length * b.length≤72 * 72:=Nat.mul_le_mul ha1.2 hb1.2;obtain ⟨va1,vc,rfl,-,-,-⟩:=pFeats_open ha;obtain ⟨vb1,vd,rfl,-,-,-⟩:=pFeats_open hb;have HX:=Lib.hid hx;have HY:=Lib.hid hy;have HN:=Lib.hid hN;clear ha hb fa fb hv hx hy hN
 go_enter Tryz.func128,Tryz.ntmps128
 go_wp2_with fail
 refine CT.out.mono ?_;rintro e w1 ⟨g,rfl,R,b1⟩
 have c0:w1.cell? ⟨g,x * (y+1)+y,none⟩=some (.int .i64 v):=by
  rw [R.cell,ints_get (by have:=HN.out; omega)];have e:x * (y+1)+y=x * b.length+y:=by rw [HY.out]
  rw [e,tabF_get (by have:=HY.out; omega) (by rw [← e]; have:=HN.out; omega),← HV.out,HX.out,HY.out,Nat.add_sub_cancel,Nat.add_sub_cancel]
 obtain ⟨N,hN2⟩:∃ N,a.length * b.length=N:=⟨_,rfl⟩
 obtain ⟨q,hq⟩:∃ q,x * (y+1)+y=q:=⟨_,rfl⟩
 have hNq:N=q+1:=by have:=HN.out; omega
 rw [hq] at c0;rw [hN2];have k1:IntKind.i64.wrap ((N:Int) - 1)=(q:Int):=(IntWalk.i64_in _ (by omega)).trans (by omega);have k2:(q:Int) < (N:Int):=by omega
 have k3:(0:Int)≤(q:Int):=by omega
 clear hNq hq hN2 R
 go_wp2_with fail
 go_ret;exact ⟨rfl,b1⟩
theorem bandZ_eq {band:Int} (h:0≤band∧band≤72) (n m:Nat):bandZ band n m=bandB band n m:=by
 have:inR band 0 72=true:=by simp only [inR,Bool.and_eq_true,decide_eq_true_eq]; exact h
 rw [bandZ,this,Bool.true_and]; rfl
theorem spec_l10In_c {oa ob:Bool} {ea eb:TypeId} {a b:List PFeat} {va vb:Value} {F G:List Nat} {band:Int} (w:World) (ha:(pFeats ea).rep oa w a [va] F) (hb:(pFeats eb).rep ob w b [vb] G) (ha1:a.length≤1000) (hb1:b.length≤1000) (hbd:0≤band∧band≤72) :
 Calls Tryz.prog 127 #[va,vb,.int .i64 band] w fun e w'=>e=.returned (.bool (bandB band a.length b.length))∧w'=w:=by
 obtain ⟨A,ca,rfl,-,-,-⟩:=pFeats_open ha;obtain ⟨B,cb,rfl,-,-,-⟩:=pFeats_open hb;have C:=Lib.hid (fun w=>spec_l10Band_c band (a.length:Int) (b.length:Int) w (by omega) (by omega));rw [bandZ_eq hbd] at C;clear ha hb
 go_enter Tryz.func127,Tryz.ntmps127
 go_wp2_with fail
 refine (C.out _).mono ?_;rintro e w1 ⟨rfl,rfl⟩
 go_wp2_with fail
 go_ret;exact ⟨rfl,rfl⟩
theorem spec_l11Matches_c {o of:Bool} {ft tm ef:TypeId} {p:PSetup} {fs:List PFeat} {A:Option Addr} {c gS oS:Nat} {vf:Value} {F Ff:List Nat} (w:World) (gl:gS < w.heap.size) (cB:w.cell? ⟨gS,oS,none⟩=some (.int .i64 p.band)) (cT:w.cell? ⟨gS,oS+1,none⟩=some (.slice A p.temps.length c)) (h:(pTemps ft tm).rep o w p.temps [.slice A p.temps.length c] F) (hf:(pFeats ef).rep of w fs [vf] Ff) (hp:setupB p=true) (hfs:∀ f∈fs,featB f=true) (h1:1≤fs.length∧fs.length≤72) :
 Calls Tryz.prog 112 #[.pointer (some ⟨gS,oS,none⟩),vf] w (GivesO (pMatch.slice 207) (matchK p fs p.temps.length) w):=by
 obtain ⟨hts,hbd,ht40,-⟩:=setup_parts hp;have CI:=Lib.hid (fun (wr:World) (k:Nat) (u:Value) (Fk:List Nat) (hk:k < p.temps.length) (r:(pFeats ft).rep o wr p.temps[k].feats [u] Fk) (rf:(pFeats ef).rep of wr fs [vf] Ff)=>spec_l10In_c wr rf r (by omega) (by have:=(tempB_parts (hts _ (List.getElem_mem hk))).2.2.2; omega) hbd)
 have CL:=Lib.hid (fun (wr:World) (k:Nat) (u:Value) (Fk:List Nat) (hk:k < p.temps.length) (r:(pFeats ft).rep o wr p.temps[k].feats [u] Fk) (rf:(pFeats ef).rep of wr fs [vf] Ff) (hb:bandB p.band fs.length (tmpAt p k).feats.length=true) =>
  have ht:=tempB_parts (hts _ (List.getElem_mem hk));have hm:=matchV_small hp hfs h1.1 h1.2 hk hb
  spec_l09Least_c (v:=matchV p fs k) wr rf r hfs ht.2.1 h1 ⟨ht.2.2.1,ht.2.2.2⟩ hbd (by have:=hm.1; rw [tmpAt_get hk] at this; exact this))
 have MV:=Lib.hid (fun (k:Nat) (hk:k < p.temps.length) hb=>matchV_small hp hfs h1.1 h1.2 hk hb);obtain ⟨Af,nf,cf,rfl⟩:=slice_form hf;have H:=Lib.hid h;have HF:=Lib.hid hf;have GL:=Lib.hid gl;have HB:=Lib.hid cB;have HT:=Lib.hid cT;clear h hf hp hfs hts
 go_enter Tryz.func112,Tryz.ntmps112
 go_wp2_with fail
 clear cB cT
 go_loopw [5,6] (fun l i wr=>∃ (k:Nat) (v:Value) (G:List Nat),l=v∧i=.int .i64 k∧k≤p.temps.length∧Hid ((pMatch.slice 207).rep true wr (matchK p fs k) [v] G∧Fresh w.heap.size G∧Below w.heap.size w wr)) (fun _ i _=>p.temps.length - (intOf i).toNat)
 case atStart =>
  exact ⟨0,_,[w.heap.size],rfl,rfl,by omega,Lib.hid ⟨slice_of_row (T:=pMatch) (xs:=[]) (Row.new w _ _) ⟨rfl,rfl⟩ (by simp [maxLen]),⟨by simp,by simp⟩,(Below.refl _ _).alloc (Nat.le_refl _) _⟩⟩
 case round =>
  obtain ⟨k,vk,G,rfl,rfl,hk,all⟩:=hrel;obtain ⟨rep,fr,hb⟩:=all.out;have x0:=(hb.cell (p:=⟨gS,oS,none⟩) GL.out).trans HB.out;have x1:=(hb.cell (p:=⟨gS,oS+1,none⟩) GL.out).trans HT.out;have hgS:=Nat.lt_of_lt_of_le GL.out hb.size;obtain ⟨U,un,uc2,rfl⟩:=slice_form rep;have FR:=Lib.hid fr;have REP:=Lib.hid rep;have HBW:=Lib.hid hb;clear rep fr all
  by_cases hlt:k < p.temps.length
  · obtain ⟨A',c',he,-,-,hr⟩:=pTemps_open H.out
    cases he;obtain ⟨bs,os,u1,F1,rfl,hbq,-,-,r1,-,-,c1⟩:=hr k hlt;obtain ⟨A1,n1,k1,rfl⟩:=slice_form r1;have gk:(k:Int) < (p.temps.length:Int):=by omega
    have gk0:(0:Int)≤(k:Int):=by omega
    have kw:=IntWalk.i64_in ((k:Int)+1) (by omega);have C:=Lib.hid (fun wr (b:Below w.heap.size w wr)=>CI.out wr k (.slice A1 n1 k1) F1 hlt (r1.below b) (HF.out.below b));have HS:=Lib.hid (fun (w':World) (b:Below w.heap.size w w')=>show (fun w':World=>w'.cell? ⟨gS,oS,none⟩=some (.int .i64 p.band)∧w'.cell? ⟨gS,oS+1,none⟩=some (.slice (some ⟨bs,os,none⟩) p.temps.length c)∧w'.cell? ⟨bs,os+k * 2+1,none⟩=some (.slice A1 n1 k1)) w' from ⟨(b.cell (p:=⟨gS,_,none⟩) GL.out).trans HB.out,(b.cell (p:=⟨gS,_,none⟩) GL.out).trans HT.out,(b.cell (p:=⟨bs,_,none⟩) hbq).trans c1⟩);have HN:=Lib.hid (show matchK p fs (k+1)=if bandB p.band fs.length p.temps[k].feats.length=true then matchK p fs k++[(k,matchV p fs k)] else matchK p fs k by rw [matchK,tmpAt_get hlt]);have CV:=Lib.hid (fun wr (b:Below w.heap.size w wr) hb=>CL.out wr k (.slice A1 n1 k1) F1 hlt (r1.below b) (HF.out.below b) (by rw [tmpAt_get hlt]; exact hb));have MK:=Lib.hid (fun hb=>MV.out k hlt (by rw [tmpAt_get hlt]; exact hb));have LN:=Lib.hid (matchK_len p fs k);have cc:=(hb.cell (p:=⟨bs,_,none⟩) hbq).trans c1;clear hr r1 hb CI CL MV c1 hbq
    go_upto_region 5 with fail
    cases hbb:bandB p.band fs.length p.temps[k].feats.length
    case' true =>
     rw [hbb] at C;have MK1:=MK.out hbb;have HN1:=Lib.hid (show matchK p fs (k+1)=matchK p fs k++[(k,matchV p fs k)] by rw [HN.out,if_pos hbb]);generalize matchV p fs k=mv at CV MK1 HN1;have C2:=Lib.hid (fun wr r=>CV.out wr r hbb);obtain ⟨-,hm0,hm1⟩:=MK1
    case' false =>
     rw [hbb] at C;have HN1:=Lib.hid (show matchK p fs (k+1)=matchK p fs k by rw [HN.out,if_neg (by rw [hbb]; decide)])
    all_goals
     clear MK HN hbb CV
     go_quiet ((go_at_call 127; exact Calls.quiet_of_same (C.out _ (by first | exact HBW.out | exact HBW.out.drew | exact below_drewN HBW.out _))))
     obtain ⟨m9,rfl⟩:∃ n:Nat,n=nq:=⟨_,rfl⟩
     replace REP:=Lib.hid (REP.out.drewN m9);replace HBW:=Lib.hid (below_drewN HBW.out m9);clear x0 x1 cc hgS;generalize World.drewN _ m9=wq at REP HBW ⊢
    case false =>
     go_wp2_with fail
     exact ⟨⟨k+1,_,G,rfl,by go_num,by omega,Lib.hid ⟨by rw [HN1.out]; exact REP.out,FR.out,HBW.out⟩⟩,by simp [intOf]; omega⟩
    case true =>
     go_upto_region 6 with fail
     have hS:(fun w':World=>w'.cell? ⟨gS,oS,none⟩=some (.int .i64 p.band)∧w'.cell? ⟨gS,oS+1,none⟩=some (.slice (some ⟨bs,os,none⟩) p.temps.length c)∧w'.cell? ⟨bs,os+k * 2+1,none⟩=some (.slice A1 n1 k1)) wq.drew:=HS.out _ HBW.out.drew;refine wp_region_held_drew (S:=(fun w':World=>w'.cell? ⟨gS,oS,none⟩=some (.int .i64 p.band)∧w'.cell? ⟨gS,oS+1,none⟩=some (.slice (some ⟨bs,os,none⟩) p.temps.length c)∧w'.cell? ⟨bs,os+k * 2+1,none⟩=some (.slice A1 n1 k1))) (by kernel_rfl) hS (fun _=>?_);replace REP:=Lib.hid REP.out.drew;replace HBW:=Lib.hid HBW.out.drew;generalize wq.drew=we at REP HBW hS ⊢;refine tJ 0 hS ?_;refine tJ 1 hS ?_;refine tJ 2 hS ?_;refine tJ 3 hS ?_;refine tJ 4 hS ?_;refine tJ 5 hS ?_;refine tJ 6 hS ?_;refine tJ 7 hS ?_;refine tJ 8 hS ?_;refine tJ 9 hS ?_;refine tJ 10 hS ?_;refine tJ 11 hS ?_;refine tJ 12 hS ?_;refine tJ 13 hS ?_;refine tJ 14 hS ?_;refine rJ 15 fun K hK=>?_
     refine step_call 128 #[.tmp 33,.tmp 41,.tmp 45] _ rfl rfl #[.slice Af nf cf,.slice A1 n1 k1,.int .i64 p.band] Tryz.call128 (by go_simp) (C2.out we HBW.out) ?_;rintro e w2 ⟨rfl,b2⟩;refine ⟨_,rfl,?_⟩;replace REP:=Lib.hid (REP.out.below b2);replace HBW:=Lib.hid (HBW.out.trans (b2.mono HBW.out.size));replace hS:=HS.out w2 HBW.out;clear b2;refine bJ hK hS ?_;clear hK K;simp only [Act.put,pA,pB,pC];refine tJ 16 hS ?_;refine rJ 17 fun K hK=>?_
     go_simp
     replace HBW:=Lib.hid (HBW.out.alloc HBW.out.size (.cells #[.int .i64 (k:Int),.int .i64 mv] 207));replace hS:=HS.out _ HBW.out;refine bJ hK hS ?_;clear hK K;replace REP:=Lib.hid (REP.out.alloc (.cells #[.int .i64 (k:Int),.int .i64 mv] 207));have hat:CellsAt (w2.alloc (.cells #[.int .i64 (k:Int),.int .i64 mv] 207)) (some ⟨w2.heap.size,0,none⟩) [.int .i64 (k:Int),.int .i64 mv]:=cellsAt_new _ _ _;generalize w2.alloc (.cells #[.int .i64 (k:Int),.int .i64 mv] 207)=w3 at hS REP HBW hat ⊢;refine rJ 18 fun K hK=>?_
     refine step_append_repX (T:=pMatch) (e:=207) (ys:=[(k,mv)]) (ec:=[.int .i64 (k:Int),.int .i64 mv]) rfl (.tmp 31) (.tmp 48) rfl Tryz.underlying204 infoMatch rfl (by decide) rfl REP.out rfl (flat_repL _ (by intro z hz; simp only [List.mem_singleton] at hz; subst hz; exact ⟨by show k < 1048576; omega,by constructor <;> omega⟩)) hat (by rw [List.append_nil]; exact FR.out.1) (by have:=LN.out; simp only [List.length_singleton,maxLen]; omega) (by have:=LN.out; simp only [List.length_singleton]; omega) ?_;intro v6 w6 F6 r6 o6 f6 x6;have HB6:=Lib.hid (HBW.out.trans (o6.below (B:=w.heap.size) HBW.out.size FR.out.2));have f6':=Lib.hid (f6 w.heap.size (by rw [List.append_nil]; exact FR.out) HBW.out.size);replace hS:=HS.out w6 HB6.out;refine bJ hK hS ?_;have R6:=Lib.hid r6;clear hK K r6 o6 f6 x6 hat REP HBW;obtain ⟨V6,n6,c6,rfl⟩:=slice_form R6.out;refine tJ 19 hS ?_;refine wpAnyH_done (by kernel_rfl) ?_ _;clear hS
     go_wp2_with fail
     exact ⟨⟨k+1,_,F6,rfl,by go_num,by omega,Lib.hid ⟨by rw [HN1.out]; exact R6.out,f6'.out,HB6.out⟩⟩,by simp [intOf]; omega⟩
  · obtain rfl:k=p.temps.length:=by omega
    have gk:¬ (p.temps.length:Int) < (p.temps.length:Int):=by omega
    clear CI CL MV hb
    go_wp2_with fail
    go_ret;exact ⟨_,G,rfl,REP.out,FR.out,HBW.out⟩
theorem cellsAt_take {w:World} {A:Option Addr} {cs:List Value} (h:CellsAt w A cs) (n:Nat):CellsAt w A (cs.take n):=fun h0=>by
 rw [List.length_take] at h0;obtain ⟨b,off,rfl,hc⟩:=h (by omega);refine ⟨b,off,rfl,fun j u hu=>hc j u ?_⟩;rw [List.getElem?_take] at hu
 split at hu
 · exact hu
 · cases hu
theorem spec_l13First_c {o:Bool} {e:TypeId} {xs:List HypZ} {v:Value} {F:List Nat} {most:Int} (w:World) (r:(pHyp.slice e).rep o w xs [v] F) (hx:xs.length≤1000) (hm:0≤most∧most≤1000) :
 Calls Tryz.prog 114 #[v,.int .i64 most] w (GivesO (pHyp.slice 169) (xs.take most.toNat) w):=by
 have HOK:=Lib.hid (flat_ok r);have hblk:=r.blocks;obtain ⟨A,c,ec,F0,F1,rfl,rfl,hel,hat⟩:=slice_elems r;obtain ⟨rfl,rfl,-⟩:=flat_repL_inv hel;obtain ⟨A',c',he,hc1,hc2,hr⟩:=pHyps_open r;cases he;have hmin:((most.toNat:Nat):Int)=most:=by omega
 obtain ⟨k,hk⟩:∃ k,min most.toNat xs.length=k:=⟨_,rfl⟩
 have hkk:min most (xs.length:Int)=(k:Int):=by omega
 have htk:xs.take most.toNat=xs.take k:=by rw [← hk,List.take_eq_take_min]
 have CM:=Lib.hid (fun w=>minZ_c most (xs.length:Int) w);rw [hkk] at CM;rw [htk];have hkl:k≤xs.length:=by omega
 have HNT:=Lib.hid (show (xs.take k).length=k by rw [List.length_take]; omega);have ht:=cellsAt_take hat (k * 2);rw [show ((xs.flatMap fun h:HypZ=>[Value.string h.label,.int .i64 h.cost]).take (k * 2))=(xs.take k).flatMap (fun h:HypZ=>[Value.string h.label,.int .i64 h.cost]) from flatMap_take (n:=2) (enc:=fun h:HypZ=>[Value.string h.label,.int .i64 h.cost]) (fun _=>rfl) xs k] at ht
 have HLT:=Lib.hid (show CellsAt (w.alloc (.cells #[] 169)) A ((xs.take k).flatMap (fun h:HypZ=>[Value.string h.label,.int .i64 h.cost])) from fun h0=>by
  obtain ⟨b,off,rfl,hc⟩:=ht h0
  have hb:b < w.heap.size:=by
   have h1:0 < xs.length:=by
    rcases Nat.eq_zero_or_pos xs.length with h | h
    · rw [List.eq_nil_of_length_eq_zero h] at h0; simp at h0
    · exact h
   obtain ⟨b',off',hA,hb',-⟩:=hr 0 h1;cases hA; exact hb'
  exact ⟨b,off,rfl,fun j u hu=>((Below.refl w.heap.size w).alloc (Nat.le_refl _) (.cells #[] 169)).cell (p:=⟨b,off+j,none⟩) hb |>.trans (hc j u hu)⟩)
 have gk0:(0:Int)≤(k:Int):=by omega
 have gk1:(k:Int)≤(xs.length:Int):=by omega
 have gk2:(k:Int)≤(c:Int):=by omega
 have HK:=Lib.hid (show k≤1000 by omega);clear hr hel hat ht htk hkk hk hmin hblk r
 go_enter Tryz.func114,Tryz.ntmps114
 go_wp2_with fail
 refine (CM.out _).mono ?_;rintro e w1 ⟨rfl,hw1⟩;subst hw1
 go_wp2_with (at_builtin; refine wpList_append_repX (T:=pHyp) (e:=169) (ys:=xs.take k) (ec:=(xs.take k).flatMap fun h:HypZ=>[Value.string h.label,.int .i64 h.cost]) rfl (.tmp 5) (.tmp 11) rfl Tryz.underlying165 infoHyp rfl (by decide) rfl (empty_is pHyp _ _) (by rw [HNT.out]; rfl) (flat_repL _ (fun z hz=>HOK.out z (List.mem_of_mem_take hz))) HLT.out trivial (by simp) (by rw [HNT.out]; have:=HK.out; simp only [List.length_nil,maxLen]; omega) (by rw [HNT.out]; have:=HK.out; simp only [List.length_nil]; omega) ?_; intro v2 w2 F2 r2 o2 f2 x2)
 have b2:=((Below.refl w.heap.size w).alloc (Nat.le_refl _) (.cells #[] 169)).trans (o2.below (B:=w.heap.size) (by simp) (by simp));have fr2:=f2 w.heap.size ⟨by simp,by simp⟩ (by simp);go_ret;exact ⟨_,F2,rfl,by simpa using r2,fr2,b2⟩
theorem insK_len {α κ:Type} [DecidableEq κ] {lt:α→α→Bool} {key:α→κ} (L:List α) (h:α):(insK lt key L h).length≤L.length+1:=by
 unfold insK
 split
 · omega
 · have h1:=(insS_perm (lt:=lt) h (L.filter fun x=>!decide (key x=key h))).length_eq
   have h2:=List.length_filter_le (fun x=>!decide (key x=key h)) L;rw [h1,List.length_cons]; omega
def insU (l:List HypZ) (i:Nat):List HypZ:=(l.take i).foldl (insK hypLt HypZ.label) []
theorem insU_succ {l:List HypZ} {i:Nat} (hi:i < l.length):insU l (i+1)=insK hypLt HypZ.label (insU l i) l[i]:=by
 rw [insU,List.take_succ_eq_append_getElem hi,List.foldl_append]; rfl
theorem insU_len (l:List HypZ):∀ i,i≤l.length→(insU l i).length≤i
 | 0,_=>by simp [insU]
 | i+1,h=>by
   have:=insU_len l i (by omega);rw [insU_succ (by omega)];have h2:=insK_len (lt:=hypLt) (key:=HypZ.label) (insU l i) (l[i]'(by omega));omega
theorem insU_sorted (l:List HypZ) (i:Nat):(insU l i).Pairwise (fun x y=>hypLt x y=true):=by
 have:=best_ins (key:=HypZ.label) hypLt_sto (l.take i) [] [] .nil;exact this.sorted
theorem rawOf_len (p:PSetup) (pen:Int) (l:List (Nat × Int)):(rawOf p pen l).length=l.length:=by simp [rawOf]
theorem rawOf_get {p:PSetup} {pen:Int} {l:List (Nat × Int)} {i:Nat} (h:i < l.length):(rawOf p pen l)[i]'(by rw [rawOf_len]; exact h)=⟨(tmpAt p l[i].1).label,l[i].2+pen⟩:=by simp [rawOf]
theorem pen_small {p:PSetup} (hp:0≤p.pen∧p.pen≤1000) {n:Nat} (h1:1≤n) (h16:n≤16):0≤p.pen * ((n:Int) - 1)∧p.pen * ((n:Int) - 1)≤15000:=by
 refine ⟨Int.mul_nonneg hp.1 (by omega),?_⟩;have:=Int.mul_le_mul hp.2 (show (n:Int) - 1≤15 by omega) (by omega) (by decide);omega
theorem feats_both {xs:List PStroke} {p:PSetup} (hp:2≤p.points∧p.points≤24) (h1:1≤xs.length) (h72:(xs.length:Int) * p.points≤72):1≤(featsInk xs p.points.toNat).length∧(featsInk xs p.points.toNat).length≤72:=by
 rw [featsInk_len];obtain ⟨n,hn⟩:∃ n:Nat,p.points=n:=⟨p.points.toNat,by omega⟩
 rw [hn] at h72 ⊢;rw [Int.toNat_natCast];have h2:xs.length * n≤72:=by exact_mod_cast h72
 exact ⟨Nat.mul_pos h1 (by omega),h2⟩
theorem spec_l13Of_c {o ox:Bool} {ft tm pe st:TypeId} {p:PSetup} {xs:List PStroke} {A Ax:Option Addr} {c cx gS oS gX oX gT oT:Nat} {F Fx:List Nat} (w:World) (lS:gS < w.heap.size) (lX:gX < w.heap.size) (lT:gT < w.heap.size) (cB:w.cell? ⟨gS,oS,none⟩=some (.int .i64 p.band)) (cT:w.cell? ⟨gS,oS+1,none⟩=some (.slice A p.temps.length c)) (cX:w.cell? ⟨gX,oX,none⟩=some (.slice Ax xs.length cx)) (t0:w.cell? ⟨gT,oT,none⟩=some (.int .i64 p.points)) (t1:w.cell? ⟨gT,oT+1,none⟩=some (.int .i64 p.most)) (t2:w.cell? ⟨gT,oT+2,none⟩=some (.int .i64 p.pen))
 (h:(pTemps ft tm).rep o w p.temps [.slice A p.temps.length c] F) (hx:(pStrokes pe st).rep ox w xs [.slice Ax xs.length cx] Fx) (hp:setupB p=true) (hs:∀ s∈xs,strokeB s=true) (h1:1≤xs.length) (h16:xs.length≤16) (h72:(xs.length:Int) * p.points≤72) :
 Calls Tryz.prog 85 #[.pointer (some ⟨gS,oS,none⟩),.pointer (some ⟨gX,oX,none⟩),.pointer (some ⟨gT,oT,none⟩)] w (GivesO (pHyp.slice 169) (hypsZ p xs) w):=by
 obtain ⟨hts,hbd,ht40,hpt,hmo,hpn,-⟩:=setup_parts hp;obtain ⟨n,hn⟩:∃ n:Nat,p.points=n:=⟨p.points.toNat,by omega⟩
 have hfb:=feats_both hpt h1 h72;have hfo:=featsInk_ok hs (n:=p.points.toNat) (by omega);have hpen:=pen_small hpn h1 h16;have CF:=Lib.hid (spec_l08Of_c (n:=n) w lX cX hx hs h1 h16 (by omega));have CM:=Lib.hid (fun (wr:World) (vf:Value) (Ff:List Nat) (b:Below w.heap.size w wr) (rf:(pFeats 182).rep true wr (featsInk xs p.points.toNat) [vf] Ff)=>spec_l11Matches_c wr (Nat.lt_of_lt_of_le lS b.size) ((b.cell (p:=⟨gS,_,none⟩) lS).trans cB) ((b.cell (p:=⟨gS,_,none⟩) lS).trans cT) (h.below b) rf hp hfo hfb);have MV:=Lib.hid (fun (m:Nat × Int) (hm:m∈matchK p (featsInk xs p.points.toNat) p.temps.length)=>have h5:=matchK_mem hm; (show m.1 < p.temps.length∧0≤m.2∧m.2≤82082 from ⟨h5.1,by rw [h5.2.2]; exact (matchV_small hp hfo hfb.1 hfb.2 h5.1 h5.2.1).2⟩))
 have HRES:=Lib.hid (show hypsZ p xs=(insU (rawOf p (p.pen * ((xs.length:Int) - 1)) (matchK p (featsInk xs p.points.toNat) p.temps.length)) (matchK p (featsInk xs p.points.toNat) p.temps.length).length).take p.most.toNat by
  rw [hypsZ,rawHyps_match,insU,← rawOf_len p (p.pen * ((xs.length:Int) - 1)),List.take_length])
 have hmlen:=matchK_len p (featsInk xs p.points.toNat) p.temps.length;have htn:p.points.toNat=n:=by omega
 rw [htn] at CM MV HRES hmlen;have z1:=IntWalk.i64_in ((xs.length:Int) - 1) (by omega);obtain ⟨pen,hpe⟩:∃ q,p.pen * ((xs.length:Int) - 1)=q:=⟨_,rfl⟩
 have z2:IntKind.i64.wrap (p.pen * ((xs.length:Int) - 1))=pen:=by rw [hpe] at hpen ⊢; exact IntWalk.i64_in _ (by omega)
 rw [hpe] at hpen HRES;generalize hms:matchK p (featsInk xs n) p.temps.length=ms at CM MV HRES hmlen;have H:=Lib.hid h
 have HS:=Lib.hid (fun (w':World) (b:Below w.heap.size w w')=>show (w'.cell? ⟨gS,oS+1,none⟩=some (.slice A p.temps.length c)∧w'.cell? ⟨gX,oX,none⟩=some (.slice Ax xs.length cx)∧w'.cell? ⟨gT,oT+1,none⟩=some (.int .i64 p.most)∧w'.cell? ⟨gT,oT+2,none⟩=some (.int .i64 p.pen)) from
  ⟨(b.cell (p:=⟨gS,_,none⟩) lS).trans cT,(b.cell (p:=⟨gX,_,none⟩) lX).trans cX,(b.cell (p:=⟨gT,_,none⟩) lT).trans t1,(b.cell (p:=⟨gT,_,none⟩) lT).trans t2⟩)
 rw [hn] at t0;have HMO:=Lib.hid hmo;clear h hx hp hs hfb hfo hpe hms hts hbd htn cB cT cX t1 t2 hpt h72 hmo hn hpn
 go_enter Tryz.func85,Tryz.ntmps85
 go_wp2_with fail
 refine CF.out.mono ?_;rintro e w1 ⟨vf,Ff,rfl,rf,ff,b1⟩;have HRF:=Lib.hid rf;have B1:=Lib.hid b1;clear t0 CF ff rf b1
 go_wp2_with fail
 refine (CM.out w1 vf Ff B1.out HRF.out).mono ?_;rintro e w2 ⟨vm,Fm,rfl,rm,fm,b2⟩;have B2:=Lib.hid (B1.out.trans (b2.mono B1.out.size));have HRM:=Lib.hid rm;obtain ⟨Am,cm,rfl,-,-,-⟩:=pMatchs_open rm;clear CM B1 HRF rm b2
 go_wp2_with fail
 go_loopw [8,9] (fun l i wr=>∃ (k:Nat) (v:Value) (G:List Nat),l=v∧i=.int .i64 k∧k≤ms.length∧Hid ((pHyp.slice 169).rep true wr (insU (rawOf p pen ms) k) [v] G∧Fresh w2.heap.size G∧Below w2.heap.size w2 wr)) (fun _ i _=>ms.length - (intOf i).toNat)
 case atStart =>
  exact ⟨0,_,[w2.heap.size],rfl,rfl,by omega,Lib.hid ⟨slice_of_row (T:=pHyp) (xs:=[]) (Row.new w2 _ _) ⟨rfl,rfl⟩ (by simp [maxLen]),⟨by simp,by simp⟩,(Below.refl _ _).alloc (Nat.le_refl _) _⟩⟩
 case round =>
  obtain ⟨i,vk,G,rfl,rfl,hk,all⟩:=hrel;obtain ⟨rep,fr,hb⟩:=all.out;have hbw:=B2.out.trans (hb.mono B2.out.size);obtain ⟨s1,s2,s3,s4⟩:=HS.out wr hbw;obtain ⟨U,un,uc2,rfl⟩:=slice_form rep;have FR:=Lib.hid fr;have REP:=Lib.hid rep;have HBW:=Lib.hid hb
  by_cases hlt:i < ms.length
  · obtain ⟨Am',cm',he,-,-,hrm⟩:=pMatchs_open HRM.out
    cases he;obtain ⟨gm,om,rfl,hgm,-,m0,m1,mo1,mo2⟩:=hrm i hlt;have hmem:=MV.out _ (List.getElem_mem hlt);have HN:=Lib.hid (show insU (rawOf p pen ms) (i+1)=insK hypLt HypZ.label (insU (rawOf p pen ms) i) ⟨(tmpAt p ms[i].1).label,ms[i].2+pen⟩ by rw [insU_succ (by rw [rawOf_len]; exact hlt),rawOf_get hlt]);have LN:=Lib.hid (insU_len (rawOf p pen ms) i (by rw [rawOf_len]; exact hk));have SN:=Lib.hid (insU_sorted (rawOf p pen ms) i);generalize insU (rawOf p pen ms) i=us at REP HN LN SN rep;generalize ms[i]=mm at m0 m1 mo1 mo2 hmem HN;obtain ⟨j,mv⟩:=mm;obtain ⟨hj,hv0,hv1⟩:=hmem;obtain ⟨A',c',he,-,-,hr⟩:=pTemps_open H.out;cases he;obtain ⟨bs,os,u1,F1,rfl,hbq,-,hls,-,-,l0,-⟩:=hr j hj;rw [tmpAt_get hj] at HN;generalize p.temps[j].label=lab at l0 hls HN;dsimp only at m0 m1 hj hv0 hv1 HN;have gk:(i:Int) < (ms.length:Int):=by omega
    have gk0:(0:Int)≤(i:Int):=by omega
    have gj:(j:Int) < (p.temps.length:Int):=by omega
    have gj0:(0:Int)≤(j:Int):=by omega
    have kw:=IntWalk.i64_in ((i:Int)+1) (by omega);have z3:=IntWalk.i64_in (mv+pen) (by omega);have HS2:=Lib.hid (fun (w':World) (b:Below w2.heap.size w2 w')=>show (fun w':World=>w'.cell? ⟨gS,oS+1,none⟩=some (.slice (some ⟨bs,os,none⟩) p.temps.length c)∧w'.cell? ⟨gm,om+i * 2,none⟩=some (.int .i64 (j:Nat))∧w'.cell? ⟨bs,os+j * 2,none⟩=some (.string lab)) w' from ⟨(HS.out w' (B2.out.trans (b.mono B2.out.size))).1,(b.cell (p:=⟨gm,_,none⟩) hgm).trans m0,((B2.out.trans (b.mono B2.out.size)).cell (p:=⟨bs,_,none⟩) hbq).trans l0⟩);have m1':=(hb.cell (p:=⟨gm,_,none⟩) hgm).trans m1;have OKL:=Lib.hid (show lab.size≤maxLen∧I64 (mv+pen) from ⟨hls,by constructor <;> omega⟩);clear hr hrm rep fr all hb hbw m0 m1 l0 mo1 mo2 hls
    go_upto_region 6 with fail
    go_quiet (fail)
    obtain ⟨m9,rfl⟩:∃ n:Nat,n=nq:=⟨_,rfl⟩
    replace REP:=Lib.hid (REP.out.drewN m9);replace HBW:=Lib.hid (below_drewN HBW.out m9);clear s1 s2 s3 s4 m1';generalize World.drewN _ m9=wq at REP HBW ⊢
    go_upto_region 7 with fail
    have hS:(fun w':World=>w'.cell? ⟨gS,oS+1,none⟩=some (.slice (some ⟨bs,os,none⟩) p.temps.length c)∧w'.cell? ⟨gm,om+i * 2,none⟩=some (.int .i64 (j:Nat))∧w'.cell? ⟨bs,os+j * 2,none⟩=some (.string lab)) wq.drew:=HS2.out _ HBW.out.drew;refine wp_region_held_drew (S:=(fun w':World=>w'.cell? ⟨gS,oS+1,none⟩=some (.slice (some ⟨bs,os,none⟩) p.temps.length c)∧w'.cell? ⟨gm,om+i * 2,none⟩=some (.int .i64 (j:Nat))∧w'.cell? ⟨bs,os+j * 2,none⟩=some (.string lab))) (by kernel_rfl) hS (fun _=>?_);replace REP:=Lib.hid REP.out.drew;replace HBW:=Lib.hid HBW.out.drew;generalize wq.drew=we at REP HBW hS ⊢;refine tJ 0 hS ?_;refine tJ 1 hS ?_;refine tJ 2 hS ?_;refine tJ 3 hS ?_;refine tJ 4 hS ?_;refine tJ 5 hS ?_;refine tJ 6 hS ?_;refine tJ 7 hS ?_;refine tJ 8 hS ?_;refine tJ 9 hS ?_;refine tJ 10 hS ?_;refine tJ 11 hS ?_;refine tJ 12 hS ?_;refine tJ 13 hS ?_;refine tJ 14 hS ?_;refine rJ 15 fun K hK=>?_
    refine step_call 113 #[.tmp 43,.tmp 57] _ rfl rfl #[.slice U un uc2,.agg #[.string lab,.int .i64 (mv+pen)]] Tryz.call113 (by go_simp) (spec_l13Insert_c (h:=⟨lab,mv+pen⟩) we REP.out (by have:=LN.out; omega) SN.out OKL.out) ?_;rintro e w3 ⟨u3,F3,rfl,r3,f3,b3⟩;refine ⟨_,rfl,?_⟩;have FR3:=Lib.hid (f3 w2.heap.size HBW.out.size FR.out);replace HBW:=Lib.hid (HBW.out.trans (b3.mono HBW.out.size));replace hS:=HS2.out w3 HBW.out;have R3:=Lib.hid r3;obtain ⟨V3,n3,c3,rfl⟩:=slice_form r3;clear b3 REP r3 f3;refine bJ hK hS ?_;clear hK K;simp only [Act.put,pA,pB,pC];refine tJ 16 hS ?_;refine wpAnyH_done (by kernel_rfl) ?_ _;clear hS
    go_wp2_with fail
    exact ⟨⟨i+1,_,F3,rfl,by go_num,by omega,Lib.hid ⟨by rw [HN.out]; exact R3.out,FR3.out,HBW.out⟩⟩,by simp [intOf]; omega⟩
  · obtain rfl:i=ms.length:=by omega
    have gk:¬ (ms.length:Int) < (ms.length:Int):=by omega
    have LN:=insU_len (rawOf p pen ms) ms.length (by rw [rawOf_len]; exact Nat.le_refl _);have C1:=Lib.hid (spec_l13First_c (most:=p.most) wr rep (by omega) (by have:=HMO.out; omega));clear rep fr all hb
    go_wp2_with fail
    refine C1.out.mono ?_;rintro e w3 ⟨u3,F3,rfl,r3,f3,b3⟩
    go_wp2_with fail
    go_ret;exact ⟨_,F3,rfl,by rw [HRES.out]; exact r3,f3.mono (Nat.le_trans B2.out.size HBW.out.size),(B2.out.trans (HBW.out.mono B2.out.size)).trans (b3.mono (Nat.le_trans B2.out.size HBW.out.size))⟩
end Go.Proofs.YtafgknkcjohjeaaGreatDoor

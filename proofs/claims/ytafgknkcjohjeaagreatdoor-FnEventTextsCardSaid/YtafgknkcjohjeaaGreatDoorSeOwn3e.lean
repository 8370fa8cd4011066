/- l11Own of the reference: a store of its own. Conditions: none. -/
import Derived.Test.YtafgknkcjohjeaaGreatDoorTke
import Derived.Test.YtafgknkcjohjeaaGreatDoorSlOpse
namespace Go.Proofs.YtafgknkcjohjeaaGreatDoor
open Go Go.RowKit
theorem emptyAt {α:Type} {T:Ty α} {e t:TypeId} {w:World} {g:Nat} {cs:List Value} (_:Row w g t cs):(T.slice e).rep true (w.alloc (.cells #[] e)) [] [.slice (some ⟨w.heap.size,0,none⟩) 0 0] [w.heap.size]:=empty_is T e w
theorem repL_below' {α:Type} {T:Ty α} {o:Bool} {w w':World} {xs:List α} {cs:List Value} {F:List Nat} (h:repL T o w xs cs F) (_:∀ x∈F,x < w.heap.size) (hb:Below w.heap.size w w'):repL T o w' xs cs F:=repL_below h hb
set_option maxRecDepth 100000 in
set_option maxHeartbeats 4000000 in
theorem spec_l11Own_c {o:Bool} {pe e:TypeId} {n:Int} {xs:List PTemp} {v:Value} {F:List Nat} {g f:Nat} (w:World) (c0:w.cell? ⟨g,f,none⟩=some (.int .i64 n)) (c1:w.cell? ⟨g,f+1,none⟩=some v) (h:(pTemps pe e).rep o w xs [v] F) (hx:xs.length≤1048576) (hxe:∀ l∈xs,l.feats.length≤1048576) :
 Calls Tryz.prog 41 #[.pointer (some ⟨g,f,none⟩),.int .i64 (-1)] w fun e' w'=>∃ u G,e'=.returned (.agg #[.int .i64 n,u])∧(pTemps 182 111).rep true w' xs [u] G∧Fresh w.heap.size G∧Below w.heap.size w w':=by
 obtain ⟨A,c,rfl,hc1,hc2,hr⟩:=pTemps_open h;clear h;have gw:g < w.heap.size:=World.block_lt_of_cell? w ⟨g,f,none⟩ c0
 go_enter Tryz.func41,Tryz.ntmps41
 go_wp2_with fail
 go_loopw [6,7] (fun i t wr=>∃ (k:Nat) (t' u:Value) (G:List Nat),k≤xs.length∧i=.int .i64 k∧t=t'∧Row wr w.heap.size 28 [.int .i64 0,.slice none 0 0]∧Row wr (w.heap.size+1) 28 [.int .i64 n,u]∧(pTemps 182 111).rep true wr (xs.take k) [u] G∧Fresh (w.heap.size+1+1) G∧Below w.heap.size w wr) (fun i _ _=>xs.length - (intOf i).toNat)
 case atStart=>exact ⟨0,_,_,[],Nat.zero_le _,rfl,rfl,(Row.atN _ _ _ rfl).alloc _,Row.atN _ _ _ (by simp),slice_nil _ _ _ _,Fresh.nil _,((Below.refl _ _).alloc (Nat.le_refl _) _).alloc (by simp) _⟩
 case round =>
  obtain ⟨k,t',u,G,hk,rfl,rfl,RO,RS,hrep,hfr,hb⟩:=hrel;have hbs:=hb.size;have m0:=kb hb gw c0;have m1:=kb hb gw c1
  by_cases hlt:k < xs.length
  · obtain ⟨b,off,u1,Fk,rfl,hbb,_,hls,hrk,_,h0,h1⟩:=hr k hlt
    have hwk:=hxe _ (List.getElem_mem hlt);obtain ⟨A',c',rfl⟩:=slice_len hrk;obtain ⟨ec,Gs,hs1,hs2,hsb'⟩:=slice_src hrk;have hsb:∀ x∈Gs,x < w.heap.size:=fun x hx=>hrk.blocks x (hsb' x hx)
    obtain ⟨Au,nu,ku,rfl⟩:=slice_form hrep;have hlen:((xs.take k).length:Nat)=k:=by rw [List.length_take]; omega
    have HL:=Lib.hid hlen;have HF:=Lib.hid hfr;have HLS:=Lib.hid hls;have ngS:w.heap.size+1∉G:=fun hx=>by have:=hfr.2 _ hx; omega
    have ngO:w.heap.size∉G:=fun hx=>by have:=hfr.2 _ hx; omega
    have kne:((k:Int) != -1)=true:=by rw [bne_iff_ne]; omega
    have lS:=RS.lt;have lO:=RO.lt;clear hr hrk hfr hlen hls
    go_wp2_with fail
    clear m0 m1;have HP:=hrep.drew;clear hrep;replace RS:=RS.drew;replace RO:=RO.drew;have bbw:=hb.drew;clear hb hbs lS lO;have hS:(fun w':World=>w'.cell? ⟨b,off+k * 2,none⟩=some (.string xs[k].label)∧w'.cell? ⟨b,off+k * 2+1,none⟩=some (.slice A' xs[k].feats.length c')) wr.drew:=⟨kb bbw hbb h0,kb bbw hbb h1⟩
    dsimp only at hS;refine wp_region_held_drew (S:=(fun w':World=>w'.cell? ⟨b,off+k * 2,none⟩=some (.string xs[k].label)∧w'.cell? ⟨b,off+k * 2+1,none⟩=some (.slice A' xs[k].feats.length c'))) (by kernel_rfl) hS (fun _=>?_);generalize wr.drew=wd at *;have hbs:=bbw.size;have lS:=RS.lt;have lO:=RO.lt;have HLT:=Lib.hid (HP.blocks);refine tJ 0 hS ?_;refine tJ 2 hS ?_;refine tJ 3 hS ?_;refine tJ 4 hS ?_;refine tJ 5 hS ?_;refine tJ 7 hS ?_;refine tJ 8 hS ?_;refine tJ 9 hS ?_;refine tJ 10 hS ?_;refine rJ2 1 6 (fun K hK=>?_) (fun K hK=>?_)
    · skip
      have f1:=RS.c1
      go_simp
      refine hK.out _ _ hS (fun _=>?_);clear hK K f1;refine rJ 6 fun K hK=>?_
      go_simp
      have EM:=emptyAt (T:=pFeat) (e:=182) RS;have nlt:=RS.lt;replace HP:=HP.alloc (.cells #[] 182);replace RS:=RS.alloc (.cells #[] 182);replace RO:=RO.alloc (.cells #[] 182);replace bbw:=bbw.alloc bbw.size (.cells #[] 182);replace hS:(fun w':World=>w'.cell? ⟨b,off+k * 2,none⟩=some (.string xs[k].label)∧w'.cell? ⟨b,off+k * 2+1,none⟩=some (.slice A' xs[k].feats.length c')) _:=⟨kb bbw hbb h0,kb bbw hbb h1⟩
      refine hK.out _ _ hS (fun _=>?_);clear hK K;dsimp only at hS;refine rJ 11 fun K hK=>?_
      refine step_append_repX (T:=pFeat) (e:=182) (xs:=[]) (ys:=xs[k].feats) (ec:=ec) rfl (.tmp 37) (.tmp 41) (by rfl) Tryz.underlying108 Tryz.infoFeat rfl (by decide) (by rfl) EM (by rfl) (pFeat_flat (o':=true) (repL_below' hs1 hsb bbw)) (CellsAt.below hs2 bbw) (by simp) (by simp [maxLen]; omega) (by simp; omega) ?_;intro v2 w2 G2 r2 o2 q2 x2;rw [List.nil_append] at r2;obtain ⟨A2,n2,c2,rfl⟩:=slice_form r2;have os2:=o2.size;have wsz:=bbw.size
      try simp only [World.size_alloc] at os2
      have HQ2:=q2 (wd.heap.size) ⟨by simp,by simp⟩ (by simp);replace RS:=RS.onl o2 (by simp; omega);replace RO:=RO.onl o2 (by simp; omega);replace HP:=HP.only o2 (fun x hx hin=>by simp at hin; have:=HLT.out x hx; omega);replace bbw:=bbw.trans (o2.below bbw.size (fun x hx=>by simp at hx; omega));clear EM;replace hS:(fun w':World=>w'.cell? ⟨b,off+k * 2,none⟩=some (.string xs[k].label)∧w'.cell? ⟨b,off+k * 2+1,none⟩=some (.slice A' xs[k].feats.length c')) _:=⟨kb bbw hbb h0,kb bbw hbb h1⟩
      refine hK.out _ _ hS (fun _=>?_);clear hK K;dsimp only at hS;refine tJ 12 hS ?_;refine rJ 13 fun K hK=>?_
      go_simp
      replace HP:=HP.alloc (.cells #[.string xs[k].label,.slice A2 n2 c2] 111);replace RS:=RS.alloc (.cells #[.string xs[k].label,.slice A2 n2 c2] 111);replace RO:=RO.alloc (.cells #[.string xs[k].label,.slice A2 n2 c2] 111);replace bbw:=bbw.alloc bbw.size (.cells #[.string xs[k].label,.slice A2 n2 c2] 111);replace hS:(fun w':World=>w'.cell? ⟨b,off+k * 2,none⟩=some (.string xs[k].label)∧w'.cell? ⟨b,off+k * 2+1,none⟩=some (.slice A' xs[k].feats.length c')) _:=⟨kb bbw hbb h0,kb bbw hbb h1⟩
      refine hK.out _ _ hS (fun _=>?_);clear hK K;dsimp only at hS;refine rJ 14 fun K hK=>?_
      have HG2:=Lib.hid (fresh_app HF.out HLT.out HQ2 (by omega));refine step_append_repX (T:=pTemp 182) (e:=111) (xs:=xs.take k) (ys:=[xs[k]]) (ec:=[.string xs[k].label,.slice A2 n2 c2]) rfl (.tmp 32) (.tmp 44) (by rfl) Tryz.underlying26 Tryz.infoTemp rfl (by decide) (by rfl) HP (by rfl) (repL_single.2 (pTemp_rep.2 ⟨_,rfl,HLS.out,r2.alloc _⟩)) (cellsAt_new _ _ _) (by simpa using HG2.out.1) (by rw [HL.out]; simp [maxLen]; omega) (by rw [HL.out]; simp; omega) ?_;intro v3 w3 F3 r3 o3 q3 x3;obtain ⟨Av,nv,kv,rfl⟩:=slice_form r3;have os3:=o3.size
      try simp only [World.size_alloc] at os3
      have wsz3:=bbw.size;replace RS:=RS.onl o3 ngS;replace RO:=RO.onl o3 ngO;have FF:=q3 (w.heap.size+1+1) (by simpa using HG2.out) (by simp; omega);replace bbw:=bbw.trans (o3.below bbw.size (fun x hx=>by have:=HF.out.2 x hx; omega));replace hS:(fun w':World=>w'.cell? ⟨b,off+k * 2,none⟩=some (.string xs[k].label)∧w'.cell? ⟨b,off+k * 2+1,none⟩=some (.slice A' xs[k].feats.length c')) _:=⟨kb bbw hbb h0,kb bbw hbb h1⟩
      refine hK.out _ _ hS (fun _=>?_);clear hK K;dsimp only at hS;refine tJ 15 hS ?_;refine rJ 16 fun K hK=>?_
      have f1:=RS.c1;have ff:=RS.frozen
      go_simp
      have RS4:=RS.set 1 (.slice Av nv kv);have RO4:=RO.far (p:=⟨w.heap.size+1,1,none⟩) (by simp) (.slice Av nv kv);have ngF:w.heap.size+1∉F3:=fun hx=>by have:=FF.2 _ hx; omega
      have HR4:=Lib.hid (r3.setCell (p:=⟨w.heap.size+1,1,none⟩) (by exact ngF) (.slice Av nv kv));have HB4:=Lib.hid (bbw.setCell (p:=⟨w.heap.size+1,1,none⟩) (by simp) (.slice Av nv kv));have bb4:=HB4.out;refine hK.out _ _ ⟨kb bb4 hbb h0,kb bb4 hbb h1⟩ (fun _=>?_);clear hK K;refine wpAnyH_done (by kernel_rfl) ?_ _;clear f1 ff RS RO hS bb4 HP
      go_wp2_with fail
      go_roundw
      case rel =>
       refine ⟨k+1,_,.slice Av nv kv,F3,by omega,by go_num,rfl,RO4,RS4,?_,FF,HB4.out⟩;rw [List.take_succ_eq_append_getElem hlt];exact HR4.out
      case measure=>simp [intOf]; omega
    · skip
      go_simp
      have EM:=emptyAt (T:=pFeat) (e:=182) RS;have nlt:=RS.lt;replace HP:=HP.alloc (.cells #[] 182);replace RS:=RS.alloc (.cells #[] 182);replace RO:=RO.alloc (.cells #[] 182);replace bbw:=bbw.alloc bbw.size (.cells #[] 182);replace hS:(fun w':World=>w'.cell? ⟨b,off+k * 2,none⟩=some (.string xs[k].label)∧w'.cell? ⟨b,off+k * 2+1,none⟩=some (.slice A' xs[k].feats.length c')) _:=⟨kb bbw hbb h0,kb bbw hbb h1⟩
      refine hK.out _ _ hS (fun _=>?_);clear hK K;dsimp only at hS;refine rJ2 1 11 (fun K hK=>?_) (fun K hK=>?_)
      · skip
        have f1:=RS.c1
        go_simp
        refine hK.out _ _ hS (fun _=>?_);clear hK K f1;refine rJ 11 fun K hK=>?_
        refine step_append_repX (T:=pFeat) (e:=182) (xs:=[]) (ys:=xs[k].feats) (ec:=ec) rfl (.tmp 37) (.tmp 41) (by rfl) Tryz.underlying108 Tryz.infoFeat rfl (by decide) (by rfl) EM (by rfl) (pFeat_flat (o':=true) (repL_below' hs1 hsb bbw)) (CellsAt.below hs2 bbw) (by simp) (by simp [maxLen]; omega) (by simp; omega) ?_;intro v2 w2 G2 r2 o2 q2 x2;rw [List.nil_append] at r2;obtain ⟨A2,n2,c2,rfl⟩:=slice_form r2;have os2:=o2.size;have wsz:=bbw.size
        try simp only [World.size_alloc] at os2
        have HQ2:=q2 (wd.heap.size) ⟨by simp,by simp⟩ (by simp);replace RS:=RS.onl o2 (by simp; omega);replace RO:=RO.onl o2 (by simp; omega);replace HP:=HP.only o2 (fun x hx hin=>by simp at hin; have:=HLT.out x hx; omega);replace bbw:=bbw.trans (o2.below bbw.size (fun x hx=>by simp at hx; omega));clear EM;replace hS:(fun w':World=>w'.cell? ⟨b,off+k * 2,none⟩=some (.string xs[k].label)∧w'.cell? ⟨b,off+k * 2+1,none⟩=some (.slice A' xs[k].feats.length c')) _:=⟨kb bbw hbb h0,kb bbw hbb h1⟩
        refine hK.out _ _ hS (fun _=>?_);clear hK K;dsimp only at hS;refine tJ 12 hS ?_;refine rJ 13 fun K hK=>?_
        go_simp
        replace HP:=HP.alloc (.cells #[.string xs[k].label,.slice A2 n2 c2] 111);replace RS:=RS.alloc (.cells #[.string xs[k].label,.slice A2 n2 c2] 111);replace RO:=RO.alloc (.cells #[.string xs[k].label,.slice A2 n2 c2] 111);replace bbw:=bbw.alloc bbw.size (.cells #[.string xs[k].label,.slice A2 n2 c2] 111);replace hS:(fun w':World=>w'.cell? ⟨b,off+k * 2,none⟩=some (.string xs[k].label)∧w'.cell? ⟨b,off+k * 2+1,none⟩=some (.slice A' xs[k].feats.length c')) _:=⟨kb bbw hbb h0,kb bbw hbb h1⟩
        refine hK.out _ _ hS (fun _=>?_);clear hK K;dsimp only at hS;refine rJ 14 fun K hK=>?_
        have HG2:=Lib.hid (fresh_app HF.out HLT.out HQ2 (by omega));refine step_append_repX (T:=pTemp 182) (e:=111) (xs:=xs.take k) (ys:=[xs[k]]) (ec:=[.string xs[k].label,.slice A2 n2 c2]) rfl (.tmp 32) (.tmp 44) (by rfl) Tryz.underlying26 Tryz.infoTemp rfl (by decide) (by rfl) HP (by rfl) (repL_single.2 (pTemp_rep.2 ⟨_,rfl,HLS.out,r2.alloc _⟩)) (cellsAt_new _ _ _) (by simpa using HG2.out.1) (by rw [HL.out]; simp [maxLen]; omega) (by rw [HL.out]; simp; omega) ?_;intro v3 w3 F3 r3 o3 q3 x3;obtain ⟨Av,nv,kv,rfl⟩:=slice_form r3;have os3:=o3.size
        try simp only [World.size_alloc] at os3
        have wsz3:=bbw.size;replace RS:=RS.onl o3 ngS;replace RO:=RO.onl o3 ngO;have FF:=q3 (w.heap.size+1+1) (by simpa using HG2.out) (by simp; omega);replace bbw:=bbw.trans (o3.below bbw.size (fun x hx=>by have:=HF.out.2 x hx; omega));replace hS:(fun w':World=>w'.cell? ⟨b,off+k * 2,none⟩=some (.string xs[k].label)∧w'.cell? ⟨b,off+k * 2+1,none⟩=some (.slice A' xs[k].feats.length c')) _:=⟨kb bbw hbb h0,kb bbw hbb h1⟩
        refine hK.out _ _ hS (fun _=>?_);clear hK K;dsimp only at hS;refine tJ 15 hS ?_;refine rJ 16 fun K hK=>?_
        have f1:=RS.c1;have ff:=RS.frozen
        go_simp
        have RS4:=RS.set 1 (.slice Av nv kv);have RO4:=RO.far (p:=⟨w.heap.size+1,1,none⟩) (by simp) (.slice Av nv kv);have ngF:w.heap.size+1∉F3:=fun hx=>by have:=FF.2 _ hx; omega
        have HR4:=Lib.hid (r3.setCell (p:=⟨w.heap.size+1,1,none⟩) (by exact ngF) (.slice Av nv kv));have HB4:=Lib.hid (bbw.setCell (p:=⟨w.heap.size+1,1,none⟩) (by simp) (.slice Av nv kv));have bb4:=HB4.out;refine hK.out _ _ ⟨kb bb4 hbb h0,kb bb4 hbb h1⟩ (fun _=>?_);clear hK K;refine wpAnyH_done (by kernel_rfl) ?_ _;clear f1 ff RS RO hS bb4 HP
        go_wp2_with fail
        go_roundw
        case rel =>
         refine ⟨k+1,_,.slice Av nv kv,F3,by omega,by go_num,rfl,RO4,RS4,?_,FF,HB4.out⟩;rw [List.take_succ_eq_append_getElem hlt];exact HR4.out
        case measure=>simp [intOf]; omega
      · skip
        refine step_append_repX (T:=pFeat) (e:=182) (xs:=[]) (ys:=xs[k].feats) (ec:=ec) rfl (.tmp 37) (.tmp 41) (by rfl) Tryz.underlying108 Tryz.infoFeat rfl (by decide) (by rfl) EM (by rfl) (pFeat_flat (o':=true) (repL_below' hs1 hsb bbw)) (CellsAt.below hs2 bbw) (by simp) (by simp [maxLen]; omega) (by simp; omega) ?_;intro v2 w2 G2 r2 o2 q2 x2;rw [List.nil_append] at r2;obtain ⟨A2,n2,c2,rfl⟩:=slice_form r2;have os2:=o2.size;have wsz:=bbw.size
        try simp only [World.size_alloc] at os2
        have HQ2:=q2 (wd.heap.size) ⟨by simp,by simp⟩ (by simp);replace RS:=RS.onl o2 (by simp; omega);replace RO:=RO.onl o2 (by simp; omega);replace HP:=HP.only o2 (fun x hx hin=>by simp at hin; have:=HLT.out x hx; omega);replace bbw:=bbw.trans (o2.below bbw.size (fun x hx=>by simp at hx; omega));clear EM;replace hS:(fun w':World=>w'.cell? ⟨b,off+k * 2,none⟩=some (.string xs[k].label)∧w'.cell? ⟨b,off+k * 2+1,none⟩=some (.slice A' xs[k].feats.length c')) _:=⟨kb bbw hbb h0,kb bbw hbb h1⟩
        refine hK.out _ _ hS (fun _=>?_);clear hK K;dsimp only at hS;refine tJ 12 hS ?_;refine rJ2 1 13 (fun K hK=>?_) (fun K hK=>?_)
        · skip
          have f1:=RS.c1
          go_simp
          refine hK.out _ _ hS (fun _=>?_);clear hK K f1;refine rJ 13 fun K hK=>?_
          go_simp
          replace HP:=HP.alloc (.cells #[.string xs[k].label,.slice A2 n2 c2] 111);replace RS:=RS.alloc (.cells #[.string xs[k].label,.slice A2 n2 c2] 111);replace RO:=RO.alloc (.cells #[.string xs[k].label,.slice A2 n2 c2] 111);replace bbw:=bbw.alloc bbw.size (.cells #[.string xs[k].label,.slice A2 n2 c2] 111);replace hS:(fun w':World=>w'.cell? ⟨b,off+k * 2,none⟩=some (.string xs[k].label)∧w'.cell? ⟨b,off+k * 2+1,none⟩=some (.slice A' xs[k].feats.length c')) _:=⟨kb bbw hbb h0,kb bbw hbb h1⟩
          refine hK.out _ _ hS (fun _=>?_);clear hK K;dsimp only at hS;refine rJ 14 fun K hK=>?_
          have HG2:=Lib.hid (fresh_app HF.out HLT.out HQ2 (by omega));refine step_append_repX (T:=pTemp 182) (e:=111) (xs:=xs.take k) (ys:=[xs[k]]) (ec:=[.string xs[k].label,.slice A2 n2 c2]) rfl (.tmp 32) (.tmp 44) (by rfl) Tryz.underlying26 Tryz.infoTemp rfl (by decide) (by rfl) HP (by rfl) (repL_single.2 (pTemp_rep.2 ⟨_,rfl,HLS.out,r2.alloc _⟩)) (cellsAt_new _ _ _) (by simpa using HG2.out.1) (by rw [HL.out]; simp [maxLen]; omega) (by rw [HL.out]; simp; omega) ?_;intro v3 w3 F3 r3 o3 q3 x3;obtain ⟨Av,nv,kv,rfl⟩:=slice_form r3;have os3:=o3.size
          try simp only [World.size_alloc] at os3
          have wsz3:=bbw.size;replace RS:=RS.onl o3 ngS;replace RO:=RO.onl o3 ngO;have FF:=q3 (w.heap.size+1+1) (by simpa using HG2.out) (by simp; omega);replace bbw:=bbw.trans (o3.below bbw.size (fun x hx=>by have:=HF.out.2 x hx; omega));replace hS:(fun w':World=>w'.cell? ⟨b,off+k * 2,none⟩=some (.string xs[k].label)∧w'.cell? ⟨b,off+k * 2+1,none⟩=some (.slice A' xs[k].feats.length c')) _:=⟨kb bbw hbb h0,kb bbw hbb h1⟩
          refine hK.out _ _ hS (fun _=>?_);clear hK K;dsimp only at hS;refine tJ 15 hS ?_;refine rJ 16 fun K hK=>?_
          have f1:=RS.c1;have ff:=RS.frozen
          go_simp
          have RS4:=RS.set 1 (.slice Av nv kv);have RO4:=RO.far (p:=⟨w.heap.size+1,1,none⟩) (by simp) (.slice Av nv kv);have ngF:w.heap.size+1∉F3:=fun hx=>by have:=FF.2 _ hx; omega
          have HR4:=Lib.hid (r3.setCell (p:=⟨w.heap.size+1,1,none⟩) (by exact ngF) (.slice Av nv kv));have HB4:=Lib.hid (bbw.setCell (p:=⟨w.heap.size+1,1,none⟩) (by simp) (.slice Av nv kv));have bb4:=HB4.out;refine hK.out _ _ ⟨kb bb4 hbb h0,kb bb4 hbb h1⟩ (fun _=>?_);clear hK K;refine wpAnyH_done (by kernel_rfl) ?_ _;clear f1 ff RS RO hS bb4 HP
          go_wp2_with fail
          go_roundw
          case rel =>
           refine ⟨k+1,_,.slice Av nv kv,F3,by omega,by go_num,rfl,RO4,RS4,?_,FF,HB4.out⟩;rw [List.take_succ_eq_append_getElem hlt];exact HR4.out
          case measure=>simp [intOf]; omega
        · skip
          go_simp
          replace HP:=HP.alloc (.cells #[.string xs[k].label,.slice A2 n2 c2] 111);replace RS:=RS.alloc (.cells #[.string xs[k].label,.slice A2 n2 c2] 111);replace RO:=RO.alloc (.cells #[.string xs[k].label,.slice A2 n2 c2] 111);replace bbw:=bbw.alloc bbw.size (.cells #[.string xs[k].label,.slice A2 n2 c2] 111);replace hS:(fun w':World=>w'.cell? ⟨b,off+k * 2,none⟩=some (.string xs[k].label)∧w'.cell? ⟨b,off+k * 2+1,none⟩=some (.slice A' xs[k].feats.length c')) _:=⟨kb bbw hbb h0,kb bbw hbb h1⟩
          refine hK.out _ _ hS (fun _=>?_);clear hK K;dsimp only at hS;refine rJ 1 fun K hK=>?_
          have f1:=RS.c1
          go_simp
          refine hK.out _ _ hS (fun _=>?_);clear hK K f1;refine rJ 14 fun K hK=>?_
          have HG2:=Lib.hid (fresh_app HF.out HLT.out HQ2 (by omega));refine step_append_repX (T:=pTemp 182) (e:=111) (xs:=xs.take k) (ys:=[xs[k]]) (ec:=[.string xs[k].label,.slice A2 n2 c2]) rfl (.tmp 32) (.tmp 44) (by rfl) Tryz.underlying26 Tryz.infoTemp rfl (by decide) (by rfl) HP (by rfl) (repL_single.2 (pTemp_rep.2 ⟨_,rfl,HLS.out,r2.alloc _⟩)) (cellsAt_new _ _ _) (by simpa using HG2.out.1) (by rw [HL.out]; simp [maxLen]; omega) (by rw [HL.out]; simp; omega) ?_;intro v3 w3 F3 r3 o3 q3 x3;obtain ⟨Av,nv,kv,rfl⟩:=slice_form r3;have os3:=o3.size
          try simp only [World.size_alloc] at os3
          have wsz3:=bbw.size;replace RS:=RS.onl o3 ngS;replace RO:=RO.onl o3 ngO;have FF:=q3 (w.heap.size+1+1) (by simpa using HG2.out) (by simp; omega);replace bbw:=bbw.trans (o3.below bbw.size (fun x hx=>by have:=HF.out.2 x hx; omega));replace hS:(fun w':World=>w'.cell? ⟨b,off+k * 2,none⟩=some (.string xs[k].label)∧w'.cell? ⟨b,off+k * 2+1,none⟩=some (.slice A' xs[k].feats.length c')) _:=⟨kb bbw hbb h0,kb bbw hbb h1⟩
          refine hK.out _ _ hS (fun _=>?_);clear hK K;dsimp only at hS;refine tJ 15 hS ?_;refine rJ 16 fun K hK=>?_
          have f1:=RS.c1;have ff:=RS.frozen
          go_simp
          have RS4:=RS.set 1 (.slice Av nv kv);have RO4:=RO.far (p:=⟨w.heap.size+1,1,none⟩) (by simp) (.slice Av nv kv);have ngF:w.heap.size+1∉F3:=fun hx=>by have:=FF.2 _ hx; omega
          have HR4:=Lib.hid (r3.setCell (p:=⟨w.heap.size+1,1,none⟩) (by exact ngF) (.slice Av nv kv));have HB4:=Lib.hid (bbw.setCell (p:=⟨w.heap.size+1,1,none⟩) (by simp) (.slice Av nv kv));have bb4:=HB4.out;refine hK.out _ _ ⟨kb bb4 hbb h0,kb bb4 hbb h1⟩ (fun _=>?_);clear hK K;refine wpAnyH_done (by kernel_rfl) ?_ _;clear f1 ff RS RO hS bb4 HP
          go_wp2_with fail
          go_roundw
          case rel =>
           refine ⟨k+1,_,.slice Av nv kv,F3,by omega,by go_num,rfl,RO4,RS4,?_,FF,HB4.out⟩;rw [List.take_succ_eq_append_getElem hlt];exact HR4.out
          case measure=>simp [intOf]; omega
  · obtain rfl:k=xs.length:=by omega
    rw [List.take_length] at hrep;obtain ⟨Au,ku,rfl⟩:=slice_len hrep;have lS:=RS.lt;have ng1:w.heap.size∉G:=fun hx=>by have:=hfr.2 _ hx; omega
    have s0:=RS.c0;have s1:=RS.c1;have o0:=RO.c0;have o1:=RO.c1;have of:=RO.frozen;have TF:=(RO.set 0 (.int .i64 n)).set 1 (.slice Au xs.length ku);have e0:=TF.c0;have e1:=TF.c1;have HP:=Lib.hid hrep;clear hrep hr
    go_wp2_with fail
    refine bodyPost_ret (v:=.agg #[.int .i64 n,.slice Au xs.length ku]) (by simp only [results,Tryz.results41]; go_simp) rfl ⟨_,G,rfl,(HP.out.setCell (by exact ng1) _).setCell (by exact ng1) _,hfr.mono (by omega),(hb.setCell (by simp) _).setCell (by simp) _⟩
end Go.Proofs.YtafgknkcjohjeaaGreatDoor

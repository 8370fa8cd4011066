/- Events: which are possible, in the reference. Conditions: none. -/
import Derived.Test.YtafgknkcjohjeaaGreatDoorTke
import Derived.Test.YtafgknkcjohjeaaGreatDoorRcRead2e
import Derived.Test.YtafgknkcjohjeaaGreatDoorEtKe
import Derived.Test.YtafgknkcjohjeaaGreatDoorEtGe
import Derived.Test.YtafgknkcjohjeaaGreatDoorDeJe
namespace Go.Proofs.YtafgknkcjohjeaaGreatDoor
open Go Go.RowKit
set_option maxRecDepth 100000 in
set_option maxHeartbeats 2000000 in
theorem spec_l26Possible_c (e:PEvent) {g:Nat} (w:World) (R:Row w g 48 [.int .i64 e.kind,.int .i64 e.x,.int .i64 e.y,.int .i64 e.t]) :
 Calls Tryz.prog 13 #[.pointer (some ⟨g,0,none⟩)] w fun en w'=>en=.returned (.bool (possB e))∧Below w.heap.size w w':=by
 have c0:=R.c0;have c1:=R.c1;have c2:=R.c2;have c3:=R.c3;have CT:=spec_inR_c e.t 0 3600000;cases ht:inR e.t 0 3600000
 · have hv:possB e=false:=by
    cases hv:possB e with
    | false=>rfl
    | true=>have:=possB_t hv; simp [inR] at ht; omega
   rw [hv];rw [ht] at CT;have HT:=Lib.hid CT;clear CT ht hv
   go_enter Tryz.func13,Tryz.ntmps13
   go_wp2_with fail
   refine (HT.out _).mono ?_;rintro en w1 ⟨rfl,rfl⟩
   go_wp2_with fail
   go_ret;exact ⟨rfl,Below.refl _ _⟩
 · rw [ht] at CT
   have HT:=Lib.hid CT;clear CT
   by_cases k12:e.kind=1∨e.kind=2
   · have hv:possB e=pointB ⟨e.x,e.y,e.t⟩:=by simp [possB,k12]
     have HP:=Lib.hid (spec_l02Point_c ⟨e.x,e.y,e.t⟩);rw [hv];generalize pointB ⟨e.x,e.y,e.t⟩=b at HP;clear hv ht;rcases k12 with hk | hk
     all_goals
      rw [hk] at c0;clear hk
      go_enter Tryz.func13,Tryz.ntmps13
      go_wp2_with fail
      refine (HT.out _).mono ?_;rintro en w1 ⟨rfl,rfl⟩
      go_wp2_with fail
      have hS:(fun w':World=>w'.cell? ⟨g,1,none⟩=some (.int .i64 e.x)∧w'.cell? ⟨g,2,none⟩=some (.int .i64 e.y)∧w'.cell? ⟨g,3,none⟩=some (.int .i64 e.t)) w.drew:=⟨c1,c2,c3⟩
      dsimp only at hS;refine wp_region_held_drew (S:=(fun w':World=>w'.cell? ⟨g,1,none⟩=some (.int .i64 e.x)∧w'.cell? ⟨g,2,none⟩=some (.int .i64 e.y)∧w'.cell? ⟨g,3,none⟩=some (.int .i64 e.t))) (by kernel_rfl) hS (fun _=>?_);refine tJ 0 hS ?_;refine tJ 1 hS ?_;refine tJ 2 hS ?_;refine tJ 3 hS ?_;refine tJ 4 hS ?_;refine tJ 5 hS ?_;refine tJ 6 hS ?_;refine tJ 7 hS ?_;refine tJ 8 hS ?_;refine tJ 9 hS ?_;refine tJ 10 hS ?_;refine tJ 11 hS ?_;refine tJ 12 hS ?_;refine rJ 13 fun K hK=>?_
      refine step_call 29 #[.tmp 28] _ rfl rfl #[.agg #[.int .i64 e.x,.int .i64 e.y,.int .i64 e.t]] Tryz.call29 (by go_simp) (HP.out _) ?_;rintro en w1 ⟨rfl,rfl⟩;refine ⟨_,rfl,?_⟩;have R2:=R.drew.alloc (.cells #[.int .i64 e.x,.int .i64 e.y,.int .i64 e.t] 85);replace hS:(fun w':World=>w'.cell? ⟨g,1,none⟩=some (.int .i64 e.x)∧w'.cell? ⟨g,2,none⟩=some (.int .i64 e.y)∧w'.cell? ⟨g,3,none⟩=some (.int .i64 e.t)) (w.drew.alloc (.cells #[.int .i64 e.x,.int .i64 e.y,.int .i64 e.t] 85)):=⟨R2.c1,R2.c2,R2.c3⟩
      dsimp only at hS;refine bJ hK hS ?_;clear hK K;simp only [Act.put,pA,pB,pC];refine tJ 14 hS ?_;refine wpAnyH_done (by kernel_rfl) ?_ _
      go_wp2_with fail
      go_ret;exact ⟨rfl,(Below.refl _ _).drew.alloc (Nat.le_refl _) _⟩
   · by_cases k34:e.kind=3∨e.kind=4
     · have hv:possB e=((e.x == 0) && (e.y == 0)):=by
        rw [possB,if_neg k12,if_pos k34,ht,Bool.and_true];rw [Bool.eq_iff_iff]; simp
       rw [hv];clear hv k12 ht;cases gx:(e.x == 0)
       all_goals
        rcases k34 with hk | hk
        all_goals
         rw [hk] at c0;clear hk
         go_enter Tryz.func13,Tryz.ntmps13
         go_wp2_with fail
         refine (HT.out _).mono ?_;rintro en w1 ⟨rfl,rfl⟩
         go_wp2_with fail
         go_ret;exact ⟨rfl,Below.refl _ _⟩
     · have hv:possB e=false:=by simp [possB,k12,k34]
       rw [hv];have g1:(e.kind == 1)=false:=by simp; omega
       have g2:(e.kind == 2)=false:=by simp; omega
       have g3:(e.kind == 3)=false:=by simp; omega
       have g4:(e.kind == 4)=false:=by simp; omega
       clear hv k12 k34 ht
       go_enter Tryz.func13,Tryz.ntmps13
       go_wp2_with fail
       refine (HT.out _).mono ?_;rintro en w1 ⟨rfl,rfl⟩
       go_wp2_with fail
       go_ret;exact ⟨rfl,Below.refl _ _⟩
theorem OwnSs.putStrokes {w w':World} {g:Nat} {q:PSess} {a0 a1 a2 a3 a4 a5:Value} {F0 F1 F2 F3 F4 F5:List Nat} (h:OwnSs w g q a0 a1 a2 a3 a4 a5 F0 F1 F2 F3 F4 F5) {ys:List PStroke} {v:Value} {G:List Nat} (ho:Only F3 w w') (r:(pStrokes 85 89).rep true w' ys [v] G) (hs:∀ x∈G,x∈F3∨w.heap.size≤x) (hn:G.Nodup):OwnSs (w'.setCell ⟨g,9,none⟩ v) g { q with strokes:=ys } a0 a1 a2 v a4 a5 F0 F1 F2 G F4 F5:=by
 have hf:=h.far;have hl:=h.lt;have hg:=h.row.lt;have nd:=h.tail_nd;simp only [List.mem_append,not_or] at hf;have hgG:g∉G:=fun hin=>by rcases hs g hin with h1 | h1; exact hf.1 h1; omega
 have d4:∀ x∈F4,x∉F3:=fun x hx hy=>(List.nodup_append.1 nd).2.2 x hy x (by simp [hx]) rfl
 have d5:∀ x∈F5,x∉F3:=fun x hx hy=>(List.nodup_append.1 nd).2.2 x hy x (by simp [hx]) rfl
 refine h.step (D:=g :: F3) ((ho.mono (fun x hx=>List.mem_cons_of_mem _ hx)).set (p:=⟨g,9,none⟩) (by simp) _) rfl ((h.row.onl ho hf.1).set 9 _) (Ty.rep.setCell (T:=pStrokes _ _) r (p:=⟨g,9,none⟩) hgG _) (Ty.rep.setCell (T:=pPoints _) (h.r4.only ho d4) (p:=⟨g,9,none⟩) hf.2.1 _) (Ty.rep.setCell (T:=strs _) (h.r5.only ho d5) (p:=⟨g,9,none⟩) hf.2.2 _) (h.apart (fun x hx=>by rcases List.mem_cons.1 hx with h1 | h1; exact .inl h1; exact .inr (.inl (by simp [h1])))) ?_ ?_
 · exact nd_put (A:=[]) (n:=w.heap.size) nd hn hs (by simp) (fun x hx=>hl x (List.mem_append_right _ hx))
 · intro x hx
   rcases List.mem_append.1 hx with h1 | h1
   · exact (hs x h1).imp (fun h=>List.mem_append_left _ h) id
   · exact .inl (List.mem_append_right _ h1)
theorem do_at {lo gx gE:Nat} {q:PSess} {e:PEvent} (w:World) (h:SeAt lo gx q w) (RE:Row w gE 48 [.int .i64 e.kind,.int .i64 e.x,.int .i64 e.y,.int .i64 e.t]) (hb:sessB q=true) (hp:possB e=true) :
 Calls Tryz.prog 14 #[.pointer (some ⟨gx,0,none⟩),.pointer (some ⟨gE,0,none⟩)] w fun en w'=>∃ v F,en=.returned (.tuple #[v,.string (doR q e).2.1,.int .i64 (doR q e).2.2])∧SessIs idsI true w' (doR q e).1 v F∧Fresh w.heap.size F∧Below w.heap.size w w':=by
 obtain ⟨a0,a1,a2,a3,a4,a5,F0,F1,F2,F3,F4,F5,ow,fr⟩:=h;obtain ⟨A0,k0,rfl⟩:=slice_len ow.r0;obtain ⟨A1,k1,rfl⟩:=slice_len ow.r1;obtain ⟨A2,k2,rfl⟩:=slice_len ow.r2;obtain ⟨A3,k3,rfl⟩:=slice_len ow.r3;obtain ⟨A4,k4,rfl⟩:=slice_len ow.r4;obtain ⟨A5,k5,rfl⟩:=slice_len ow.r5;exact spec_l26Do_c (I:=idsI) w ow.row ow.r0 ow.r1 ow.r2 ow.r3 ow.r4 ow.r5 (gE:=gE) (oE:=0) RE.lt RE.c0 RE.c1 RE.c2 RE.c3 hb (sess_small hb).1 hp
theorem ev_at {B g lo gx m:Nat} {q:PSess} {code:List UInt8} (w:World) (h:SeAt lo gx q w) (hs:SrcIs B g code m w) (hB:B≤w.heap.size) (hm:m≤900000) (hg:gx≠g) (hb:sessB q=true) :
 Calls Tryz.prog 12 #[.pointer (some ⟨g,0,none⟩),.pointer (some ⟨gx,0,none⟩)] w (DrawsEv B g code (m+11) w):=by
 obtain ⟨a0,a1,a2,a3,a4,a5,F0,F1,F2,F3,F4,F5,ow,fr⟩:=h;obtain ⟨A4,k4,rfl⟩:=slice_len ow.r4;exact spec_l26Event_c w hs hB hm ow.row hg rfl rfl (sess_small hb).2.2.2.2.2
theorem doR_sess {q:PSess} {e:PEvent} (h:sessB q=true) (hp:possB e=true) (hc:(doR q e).2.2=0):sessB (doR q e).1=true:=by
 by_cases hd:codeS q e=0
 · rw [doR_ok hd]; exact takeS_ok rdZ (fun q w h hw=>rdZ_ok q w h hw) h hp hd
 · rw [doR_bad hd] at hc; exact absurd hc hd
def lenC (o:Option Value):Nat:=match o with | some (.slice _ n _)=>n | _=>0
def DrawsSess (B g:Nat) (code:List UInt8) (m:Nat) (w:World) (e:Ending) (w':World):Prop:=∃ q v F,e=.returned v∧sessB q=true∧SessIs idsI true w' q v F∧Fresh w.heap.size F∧SrcIs B g code m w'∧Only [g] w w'
end Go.Proofs.YtafgknkcjohjeaaGreatDoor

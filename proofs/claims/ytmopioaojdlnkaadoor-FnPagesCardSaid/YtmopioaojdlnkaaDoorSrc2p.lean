/- A word that a law draws. Conditions: none. -/
import Derived.Test.YtmopioaojdlnkaaDoorSrcp
import Derived.Test.YtmopioaojdlnkaaDoorAppendp
import Derived.Deep.RegionHeld3
import Derived.Test.YtmopioaojdlnkaaDoorPgValidp
import Derived.Test.YtmopioaojdlnkaaDoorTkp
import Derived.Test.YtmopioaojdlnkaaDoorFpDrawp
namespace Go.Proofs.YtmopioaojdlnkaaDoor
open Go Go.RowKit
theorem SrcIs.alloc {B g m : Nat} {code : List UInt8} {w : World} (h : SrcIs B g code m w) (x : Obj) : SrcIs B g code m (w.alloc x) := h.below ((Below.refl _ _).alloc (Nat.le_refl _) x)
theorem Tryd.infoStr3 : (Tryd.prog.info? 9).map (fun i => (i.zero, i.size, i.bytes)) = some (some (.string .empty), str.size, 16) := by kernel_rfl
theorem l00From_c {e : TypeId} {code : List UInt8} {v : Value} {F : List Nat} (w : World) (h : (byte.slice e).rep false w code [v] F) (hc : code.length ≤ 4096) :
 Calls Tryd.prog 15 #[v] w fun e' w' => e' = .returned (.pointer (some ⟨w.heap.size, 0, none⟩)) ∧ SrcIs (w.heap.size + 1) w.heap.size code 0 w' ∧ Below w.heap.size w w' := by
 have HF := Lib.hid (Ty.lt _ h)
 obtain ⟨A, c, rfl⟩ := slice_len h
 have R := Row.new w 75 #[.slice A code.length c, .int .i64 0, .int .u64 0]
 have HR := Lib.hid (Ty.kept _ (w' := w.alloc (.cells #[.slice A code.length c, .int .i64 0, .int .u64 0] 75)) h (fun b hb => Below.heap_alloc w _ b (HF.out b hb)))
 clear h
 go_enter Tryd.func15, Tryd.ntmps15
 go_wp2_with fail
 go_ret
 exact ⟨rfl, ⟨hc, by omega, e, _, F, 0, 0, R, HR.out, fun b hb => by have := HF.out b hb; omega, by omega, by omega, by omega⟩, (Below.refl _ _).alloc (Nat.le_refl _) _⟩
section
variable {P : Program} {md : Region.Mode} {ops : Array Oper} {Q : Exit → Act → World → Prop} {S : World → Prop}
def StillCall (P : Program) (ops : Array Oper) (S : World → Prop) (o : Oper) (v : Value) (a : Act) : Prop :=
 Region.wanted o (yielded ops a.tmps) = true ∧ ∃ f args, ∀ w, S w → (execOp a.eval o).run P w = .ok (.enter f args) w ∧ Calls P f args w fun e w' => e = .returned v ∧ w' = w
theorem StillCall.same {o : Oper} {v : Value} {a a' : Act} (hy : StillCall P ops S o v a) (he : execOp a'.eval o = execOp a.eval o)
 (hw : Region.wanted o (yielded ops a'.tmps) = Region.wanted o (yielded ops a.tmps)) : StillCall P ops S o v a' := by
 unfold StillCall at *
 rw [he, hw]
 exact hy
end
theorem a2Long_c {e e2 : TypeId} {code more : List UInt8} {v v2 : Value} {F F2 : List Nat} {w : World} (h : (byte.slice e).rep false w code [v] F) (h2 : (byte.slice e2).rep false w more [v2] F2) :
 Calls Tryd.prog 4 #[v, v2] w fun e' w' => e' = .returned (.bool (decide (3000 < code.length) || decide (3000 < more.length))) ∧ w = w' := by
 obtain ⟨A, c, rfl⟩ := slice_len h
 obtain ⟨A2, c2, rfl⟩ := slice_len h2
 clear h h2
 by_cases hb : 3000 < code.length
 · have g : (3000 : Int) < (code.length : Int) := by omega
   rw [decide_eq_true hb]
   by_cases hb2 : 3000 < more.length
   · have g2 : (3000 : Int) < (more.length : Int) := by omega
     rw [decide_eq_true hb2]
     go_enter Tryd.func4, Tryd.ntmps4
     go_wp2_with fail
     go_ret
     exact ⟨congrArg (fun b => Ending.returned (.bool b)) (by simp), rfl⟩
   · have g2 : ¬ ((3000 : Int) < (more.length : Int)) := by omega
     rw [decide_eq_false hb2]
     go_enter Tryd.func4, Tryd.ntmps4
     go_wp2_with fail
     go_ret
     exact ⟨congrArg (fun b => Ending.returned (.bool b)) (by simp), rfl⟩
 · have g : ¬ ((3000 : Int) < (code.length : Int)) := by omega
   rw [decide_eq_false hb]
   by_cases hb2 : 3000 < more.length
   · have g2 : (3000 : Int) < (more.length : Int) := by omega
     rw [decide_eq_true hb2]
     go_enter Tryd.func4, Tryd.ntmps4
     go_wp2_with fail
     go_ret
     exact ⟨congrArg (fun b => Ending.returned (.bool b)) (by simp), rfl⟩
   · have g2 : ¬ ((3000 : Int) < (more.length : Int)) := by omega
     rw [decide_eq_false hb2]
     go_enter Tryd.func4, Tryd.ntmps4
     go_wp2_with fail
     go_ret
     exact ⟨congrArg (fun b => Ending.returned (.bool b)) (by simp), rfl⟩
theorem byte_alloc {e : TypeId} {code : List UInt8} {v : Value} {F : List Nat} {w : World} (h : (byte.slice e).rep false w code [v] F) (x : Obj) : (byte.slice e).rep false (w.alloc x) code [v] F := Ty.kept _ h (fun b hb => Below.heap_alloc w _ b (Ty.lt _ h b hb))
set_option maxRecDepth 100000 in
set_option maxHeartbeats 4000000 in
theorem spec_A2Page_c {e : TypeId} {code : List UInt8} {v : Value} {F : List Nat} (w : World) (h : (byte.slice e).rep false w code [v] F) (hc : code.length ≤ 4096) :
 Calls Tryd.prog 5 #[v] w fun e' w' => ∃ (p : PPage) (u : Value) (G : List Nat), e' = .returned u ∧ DrP p ∧ PageIs 56 30 false w' p u G ∧ Below w.heap.size w w' := by
 have H0 := Lib.hid (l00From_c (w.alloc (.cells #[.slice none 0 0, .slice none 0 0, .slice none 0 0] 27)) (byte_alloc h _) hc)
 have R4 := Row.new w 27 #[.slice none 0 0, .slice none 0 0, .slice none 0 0]
 have b0 : Below w.heap.size w (w.alloc (.cells #[.slice none 0 0, .slice none 0 0, .slice none 0 0] 27)) := (Below.refl _ _).alloc (Nat.le_refl _) _
 have hsA : (w.alloc (.cells #[.slice none 0 0, .slice none 0 0, .slice none 0 0] 27)).heap.size = w.heap.size + 1 := by simp only [World.alloc, Array.size_push]
 rw [hsA] at H0
 obtain ⟨A, c, rfl⟩ := slice_len h
 clear h
 go_enter Tryd.func5, Tryd.ntmps5
 go_wp2_with fail
 refine H0.out.mono ?_
 rintro e w1 ⟨rfl, S1, b1⟩
 have lt1 := S1.lt
 replace R4 := R4.below b1 (by omega)
 have b01 : Below w.heap.size w w1 := b0.trans (b1.mono (by omega))
 have H1 := Lib.hid (spec_l27Draw_c w1 S1 (by omega) (by omega))
 clear hsA b0 b1 H0
 go_wp2_with fail
 refine H1.out.mono ?_
 rintro e w2 ⟨p, u, G, rfl, dr, pg, fr, O2⟩
 obtain ⟨A1, n1, k1, A2, n2, k2, A3, n3, k3, rfl⟩ := pg.form
 replace R4 := row_oF R4 O2 (by omega)
 have b02 := b01.trans (O2.below (B := w.heap.size) (by omega) (by simp))
 have hg : w.heap.size ∉ G := fun hin => by have := fr _ hin; omega
 have RE := ((R4.set 0 (.slice A1 n1 k1)).set 1 (.slice A2 n2 k2)).set 2 (.slice A3 n3 k3)
 have r0 := R4.c0
 have r1 := R4.c1
 have r2 := R4.c2
 have rF := R4.frozen
 have e0 := RE.c0
 have e1 := RE.c1
 have e2 := RE.c2
 have DR := Lib.hid dr
 have PG := Lib.hid pg
 have BB := Lib.hid b02
 clear dr pg fr O2 b02 b01 S1 H1 R4 RE
 go_wp2_with fail
 refine bodyPost_ret (v := .agg #[.slice A1 n1 k1, .slice A2 n2 k2, .slice A3 n3 k3]) (by simp only [results, Tryd.results5]; go_simp) rfl ⟨p, _, G, rfl, DR.out, PG.out.set3 hg _ _ _, set3 BB.out (Nat.le_refl _) _ _ _⟩
set_option maxRecDepth 100000 in
set_option maxHeartbeats 4000000 in
theorem spec_A2Step_c {e : TypeId} {code : List UInt8} {v : Value} {F : List Nat} {p : PPage} {A1 A2 A3 : Option Addr} {n1 k1 n2 k2 n3 k3 : Nat} {G : List Nat} (w : World) (h : (byte.slice e).rep false w code [v] F) (hc : code.length ≤ 4096) (dr : DrP p) (hp : PageIs 56 30 false w p (.agg #[.slice A1 n1 k1, .slice A2 n2 k2, .slice A3 n3 k3]) G) :
 Calls Tryd.prog 6 #[v, .agg #[.slice A1 n1 k1, .slice A2 n2 k2, .slice A3 n3 k3]] w fun e' w' => (∃ s : PStep, StepShort s ∧ e' = .returned (.agg #[.int .i64 s.kind, .int .i64 s.line, .int .i64 s.pos, .string s.word, .string s.old])) ∧ Below w.heap.size w w' := by
 obtain ⟨hok, -, -, -, -⟩ := validB_parts dr.v
 obtain ⟨F1, F2, F3, -, h1, -, -⟩ := hp.lines
 have l1 := (pLines 56).lt h1
 have H0 := Lib.hid (l00From_c ((w.alloc (.cells #[.slice A1 n1 k1, .slice A2 n2 k2, .slice A3 n3 k3] 27)).alloc (.cells #[.int .i64 0, .int .i64 0, .int .i64 0, .string ⟨#[]⟩, .string ⟨#[]⟩] 30)).drew (Ty.kept _ (byte_alloc (byte_alloc h _) _) (fun _ _ => rfl)) hc)
 have RP := ((Row.new w 27 #[.slice A1 n1 k1, .slice A2 n2 k2, .slice A3 n3 k3]).alloc (.cells #[.int .i64 0, .int .i64 0, .int .i64 0, .string ⟨#[]⟩, .string ⟨#[]⟩] 30)).drew
 have RS := (Row.new (w.alloc (.cells #[.slice A1 n1 k1, .slice A2 n2 k2, .slice A3 n3 k3] 27)) 30 #[.int .i64 0, .int .i64 0, .int .i64 0, .string ⟨#[]⟩, .string ⟨#[]⟩]).drew
 have H1 := Lib.hid ((h1.alloc (.cells #[.slice A1 n1 k1, .slice A2 n2 k2, .slice A3 n3 k3] 27)).alloc (.cells #[.int .i64 0, .int .i64 0, .int .i64 0, .string ⟨#[]⟩, .string ⟨#[]⟩] 30)).drew
 have BB : Below w.heap.size w ((w.alloc (.cells #[.slice A1 n1 k1, .slice A2 n2 k2, .slice A3 n3 k3] 27)).alloc (.cells #[.int .i64 0, .int .i64 0, .int .i64 0, .string ⟨#[]⟩, .string ⟨#[]⟩] 30)).drew := (((Below.refl _ _).alloc (Nat.le_refl _) _).alloc (by simp) _).drew
 have hsz : ((w.alloc (.cells #[.slice A1 n1 k1, .slice A2 n2 k2, .slice A3 n3 k3] 27)).alloc (.cells #[.int .i64 0, .int .i64 0, .int .i64 0, .string ⟨#[]⟩, .string ⟨#[]⟩] 30)).drew.heap.size = w.heap.size + 2 := by simp only [World.drew, World.alloc, Array.size_push]
 rw [World.size_alloc] at RS
 obtain ⟨A, c, rfl⟩ := slice_len h
 clear h hp h1
 go_enter Tryd.func6, Tryd.ntmps6
 go_upto_region 1 with fail
 have hS : (fun w' : World => w'.cell? ⟨w.heap.size, 0, none⟩ = some (.slice A1 n1 k1)) ((w.alloc (.cells #[.slice A1 n1 k1, .slice A2 n2 k2, .slice A3 n3 k3] 27)).alloc (.cells #[.int .i64 0, .int .i64 0, .int .i64 0, .string ⟨#[]⟩, .string ⟨#[]⟩] 30)).drew := RP.c0
 dsimp only at hS
 refine wp_region_held_drew (S := (fun w' : World => w'.cell? ⟨w.heap.size, 0, none⟩ = some (.slice A1 n1 k1))) (by kernel_rfl) hS (fun _ => ?_)
 generalize ((w.alloc (.cells #[.slice A1 n1 k1, .slice A2 n2 k2, .slice A3 n3 k3] 27)).alloc (.cells #[.int .i64 0, .int .i64 0, .int .i64 0, .string ⟨#[]⟩, .string ⟨#[]⟩] 30)).drew = w0 at H0 RP RS H1 BB hS hsz ⊢
 refine tJ 0 hS ?_
 refine tJ 2 hS ?_
 refine tJ 3 hS ?_
 refine rJ 1 fun K hK => ?_
 refine step_call 15 #[.tmp 5] _ rfl rfl #[.slice A code.length c] Tryd.call15 (by go_simp) H0.out ?_
 rintro e w1 ⟨rfl, S1, b1⟩
 refine ⟨_, rfl, ?_⟩
 replace RP := RP.later b1
 replace RS := RS.later b1
 replace H1 := Lib.hid (H1.out.below b1)
 replace BB := BB.trans (b1.mono BB.size)
 replace hS := (RP.c0 : w1.cell? ⟨w.heap.size, 0, none⟩ = some (.slice A1 n1 k1))
 have lt1 := S1.lt
 refine bJ hK hS ?_
 clear hK K
 simp only [Act.put, pA, pB, pC]
 have CS := spec_l27Step_c w1 S1 (by omega) (by omega) H1.out (fun hin => by have := l1 _ hin; omega) hok
 refine rJ 4 fun K hK => ?_
 refine step_call 16 #[.tmp 6, .tmp 8] _ rfl rfl #[.pointer (some ⟨w0.heap.size, 0, none⟩), .slice A1 n1 k1] Tryd.call16 (by go_simp) CS ?_
 rintro e w2 ⟨⟨s, hs, rfl⟩, S2, O2⟩
 refine ⟨_, rfl, ?_⟩
 replace RP := row_oF RP O2 (by omega)
 replace RS := row_oF RS O2 (by omega)
 replace BB := BB.trans (O2.below (B := w.heap.size) (by omega) (by intro x hx; simp at hx; omega))
 replace hS := (RP.c0 : w2.cell? ⟨w.heap.size, 0, none⟩ = some (.slice A1 n1 k1))
 refine bJ hK hS ?_
 clear hK K
 simp only [Act.put, pA, pB, pC]
 clear CS S1 S2 O2 H0 H1 b1
 have RE := row_set5 (u0 := .int .i64 s.kind) (u1 := .int .i64 s.line) (u2 := .int .i64 s.pos) (u3 := .string s.word) (u4 := .string s.old) RS rfl
 have RQ := row_far5 (u0 := .int .i64 s.kind) (u1 := .int .i64 s.line) (u2 := .int .i64 s.pos) (u3 := .string s.word) (u4 := .string s.old) RP (show w.heap.size ≠ w.heap.size + 1 by omega)
 unfold set5 at RE RQ
 have v0 := RS.c0
 have v1 := RS.c1
 have v2 := RS.c2
 have v3 := RS.c3
 have v4 := RS.c4
 have vF := RS.frozen
 refine rJ 5 fun K hK => ?_
 clear hS
 go_simp
 refine hK.out _ _ (RQ.c0) (fun hS => ?_)
 clear hK K v0 v1 v2 v3 v4 vF RS RP
 have e0 := RE.c0
 have e1 := RE.c1
 have e2 := RE.c2
 have e3 := RE.c3
 have e4 := RE.c4
 refine wpAnyH_done (by kernel_rfl) ?_ _
 clear hS RE RQ
 go_wp2_with fail
 refine bodyPost_ret (v := .agg #[.int .i64 s.kind, .int .i64 s.line, .int .i64 s.pos, .string s.word, .string s.old]) (by simp only [results, Tryd.results6]; go_simp) rfl ⟨⟨s, hs, rfl⟩, ?_⟩
 have hw : w.heap.size ≤ w.heap.size + 1 := by omega
 exact ((((BB.setCell hw _).setCell hw _).setCell hw _).setCell hw _).setCell hw _
end Go.Proofs.YtmopioaojdlnkaaDoor

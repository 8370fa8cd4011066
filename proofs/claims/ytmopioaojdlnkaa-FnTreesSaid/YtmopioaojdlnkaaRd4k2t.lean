/- The reference's reader of trees: reading a fraction. Conditions: none. -/
import Derived.Test.YtmopioaojdlnkaaTkt
import Derived.Test.YtmopioaojdlnkaaRd3t
namespace Go.Proofs.Ytmopioaojdlnkaa
open Go Go.RowKit
set_option maxRecDepth 100000 in
set_option maxHeartbeats 8000000 in
theorem spec_read2_c {e et : TypeId} {o ot : Bool} {xs : List PSymbol} {ns : List PNode} {vl vn : Value} {Fl Fn : List Nat} {gp gu gb gd f : Nat} {st : RdSt} {c : Int} (IH : ReadC e et o ot xs ns vl vn Fl Fn gp gu gb gd f) (hsy : ∀ s ∈ xs, boxIn (boxOf s)) (hx : xs.length ≤ 8) (hn : ns.length ≤ 15) (k : Nat) (w : World) (a b sg : Int) (hnd : nodeAt ns k = ⟨2, a, b, sg⟩) (hkf : k < f + 1) (hk : k < ns.length) (h : Rd e et o ot xs ns vl vn Fl Fn gp gu gb gd st w) (hg : st.good = true) (hi : RdInv st c) (hc : c + 40000 * ((k : Int) + 1) ≤ 640000) :
 Calls Try.prog 78 #[.pointer (some ⟨gp, 0, none⟩), .int .i64 (k : Int)] w (RPost e et o ot xs ns vl vn Fl Fn gp gu gb gd (readS xs ns (f + 1) k st) w) := by
 have hgp := h.row.lt
 have hgu := h.us.lt
 have hgb := h.bs.lt
 have hgd := h.ds.lt
 have hFl : ∀ b ∈ Fl, b < w.heap.size := fun b hb => (pSymbols e).lt h.syms b hb
 have hFn : ∀ b ∈ Fn, b < w.heap.size := fun b hb => (pNodes et).lt h.nods b hb
 have hfr : w.heap.size ∉ [gp, gu, gb, gd] := by simp; omega
 have hfr2 : w.heap.size ∉ [gp, gu] := by simp; omega
 obtain ⟨B, d, rfl, _, _, hr⟩ := pNodes_open h.nods
 obtain ⟨gn, og, rfl, hgn, hgnF, q0, q1, q2, q3, _⟩ := hr k hk
 rw [← nodeAt_get hk, hnd] at q0 q1 q2 q3
 dsimp only at q0 q1 q2 q3
 clear hr
 have p1 := h.row.c1
 have k0 : (0 : Int) ≤ (k : Int) := by omega
 have k1 : (k : Int) < (ns.length : Int) := by omega
 have ek := IntWalk.i64_in ((k : Int) - 1) (by omega)
 have RD := h.alloc (.cells #[.int .i64 2, .int .i64 a, .int .i64 b, .int .i64 sg] 76)
 have R5 := Row.new w 76 #[.int .i64 2, .int .i64 a, .int .i64 b, .int .i64 sg]
 have on : Only [gp, gu, gb, gd] w (w.alloc (.cells #[.int .i64 2, .int .i64 a, .int .i64 b, .int .i64 sg] 76)) := (Only.refl _ _).alloc _
 obtain ⟨p, q, s, hp, hq, hs3, hE, PO, QO, HJ⟩ := read_parts (e := e) (et := et) (o := o) (ot := ot) (Fl := Fl) (Fn := Fn) (gp := gp) (gu := gu) (gb := gb) (gd := gd) (vl := vl) (vn := (.slice (some ⟨gn, og, none⟩) ns.length d)) (f := f) hsy hx hn k ⟨2, a, b, sg⟩ hnd (show (2 : Int) ≠ 0 by decide) (show 1 ≤ (2 : Int) ∧ (2 : Int) ≤ 5 by decide) hk ⟨h.ul, h.bl, h.dpl⟩ hi hc
 dsimp only at hp hq hs3 HJ
 have HE1 := Lib.hid (show s.good = true → readS xs ns (f + 1) k st = (q.1, joinSt xs ⟨2, a, b, sg⟩ k s) from fun x => by rw [hE, if_pos x])
 have HE2 := Lib.hid (show s.good = false → readS xs ns (f + 1) k st = (-1, s) from fun x => by rw [hE, if_neg (by rw [x]; simp)])
 have HJ' := Lib.hid HJ
 have CI := Lib.hid (show ∀ w : World, Calls Try.prog 58 #[.int .i64 2, .int .i64 1, .int .i64 5] w fun e w' => e = .returned (.bool true) ∧ w = w' from fun w => by
  have := spec_inR_c 2 1 5 w
  rwa [show inR 2 1 5 = true from by rfl] at this)
 obtain ⟨pl, pu, PL, PI⟩ := PO
 obtain ⟨ql, qu, QL, QI⟩ := QO
 have hp1 : partS (readS xs ns f) ((k : Int) - 1) b st = p := by rw [← hp]; unfold firstS; rw [if_neg (show (⟨2, a, b, sg⟩ : PNode).kind ≠ 5 from show (2 : Int) ≠ 5 by decide)]
 have C1 := Lib.hid (fun w' (r : Rd e et o ot xs ns vl (.slice (some ⟨gn, og, none⟩) ns.length d) Fl Fn gp gu gb gd st w') => spec_part_c IH ((k : Int) - 1) b w' (by omega) (by omega) r hi (by omega))
 rw [hp1] at C1
 have C2 := Lib.hid (fun w' (r : Rd e et o ot xs ns vl (.slice (some ⟨gn, og, none⟩) ns.length d) Fl Fn gp gu gb gd p.2 w') => spec_part_c IH p.1 a w' (by omega) (by omega) r PI (by omega))
 rw [hq] at C2
 obtain ⟨t, ht⟩ : ∃ t, takeF q.2 sg = t := ⟨_, rfl⟩
 have CT := Lib.hid (fun w' (r : Rd e et o ot xs ns vl (.slice (some ⟨gn, og, none⟩) ns.length d) Fl Fn gp gu gb gd q.2 w') => spec_take_c sg w' r hx)
 rw [ht] at CT
 have hs : s = { t with good := t.good && decide ((symAt xs sg).label = labelF 2) } := by
  rw [← hs3, ← ht]; rfl
 have HIN := Lib.hid (show t.good = true → 0 ≤ sg ∧ sg < (xs.length : Int) from fun x => by rw [← ht] at x; have := takeF_in x; rwa [QL.1] at this)
 have CL := Lib.hid (show ∀ w : World, Calls Try.prog 40 #[.int .i64 2] w fun e w' => e = .returned (.string ⟨#[45]⟩) ∧ w' = w from spec_l21Label_c 2)
 have HS := Lib.hid hs
 skip
 have ep : (k : Int) - 1 = (k : Int) - 1 := rfl
 clear h hi hc hE hnd IH hsy hs hs3 hq hp HJ PL PI QL QI ep hp1 ht 
 go_enter Try.func78, Try.ntmps78
 go_upto_region 2 with fail
 generalize w.alloc (.cells #[.int .i64 2, .int .i64 a, .int .i64 b, .int .i64 sg] 76) = w0 at RD R5 on ⊢
 clear q0 q1 q2 q3 p1
 have t0 := R5.c0
 have t1 := R5.c1
 have t2 := R5.c2
 have t3 := R5.c3
 have p7 : w0.cell? ⟨gp, 7, none⟩ = some (.bool true) := by rw [← hg]; exact RD.row.cell' (i := 7) rfl
 have Fp := RD.row.frozen
 go_wp2_with fail
 refine (CI.out _).mono ?_
 rintro en wi ⟨rfl, rfl⟩
 go_wp2_with fail
 clear t0 t1 t2 t3 p7 Fp
 refine (C1.out _ RD).mono ?_
 clear RD
 rintro en w1 ⟨rfl, o1, RD⟩
 replace R5 := R5.onlyC o1 hfr
 replace on := on.trans o1
 have t0 := R5.c0
 have t1 := R5.c1
 have t2 := R5.c2
 have t3 := R5.c3
 go_wp2_with fail
 clear t0 t1 t2 t3
 refine (C2.out _ RD).mono ?_
 clear RD
 rintro en w2 ⟨rfl, o2, RD⟩
 replace R5 := R5.onlyC o2 hfr
 replace on := on.trans o2
 have t0 := R5.c0
 have t1 := R5.c1
 have t2 := R5.c2
 have t3 := R5.c3
 go_wp2_with fail
 clear t0 t1 t2 t3
 refine (CT.out _ RD).mono ?_
 clear RD
 rintro en w3 ⟨⟨v, rfl⟩, o3, RD⟩
 replace R5 := R5.onlyC o3 hfr2
 replace on := on.trans (only4 o3)
 have t0 := R5.c0
 have t3 := R5.c3
 have Fp := RD.row.frozen
 cases htg : t.good with
 | false =>
   have p7 : w3.cell? ⟨gp, 7, none⟩ = some (.bool false) := by rw [← htg]; exact RD.row.cell' (i := 7) rfl
   go_upto_region 20 with fail
   have hS : (fun w' : World => w'.cell? ⟨gp, 7, none⟩ = some (.bool false)) w3.drew := p7
   dsimp only at hS
   refine wp_region_held_drew (S := (fun w' : World => w'.cell? ⟨gp, 7, none⟩ = some (.bool false))) (by kernel_rfl) hS (fun _ => ?_)
   refine tJ 0 hS ?_
   refine tJ 1 hS ?_
   refine tJ 2 hS ?_
   refine tJ 3 hS ?_
   refine tJ 4 hS ?_
   refine tJ 5 hS ?_
   refine tJ0 6 hS ?_
   refine tJ0 7 hS ?_
   refine tJ0 8 hS ?_
   refine tJ0 9 hS ?_
   refine tJ0 10 hS ?_
   refine tJ0 11 hS ?_
   refine tJ0 12 hS ?_
   refine tJ0 13 hS ?_
   refine tJ0 14 hS ?_
   refine tJ0 15 hS ?_
   refine tJ0 16 hS ?_
   refine tJ0 17 hS ?_
   refine tJ0 18 hS ?_
   refine tJ 19 hS ?_
   refine tJ 20 hS ?_
   refine tJ 21 hS ?_
   refine rJ 22 fun K hK => ?_
   go_simp
   refine hK.out _ _ ((RD.setGood false).drew.row.cell' (i := 7) rfl) (fun hHeld => ?_)
   clear hK K hHeld hS
   refine wpAnyH_done (by kernel_rfl) ?_ _
   go_upto_region 22 with fail
   clear t0 t3 p7 Fp
   replace RD := (RD.setGood false).drew
   replace on := (on.set (p := ⟨gp, 7, none⟩) (by simp) (.bool false)).drew
   generalize (w3.setCell ⟨gp, 7, none⟩ (.bool false)).drew = w4 at RD on ⊢
   have p7 := RD.row.cell' (i := 7) rfl
   have HR := Lib.hid RD
   have HO := Lib.hid on
   clear RD on
   go_wp2_with fail
   go_ret
   have hsb : s.good = false := by rw [HS.out]; rw [htg]; rfl
   rw [HE2.out hsb]
   refine ⟨rfl, HO.out, ?_⟩
   have := HR.out
   have e : s = { t with good := false } := by rw [HS.out]; rw [htg]; rfl
   rw [e]
   exact this
 | true =>
   obtain ⟨i1, i2⟩ := HIN.out htg
   obtain ⟨js, rfl⟩ : ∃ js : Nat, sg = (js : Int) := ⟨sg.toNat, by omega⟩
   have hjs : js < xs.length := by omega
   have p7 : w3.cell? ⟨gp, 7, none⟩ = some (.bool true) := by rw [← htg]; exact RD.row.cell' (i := 7) rfl
   obtain ⟨_, cl2, hvl, _, _, hsr⟩ := pSymbols_open RD.syms
   obtain ⟨gs, os, rfl, hgs, hgin, s0, _, _, _, _, _⟩ := hsr js hjs
   subst hvl
   clear hsr
   have p0 := RD.row.c0
   have esy := Lib.hid (symAt_at hjs)
   obtain ⟨lb, hlb⟩ : ∃ l, xs[js].label = l := ⟨_, rfl⟩
   rw [hlb] at s0
   have HLB := Lib.hid hlb
   clear hlb
   by_cases hl : lb = ⟨#[45]⟩
   · subst hl
     go_upto_region 20 with fail
     go_still_tail 22, (by kernel_rfl)
     still_call (CL.out _)
     repeat still_step
     refine wpStill_nil ?_
     go_upto_region 22 with fail
     clear t0 t3 p7 Fp s0 p0
     replace RD := (RD.setGood true).drew
     replace R5 := (R5.far (p := ⟨gp, 7, none⟩) (by show _ ≠ gp; omega) (.bool true)).drew
     replace on := (on.set (p := ⟨gp, 7, none⟩) (by simp) (.bool true)).drew
     generalize (w3.setCell ⟨gp, 7, none⟩ (.bool true)).drew = w4 at RD on R5 ⊢
     have p7 := RD.row.cell' (i := 7) rfl
     have t0 := R5.c0
     have t1 := R5.c1
     have t2 := R5.c2
     have t3 := R5.c3
     have hsg : s.good = true := by rw [HS.out]; show (t.good && decide ((symAt xs (js : Int)).label = _)) = true; rw [htg, esy.out, HLB.out]; rfl
     have e : s = { t with good := true } := by rw [HS.out]; rw [htg, esy.out, HLB.out]; rfl
     rw [← e] at RD
     have CJ := (HJ'.out hsg).2 _ RD
     clear RD
     have HSG := Lib.hid hsg
     clear e hsg
     go_wp2_with fail
     refine CJ.mono ?_
     rintro en w5 ⟨⟨v, rfl⟩, o5, RD⟩
     replace on := on.trans o5
     have HR := Lib.hid RD
     have HO := Lib.hid on
     clear RD on
     go_wp2_with fail
     go_ret
     rw [HE1.out HSG.out]
     exact ⟨rfl, HO.out, HR.out⟩
   · have gl : (lb.toList == [45]) = false := by
      have := str_eq lb minus1
      rw [decide_eq_false (show ¬ lb = minus1 from hl)] at this
      rw [← this, ByteArray.toList_eq minus1]; rfl
     have HL := Lib.hid hl
     clear hl
     go_upto_region 20 with fail
     go_still_tail 22, (by kernel_rfl)
     still_call (CL.out _)
     repeat still_step
     refine wpStill_nil ?_
     go_upto_region 22 with fail
     clear t0 t3 p7 Fp s0 p0
     replace RD := (RD.setGood false).drew
     replace on := (on.set (p := ⟨gp, 7, none⟩) (by simp) (.bool false)).drew
     generalize (w3.setCell ⟨gp, 7, none⟩ (.bool false)).drew = w4 at RD on ⊢
     have p7 := RD.row.cell' (i := 7) rfl
     have HR := Lib.hid RD
     have HO := Lib.hid on
     clear RD on
     go_wp2_with fail
     go_ret
     have hsb : s.good = false := by rw [HS.out]; show (t.good && decide ((symAt xs (js : Int)).label = _)) = false; rw [htg, esy.out, HLB.out, decide_eq_false (show ¬ lb = labelF 2 from HL.out)]; rfl
     rw [HE2.out hsb]
     refine ⟨rfl, HO.out, ?_⟩
     have := HR.out
     have e : s = { t with good := false } := by rw [HS.out]; rw [htg, esy.out, HLB.out, decide_eq_false (show ¬ lb = labelF 2 from HL.out)]; rfl
     rw [e]
     exact this
set_option maxRecDepth 100000 in
set_option maxHeartbeats 8000000 in
theorem spec_reado_c {e et : TypeId} {o ot : Bool} {xs : List PSymbol} {ns : List PNode} {vl vn : Value} {Fl Fn : List Nat} {gp gu gb gd f : Nat} {st : RdSt} {c : Int} (IH : ReadC e et o ot xs ns vl vn Fl Fn gp gu gb gd f) (hsy : ∀ s ∈ xs, boxIn (boxOf s)) (hx : xs.length ≤ 8) (hn : ns.length ≤ 15) (k : Nat) (w : World) (kd a b sg : Int) (hnd : nodeAt ns k = ⟨kd, a, b, sg⟩) (h0 : kd ≠ 0) (h5 : kd ≠ 5) (h2 : kd ≠ 2) (hkd : 1 ≤ kd ∧ kd ≤ 5) (hkf : k < f + 1) (hk : k < ns.length) (h : Rd e et o ot xs ns vl vn Fl Fn gp gu gb gd st w) (hg : st.good = true) (hi : RdInv st c) (hc : c + 40000 * ((k : Int) + 1) ≤ 640000) :
 Calls Try.prog 78 #[.pointer (some ⟨gp, 0, none⟩), .int .i64 (k : Int)] w (RPost e et o ot xs ns vl vn Fl Fn gp gu gb gd (readS xs ns (f + 1) k st) w) := by
 have hgp := h.row.lt
 have hgu := h.us.lt
 have hgb := h.bs.lt
 have hgd := h.ds.lt
 have hFl : ∀ b ∈ Fl, b < w.heap.size := fun b hb => (pSymbols e).lt h.syms b hb
 have hFn : ∀ b ∈ Fn, b < w.heap.size := fun b hb => (pNodes et).lt h.nods b hb
 have hfr : w.heap.size ∉ [gp, gu, gb, gd] := by simp; omega
 have hfr2 : w.heap.size ∉ [gp, gu] := by simp; omega
 obtain ⟨B, d, rfl, _, _, hr⟩ := pNodes_open h.nods
 obtain ⟨gn, og, rfl, hgn, hgnF, q0, q1, q2, q3, _⟩ := hr k hk
 rw [← nodeAt_get hk, hnd] at q0 q1 q2 q3
 dsimp only at q0 q1 q2 q3
 clear hr
 have p1 := h.row.c1
 have k0 : (0 : Int) ≤ (k : Int) := by omega
 have k1 : (k : Int) < (ns.length : Int) := by omega
 have ek := IntWalk.i64_in ((k : Int) - 1) (by omega)
 have RD := h.alloc (.cells #[.int .i64 kd, .int .i64 a, .int .i64 b, .int .i64 sg] 76)
 have R5 := Row.new w 76 #[.int .i64 kd, .int .i64 a, .int .i64 b, .int .i64 sg]
 have on : Only [gp, gu, gb, gd] w (w.alloc (.cells #[.int .i64 kd, .int .i64 a, .int .i64 b, .int .i64 sg] 76)) := (Only.refl _ _).alloc _
 obtain ⟨p, q, s, hp, hq, hs3, hE, PO, QO, HJ⟩ := read_parts (e := e) (et := et) (o := o) (ot := ot) (Fl := Fl) (Fn := Fn) (gp := gp) (gu := gu) (gb := gb) (gd := gd) (vl := vl) (vn := (.slice (some ⟨gn, og, none⟩) ns.length d)) (f := f) hsy hx hn k ⟨kd, a, b, sg⟩ hnd h0 hkd hk ⟨h.ul, h.bl, h.dpl⟩ hi hc
 dsimp only at hp hq hs3 HJ
 have HE1 := Lib.hid (show s.good = true → readS xs ns (f + 1) k st = (q.1, joinSt xs ⟨kd, a, b, sg⟩ k s) from fun x => by rw [hE, if_pos x])
 have HE2 := Lib.hid (show s.good = false → readS xs ns (f + 1) k st = (-1, s) from fun x => by rw [hE, if_neg (by rw [x]; simp)])
 have HJ' := Lib.hid HJ
 have CI := Lib.hid (show ∀ w : World, Calls Try.prog 58 #[.int .i64 kd, .int .i64 1, .int .i64 5] w fun e w' => e = .returned (.bool true) ∧ w = w' from fun w => by
  have := spec_inR_c kd 1 5 w
  rwa [show inR kd 1 5 = true from by unfold inR; rw [Bool.and_eq_true]; simp only [decide_eq_true_eq]; exact hkd] at this)
 obtain ⟨pl, pu, PL, PI⟩ := PO
 obtain ⟨ql, qu, QL, QI⟩ := QO
 have hp1 : partS (readS xs ns f) ((k : Int) - 1) b st = p := by rw [← hp]; unfold firstS; rw [if_neg (show (⟨kd, a, b, sg⟩ : PNode).kind ≠ 5 from h5)]
 have C1 := Lib.hid (fun w' (r : Rd e et o ot xs ns vl (.slice (some ⟨gn, og, none⟩) ns.length d) Fl Fn gp gu gb gd st w') => spec_part_c IH ((k : Int) - 1) b w' (by omega) (by omega) r hi (by omega))
 rw [hp1] at C1
 have C2 := Lib.hid (fun w' (r : Rd e et o ot xs ns vl (.slice (some ⟨gn, og, none⟩) ns.length d) Fl Fn gp gu gb gd p.2 w') => spec_part_c IH p.1 a w' (by omega) (by omega) r PI (by omega))
 rw [hq] at C2
 have hs : s = { q.2 with good := q.2.good && decide (sg = 0) } := by
  rw [← hs3]
  unfold signSt
  rw [if_neg (by simp [signed, h2, h5])]
 have g0 : (kd == 0) = false := by simp [h0]
 have g5 : (kd == 5) = false := by simp [h5]
 have g2 : (kd == 2) = false := by simp [h2]
 have HS := Lib.hid hs
 skip
 have ep : (k : Int) - 1 = (k : Int) - 1 := rfl
 clear h hi hc hE hnd IH hsy hs hs3 hq hp HJ PL PI QL QI ep hp1 h0 h5 h2 hkd
 go_enter Try.func78, Try.ntmps78
 go_upto_region 2 with fail
 generalize w.alloc (.cells #[.int .i64 kd, .int .i64 a, .int .i64 b, .int .i64 sg] 76) = w0 at RD R5 on ⊢
 clear q0 q1 q2 q3 p1
 have t0 := R5.c0
 have t1 := R5.c1
 have t2 := R5.c2
 have t3 := R5.c3
 have p7 : w0.cell? ⟨gp, 7, none⟩ = some (.bool true) := by rw [← hg]; exact RD.row.cell' (i := 7) rfl
 have Fp := RD.row.frozen
 go_wp2_with fail
 refine (CI.out _).mono ?_
 rintro en wi ⟨rfl, rfl⟩
 go_wp2_with fail
 clear t0 t1 t2 t3 p7 Fp
 refine (C1.out _ RD).mono ?_
 clear RD
 rintro en w1 ⟨rfl, o1, RD⟩
 replace R5 := R5.onlyC o1 hfr
 replace on := on.trans o1
 have t0 := R5.c0
 have t1 := R5.c1
 have t2 := R5.c2
 have t3 := R5.c3
 go_wp2_with fail
 clear t0 t1 t2 t3
 refine (C2.out _ RD).mono ?_
 clear RD
 rintro en w2 ⟨rfl, o2, RD⟩
 replace R5 := R5.onlyC o2 hfr
 replace on := on.trans o2
 have t0 := R5.c0
 have t1 := R5.c1
 have t2 := R5.c2
 have t3 := R5.c3
 have Fp := RD.row.frozen
 cases htg : q.2.good with
 | false =>
   have p7 : w2.cell? ⟨gp, 7, none⟩ = some (.bool false) := by rw [← htg]; exact RD.row.cell' (i := 7) rfl
   go_upto_region 22 with fail
   clear t0 t1 t2 t3 p7 Fp
   replace RD := RD.setGood false
   replace on := on.set (p := ⟨gp, 7, none⟩) (by simp) (.bool false)
   generalize w2.setCell ⟨gp, 7, none⟩ (.bool false) = w4 at RD on ⊢
   have p7 := RD.row.cell' (i := 7) rfl
   have HR := Lib.hid RD
   have HO := Lib.hid on
   clear RD on
   go_wp2_with fail
   go_ret
   have hsb : s.good = false := by rw [HS.out]; rw [htg]; rfl
   rw [HE2.out hsb]
   refine ⟨rfl, HO.out, ?_⟩
   have := HR.out
   have e : s = { q.2 with good := false } := by rw [HS.out]; rw [htg]; rfl
   rw [e]
   exact this
 | true =>
   have p7 : w2.cell? ⟨gp, 7, none⟩ = some (.bool true) := by rw [← htg]; exact RD.row.cell' (i := 7) rfl
   by_cases hz : sg = 0
   · subst hz
     go_upto_region 22 with fail
     clear t0 t1 t2 t3 p7 Fp
     replace RD := RD.setGood true
     replace R5 := R5.far (p := ⟨gp, 7, none⟩) (by show _ ≠ gp; omega) (.bool true)
     replace on := on.set (p := ⟨gp, 7, none⟩) (by simp) (.bool true)
     generalize w2.setCell ⟨gp, 7, none⟩ (.bool true) = w4 at RD on R5 ⊢
     have p7 := RD.row.cell' (i := 7) rfl
     have t0 := R5.c0
     have t1 := R5.c1
     have t2 := R5.c2
     have t3 := R5.c3
     have hsg : s.good = true := by rw [HS.out]; rw [htg]; rfl
     have e : s = { q.2 with good := true } := by rw [HS.out]; rw [htg]; rfl
     rw [← e] at RD
     have CJ := (HJ'.out hsg).2 _ RD
     clear RD
     have HSG := Lib.hid hsg
     clear e hsg
     go_wp2_with fail
     refine CJ.mono ?_
     rintro en w5 ⟨⟨v, rfl⟩, o5, RD⟩
     replace on := on.trans o5
     have HR := Lib.hid RD
     have HO := Lib.hid on
     clear RD on
     go_wp2_with fail
     go_ret
     rw [HE1.out HSG.out]
     exact ⟨rfl, HO.out, HR.out⟩
   · have gz : (sg == 0) = false := by simp [hz]
     have HZ := Lib.hid hz
     clear hz
     go_upto_region 22 with fail
     clear t0 t1 t2 t3 p7 Fp
     replace RD := RD.setGood false
     replace on := on.set (p := ⟨gp, 7, none⟩) (by simp) (.bool false)
     generalize w2.setCell ⟨gp, 7, none⟩ (.bool false) = w4 at RD on ⊢
     have p7 := RD.row.cell' (i := 7) rfl
     have HR := Lib.hid RD
     have HO := Lib.hid on
     clear RD on
     go_wp2_with fail
     go_ret
     have hsb : s.good = false := by rw [HS.out]; rw [htg, decide_eq_false HZ.out]; rfl
     rw [HE2.out hsb]
     refine ⟨rfl, HO.out, ?_⟩
     have := HR.out
     have e : s = { q.2 with good := false } := by rw [HS.out]; rw [htg, decide_eq_false HZ.out]; rfl
     rw [e]
     exact this
theorem spec_read_c {e et : TypeId} {o ot : Bool} {xs : List PSymbol} {ns : List PNode} {vl vn : Value} {Fl Fn : List Nat} {gp gu gb gd : Nat} (hsy : ∀ s ∈ xs, boxIn (boxOf s)) (hx : xs.length ≤ 8) (hn : ns.length ≤ 15) : ∀ f, ReadC e et o ot xs ns vl vn Fl Fn gp gu gb gd f
 | 0 => fun k st c w hk => by omega
 | f + 1 => fun k st c w hkf hk h hg hi hc => by
   have IH := spec_read_c (e := e) (et := et) (o := o) (ot := ot) (vl := vl) (vn := vn) (Fl := Fl) (Fn := Fn) (gp := gp) (gu := gu) (gb := gb) (gd := gd) hsy hx hn f
   obtain ⟨kd, a, b, sg, hnd⟩ : ∃ kd a b sg, nodeAt ns k = ⟨kd, a, b, sg⟩ := ⟨_, _, _, _, rfl⟩
   by_cases h0 : kd = 0
   · subst h0; exact spec_read0_c IH hsy hx hn k w a b sg hnd hkf hk h hg hi hc
   by_cases hkd : 1 ≤ kd ∧ kd ≤ 5
   · by_cases h5 : kd = 5
     · subst h5; exact spec_read5_c IH hsy hx hn k w a b sg hnd hkf hk h hg hi hc
     by_cases h2 : kd = 2
     · subst h2; exact spec_read2_c IH hsy hx hn k w a b sg hnd hkf hk h hg hi hc
     exact spec_reado_c IH hsy hx hn k w kd a b sg hnd h0 h5 h2 hkd hkf hk h hg hi hc
   · exact spec_readx_c IH hsy hx hn k w kd a b sg hnd h0 hkd hkf hk h hg hi hc
end Go.Proofs.Ytmopioaojdlnkaa

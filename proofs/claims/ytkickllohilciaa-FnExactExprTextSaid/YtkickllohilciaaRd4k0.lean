/- The reference's reader of trees: reading a leaf. Conditions: none. -/
import Derived.Test.YtkickllohilciaaRd4c
namespace Go.Proofs.Ytkickllohilciaa
open Go Go.RowKit

set_option maxRecDepth 100000 in
set_option maxHeartbeats 8000000 in
theorem spec_read0_c {e et : TypeId} {o ot : Bool} {xs : List PSymbol} {ns : List PNode} {vl vn : Value} {Fl Fn : List Nat} {gp gu gb gd f : Nat} {st : RdSt} {c : Int} (IH : ReadC e et o ot xs ns vl vn Fl Fn gp gu gb gd f) (hsy : ∀ s ∈ xs, boxIn (boxOf s)) (hx : xs.length ≤ 8) (hn : ns.length ≤ 15) (k : Nat) (w : World) (a b sg : Int) (hnd : nodeAt ns k = ⟨0, a, b, sg⟩) (hkf : k < f + 1) (hk : k < ns.length) (h : Rd e et o ot xs ns vl vn Fl Fn gp gu gb gd st w) (hg : st.good = true) (hi : RdInv st c) (hc : c + 40000 * ((k : Int) + 1) ≤ 640000) :
    Calls Try.prog 56 #[.pointer (some ⟨gp, 0, none⟩), .int .i64 (k : Int)] w (RPost e et o ot xs ns vl vn Fl Fn gp gu gb gd (readS xs ns (f + 1) k st) w) := by
  have hgp := h.row.lt
  have hgu := h.us.lt
  have hgb := h.bs.lt
  have hgd := h.ds.lt
  have hFl : ∀ b ∈ Fl, b < w.heap.size := fun b hb => (pSymbols e).lt h.syms b hb
  have hFn : ∀ b ∈ Fn, b < w.heap.size := fun b hb => (pNodes et).lt h.nods b hb
  have hfr : w.heap.size ∉ [gp, gu, gb, gd] := by simp; omega
  have hfr2 : w.heap.size ∉ [gp, gu] := by simp; omega
  obtain ⟨B, d, rfl, _, _, hr⟩ := pNodes_open h.nods
  obtain ⟨gn, og, rfl, hgn, hgnF, q0, q1, q2, q3, _⟩ := hr k hk
  rw [← nodeAt_get hk, hnd] at q0 q1 q2 q3
  dsimp only at q0 q1 q2 q3
  clear hr
  have p1 := h.row.cell' (i := 1) rfl
  have k0 : (0 : Int) ≤ (k : Int) := by omega
  have k1 : (k : Int) < (ns.length : Int) := by omega
  have ek : IntKind.i64.wrap ((k : Int) - 1) = (k : Int) - 1 := IntWalk.i64_in _ (by omega)
  have RD := h.alloc (.cells #[.int .i64 0, .int .i64 a, .int .i64 b, .int .i64 sg] 84)
  have R5 := Row.new w 84 #[.int .i64 0, .int .i64 a, .int .i64 b, .int .i64 sg]
  have on : Only [gp, gu, gb, gd] w (w.alloc (.cells #[.int .i64 0, .int .i64 a, .int .i64 b, .int .i64 sg] 84)) := (Only.refl _ _).alloc _
  obtain ⟨s, hs⟩ : ∃ s, takeF st a = s := ⟨_, rfl⟩
  have hin : s.good = true → 0 ≤ a ∧ a < (xs.length : Int) := fun hh => by rw [← hs] at hh; have := takeF_in hh; rwa [h.ul] at this
  have CT0 := Lib.hid (fun w' r => spec_take_c (st := st) (e := e) (et := et) (o := o) (ot := ot) (xs := xs) (ns := ns) (Fl := Fl) (Fn := Fn) (gp := gp) (gu := gu) (gb := gb) (gd := gd) (vl := vl) (vn := .slice (some ⟨gn, og, none⟩) ns.length d) a w' r hx)
  rw [hs] at CT0
  have EG : s.good = true → b = 0 → sg = 0 → readS xs ns (f + 1) k st = ((k : Int) - 1, { s with boxes := s.boxes.set k (boxOf (symAt xs a)), depth := s.depth.set k 1 }) := fun x y z => by
    rw [readS, hnd]; dsimp only; rw [if_pos rfl, hs, if_pos ⟨x, y, z⟩]
  have EB : ¬ (s.good = true ∧ b = 0 ∧ sg = 0) → readS xs ns (f + 1) k st = (-1, { s with good := false }) := fun x => by
    rw [readS, hnd]; dsimp only; rw [if_pos rfl, hs, if_neg x]
  have HEG := Lib.hid EG
  have HEB := Lib.hid EB
  have HIN := Lib.hid hin
  clear h hi hc hg EG EB hnd IH hs hin hsy
  by_cases hG : s.good = true ∧ b = 0 ∧ sg = 0
  · obtain ⟨hG1, rfl, rfl⟩ := hG
    obtain ⟨i1, i2⟩ := HIN.out hG1
    obtain ⟨js, rfl⟩ : ∃ js : Nat, a = (js : Int) := ⟨a.toNat, by omega⟩
    have hjs : js < xs.length := by omega
    go_enter Try.func56, Try.ntmps56
    go_upto_region 2 with fail
    generalize w.alloc (.cells #[.int .i64 0, .int .i64 (js : Int), .int .i64 0, .int .i64 0] 84) = w0 at RD R5 on ⊢
    clear q0 q1 q2 q3 p1
    have t0 := R5.cell' (i := 0) rfl
    have t1 := R5.cell' (i := 1) rfl
    have t2 := R5.cell' (i := 2) rfl
    have t3 := R5.cell' (i := 3) rfl
    have CT := CT0.out _ RD
    clear RD
    go_wp2_with fail
    refine CT.mono ?_
    rintro en w1 ⟨⟨v, rfl⟩, o1, RD⟩
    clear t0 t1 t2 t3
    replace R5 := R5.onlyC o1 hfr2
    replace on := on.trans (only4 o1)
    have t2 := R5.cell' (i := 2) rfl
    have t3 := R5.cell' (i := 3) rfl
    have p7 : w1.cell? ⟨gp, 7, none⟩ = some (.bool true) := by rw [← hG1]; exact RD.row.cell' (i := 7) rfl
    have Fp := RD.row.frozen
    go_upto_region 5 with fail
    replace RD := RD.setGood true
    replace R5 := R5.far (p := ⟨gp, 7, none⟩) (by show _ ≠ gp; omega) (.bool true)
    replace on := on.set (p := ⟨gp, 7, none⟩) (by simp) (.bool true)
    generalize w1.setCell ⟨gp, 7, none⟩ (.bool true) = w2 at RD on R5 ⊢
    clear t2 t3 p7 Fp
    have p7 := RD.row.cell' (i := 7) rfl
    go_upto_region 7 with fail
    clear p7
    obtain ⟨_, cl2, hvl, _, _, hsr⟩ := pSymbols_open RD.syms
    obtain ⟨gs, os, rfl, hgs, hgin, _, s1, s2, s3, s4, _⟩ := hsr js hjs
    subst hvl
    clear hsr
    have p0 := RD.row.cell' (i := 0) rfl
    have p3 := RD.row.cell' (i := 3) rfl
    have t1 := R5.cell' (i := 1) rfl
    have hkb : k < s.boxes.length := by have := RD.bl; dsimp only at this; omega
    obtain ⟨z0, z1, z2, z3⟩ := RD.boxCell hkb
    have Fb := RD.bs.frozen
    have js0 : (0 : Int) ≤ (js : Int) := by omega
    have js1 : (js : Int) < (xs.length : Int) := by omega
    go_still_tail 15, (by kernel_rfl)
    go_upto_region 8 with fail
    have RDb : Rd e et o ot xs ns _ _ Fl Fn gp gu gb gd { s with good := true, boxes := s.boxes.set k (boxOf xs[js]) } ((((w2.setCell ⟨gb, k * 4, none⟩ (.int .i64 xs[js].x1)).setCell ⟨gb, k * 4 + 1, none⟩ (.int .i64 xs[js].y1)).setCell ⟨gb, k * 4 + 2, none⟩ (.int .i64 xs[js].x2)).setCell ⟨gb, k * 4 + 3, none⟩ (.int .i64 xs[js].y2)).drew := (RD.setBox k hk (boxOf xs[js])).drew
    replace on := ((((on.set (p := ⟨gb, k * 4, none⟩) (by simp) (.int .i64 xs[js].x1)).set (p := ⟨gb, k * 4 + 1, none⟩) (by simp) (.int .i64 xs[js].y1)).set (p := ⟨gb, k * 4 + 2, none⟩) (by simp) (.int .i64 xs[js].x2)).set (p := ⟨gb, k * 4 + 3, none⟩) (by simp) (.int .i64 xs[js].y2)).drew
    clear RD R5 t1 p0 p3 z0 z1 z2 z3 Fb s1 s2 s3 s4
    generalize ((((w2.setCell ⟨gb, k * 4, none⟩ (.int .i64 xs[js].x1)).setCell ⟨gb, k * 4 + 1, none⟩ (.int .i64 xs[js].y1)).setCell ⟨gb, k * 4 + 2, none⟩ (.int .i64 xs[js].x2)).setCell ⟨gb, k * 4 + 3, none⟩ (.int .i64 xs[js].y2)).drew = w3 at RDb on ⊢
    have p5 := RDb.row.cell' (i := 5) rfl
    have hkd : k < s.depth.length := by have := RDb.dpl; dsimp only at this; omega
    have y1 := RDb.depCell (k := k) hkd
    have Fd := RDb.ds.frozen
    have HR := Lib.hid (RDb.setDep k 1)
    have HO := Lib.hid (on.set (p := ⟨gd, k, none⟩) (by simp) (.int .i64 1))
    clear RDb on
    go_wp2_with fail
    go_ret
    rw [HEG.out hG1 (by simp) (by simp), symAt_at hjs, ← hG1] 
    refine ⟨rfl, HO.out, ?_⟩
    have := HR.out
    try dsimp only at this
    rw [← hG1] at this
    exact this
  · have E := Lib.hid (HEB.out hG)
    cases hgs : s.good with
    | false =>
      go_enter Try.func56, Try.ntmps56
      go_upto_region 2 with fail
      generalize w.alloc (.cells #[.int .i64 0, .int .i64 a, .int .i64 b, .int .i64 sg] 84) = w0 at RD R5 on ⊢
      clear q0 q1 q2 q3 p1
      have t0 := R5.cell' (i := 0) rfl
      have t1 := R5.cell' (i := 1) rfl
      have t2 := R5.cell' (i := 2) rfl
      have t3 := R5.cell' (i := 3) rfl
      have CT := CT0.out _ RD
      clear RD
      go_wp2_with fail
      refine CT.mono ?_
      rintro en w1 ⟨⟨v, rfl⟩, o1, RD⟩
      clear t0 t1 t2 t3
      replace on := on.trans (only4 o1)
      have p7 : w1.cell? ⟨gp, 7, none⟩ = some (.bool false) := by rw [← hgs]; exact RD.row.cell' (i := 7) rfl
      have Fp := RD.row.frozen
      have HR := Lib.hid (RD.setGood false)
      have HO := Lib.hid (on.set (p := ⟨gp, 7, none⟩) (by simp) (.bool false))
      clear RD on R5
      go_wp2_with fail
      go_ret
      rw [E.out]
      exact ⟨rfl, HO.out, HR.out⟩
    | true =>
      by_cases hb : b = 0
      · have hsg : (sg == 0) = false := by
          have : sg ≠ 0 := fun z => hG ⟨hgs, hb, z⟩
          simp [this]
        subst hb
        go_enter Try.func56, Try.ntmps56
        go_upto_region 2 with fail
        generalize w.alloc (.cells #[.int .i64 0, .int .i64 a, .int .i64 0, .int .i64 sg] 84) = w0 at RD R5 on ⊢
        clear q0 q1 q2 q3 p1
        have t0 := R5.cell' (i := 0) rfl
        have t1 := R5.cell' (i := 1) rfl
        have t2 := R5.cell' (i := 2) rfl
        have t3 := R5.cell' (i := 3) rfl
        have CT := CT0.out _ RD
        clear RD
        go_wp2_with fail
        refine CT.mono ?_
        rintro en w1 ⟨⟨v, rfl⟩, o1, RD⟩
        clear t0 t1 t2 t3
        replace R5 := R5.onlyC o1 hfr2
        replace on := on.trans (only4 o1)
        have t2 := R5.cell' (i := 2) rfl
        have t3 := R5.cell' (i := 3) rfl
        have p7 : w1.cell? ⟨gp, 7, none⟩ = some (.bool true) := by rw [← hgs]; exact RD.row.cell' (i := 7) rfl
        have Fp := RD.row.frozen
        have HR := Lib.hid (RD.setGood false)
        have HO := Lib.hid (on.set (p := ⟨gp, 7, none⟩) (by simp) (.bool false))
        clear RD on R5
        go_wp2_with fail
        go_ret
        rw [E.out]
        exact ⟨rfl, HO.out, HR.out⟩
      · have hbb : (b == 0) = false := by simp [hb]
        go_enter Try.func56, Try.ntmps56
        go_upto_region 2 with fail
        generalize w.alloc (.cells #[.int .i64 0, .int .i64 a, .int .i64 b, .int .i64 sg] 84) = w0 at RD R5 on ⊢
        clear q0 q1 q2 q3 p1
        have t0 := R5.cell' (i := 0) rfl
        have t1 := R5.cell' (i := 1) rfl
        have t2 := R5.cell' (i := 2) rfl
        have t3 := R5.cell' (i := 3) rfl
        have CT := CT0.out _ RD
        clear RD
        go_wp2_with fail
        refine CT.mono ?_
        rintro en w1 ⟨⟨v, rfl⟩, o1, RD⟩
        clear t0 t1 t2 t3
        replace R5 := R5.onlyC o1 hfr2
        replace on := on.trans (only4 o1)
        have t2 := R5.cell' (i := 2) rfl
        have t3 := R5.cell' (i := 3) rfl
        have p7 : w1.cell? ⟨gp, 7, none⟩ = some (.bool true) := by rw [← hgs]; exact RD.row.cell' (i := 7) rfl
        have Fp := RD.row.frozen
        have HR := Lib.hid (RD.setGood false)
        have HO := Lib.hid (on.set (p := ⟨gp, 7, none⟩) (by simp) (.bool false))
        clear RD on R5
        go_wp2_with fail
        go_ret
        rw [E.out]
        exact ⟨rfl, HO.out, HR.out⟩
end Go.Proofs.Ytkickllohilciaa

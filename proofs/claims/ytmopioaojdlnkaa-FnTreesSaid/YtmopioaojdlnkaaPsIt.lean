/- The reference's chart: fill. Conditions: none. -/
import Derived.Test.YtmopioaojdlnkaaTkt
import Derived.Test.YtmopioaojdlnkaaPsHt
import Derived.Deep.CutRange
import Derived.Test.YtmopioaojdlnkaaPsFt
namespace Go.Proofs.Ytmopioaojdlnkaa
open Go Go.RowKit
theorem elems_yes {i s : Nat} (h : s.testBit i = true) : elems (i + 1) s = elems i s ++ [i] := by
 unfold elems; rw [List.range_succ, List.filter_append]; simp [h]
theorem elems_no {i s : Nat} (h : s.testBit i = false) : elems (i + 1) s = elems i s := by
 unfold elems; rw [List.range_succ, List.filter_append]; simp [h]
theorem elems_low {j : Nat} : ∀ n, n ≤ j → elems n (2 ^ j) = []
 | 0, _ => rfl
 | n + 1, h => by rw [elems_no (by rw [Nat.testBit_two_pow]; simp; omega)]; exact elems_low n (by omega)
theorem elems_pow {j : Nat} : ∀ d, elems (j + 1 + d) (2 ^ j) = [j]
 | 0 => by rw [Nat.add_zero, elems_yes (by rw [Nat.testBit_two_pow]; simp), elems_low j (Nat.le_refl _)]; rfl
 | d + 1 => by rw [← Nat.add_assoc, elems_no (by rw [Nat.testBit_two_pow]; simp; omega)]; exact elems_pow d
theorem elems_one {n s : Nat} (hs : s < 2 ^ n) (h : s = 2 ^ s.log2) : elems n s = [s.log2] := by
 have hl : s.log2 < n := by
  refine bit_lt hs ?_
  rw [h, Nat.log2_two_pow, Nat.testBit_two_pow]; simp
 obtain ⟨d, rfl⟩ : ∃ d, n = s.log2 + 1 + d := ⟨n - s.log2 - 1, by omega⟩
 have e := elems_pow (j := s.log2) d
 rwa [← h] at e
theorem elems_two {n s : Nat} (hs : s < 2 ^ n) (h0 : s ≠ 0) (h : s ≠ 2 ^ s.log2) : 2 ≤ (elems n s).length := by
 have := not_one_pcn hs h0 h
 unfold pcn at this
 rwa [List.countP_eq_length_filter] at this
theorem elems_few (n s : Nat) : (elems n s).length ≤ n := by
 unfold elems
 exact Nat.le_trans (List.length_filter_le _ _) (by simp)
def fillC (xs : List PSymbol) (s i : Nat) : RC := if (elems i s).length = 0 then rc0 else ⟨joinN ((elems i s).map (sbox xs)), 0, 0, 0, (((elems i s).getLastD 0 : Nat) : Int), 0, 0⟩
theorem fillC_no {xs : List PSymbol} {s i : Nat} (h : s.testBit i = false) : fillC xs s (i + 1) = fillC xs s i := by unfold fillC; rw [elems_no h]
theorem fillC_yes {xs : List PSymbol} {s i : Nat} (h : s.testBit i = true) : fillC xs s (i + 1) = ⟨if (elems i s).length = 0 then sbox xs i else joinB (fillC xs s i).box (sbox xs i), 0, 0, 0, (i : Int), 0, 0⟩ := by
 unfold fillC
 rw [elems_yes h, if_neg (by simp), List.map_append, List.getLastD_concat]
 by_cases h0 : (elems i s).length = 0
 · rw [if_pos h0, List.eq_nil_of_length_eq_zero h0]; rfl
 · rw [if_neg h0, if_neg h0, joinN_append (by intro e; simp at e; rw [e] at h0; exact h0 rfl) (by simp)]; rfl
theorem cellAt_fold {xs : List PSymbol} {s : Nat} (hs : s < 2 ^ xs.length) (h1 : s ≠ 2 ^ s.log2) : cellAt xs s = (optsF xs s).foldl (stepO xs (cellAt xs)) cell0 := by
 rw [cellAt_eq xs hs, cellF, if_neg h1]
theorem cell_far4 {w : World} {b o g s t u v : Nat} (h : b ≠ g) (a c d f : Value) : ((((w.setCell ⟨g, s, none⟩ a).setCell ⟨g, t, none⟩ c).setCell ⟨g, u, none⟩ d).setCell ⟨g, v, none⟩ f).cell? ⟨b, o, none⟩ = w.cell? ⟨b, o, none⟩ := by
 have far : ∀ (w : World) (i : Nat) (y : Value), (w.setCell ⟨g, i, none⟩ y).cell? ⟨b, o, none⟩ = w.cell? ⟨b, o, none⟩ := fun w i y => World.cell?_of_block (Below.heap_setCell w ⟨g, i, none⟩ y b h)
 rw [far, far, far, far]
theorem Cht.putBox {e : TypeId} {o : Bool} {xs : List PSymbol} {vl : Value} {Fl : List Nat} {gp gc N : Nat} {K : Nat → RC} {s : Nat} {B : RC} {w : World} (h : Cht e o xs vl Fl gp gc N (updF K s B) w) (hs : s < N) (X : PBox) :
 Cht e o xs vl Fl gp gc N (updF K s { B with box := X }) ((((w.setCell ⟨gc, s * 10, none⟩ (.int .i64 X.x1)).setCell ⟨gc, s * 10 + 1, none⟩ (.int .i64 X.y1)).setCell ⟨gc, s * 10 + 2, none⟩ (.int .i64 X.x2)).setCell ⟨gc, s * 10 + 3, none⟩ (.int .i64 X.y2)) := by
 have q0 := h.put hs (j := 0) (by decide) (.int .i64 X.x1) (a := { B with box := { B.box with x1 := X.x1 } }) (by rw [updF_same]; rfl)
 rw [updF_upd] at q0
 have q1 := q0.put hs (j := 1) (by decide) (.int .i64 X.y1) (a := { B with box := { B.box with x1 := X.x1, y1 := X.y1 } }) (by rw [updF_same]; rfl)
 rw [updF_upd] at q1
 have q2 := q1.put hs (j := 2) (by decide) (.int .i64 X.x2) (a := { B with box := { B.box with x1 := X.x1, y1 := X.y1, x2 := X.x2 } }) (by rw [updF_same]; rfl)
 rw [updF_upd] at q2
 have q3 := q2.put hs (j := 3) (by decide) (.int .i64 X.y2) (a := { B with box := { B.box with x1 := X.x1, y1 := X.y1, x2 := X.x2, y2 := X.y2 } }) (by rw [updF_same]; rfl)
 rw [updF_upd] at q3
 exact q3
theorem Only.box {F : List Nat} {a b : World} (h : Only F a b) {gc s : Nat} (hg : gc ∈ F) (X : PBox) : Only F a ((((b.setCell ⟨gc, s, none⟩ (.int .i64 X.x1)).setCell ⟨gc, s + 1, none⟩ (.int .i64 X.y1)).setCell ⟨gc, s + 2, none⟩ (.int .i64 X.x2)).setCell ⟨gc, s + 3, none⟩ (.int .i64 X.y2)) :=
 (((h.set (p := ⟨gc, s, none⟩) hg _).set (p := ⟨gc, s + 1, none⟩) hg _).set (p := ⟨gc, s + 2, none⟩) hg _).set (p := ⟨gc, s + 3, none⟩) hg _
set_option maxRecDepth 100000 in
set_option maxHeartbeats 4000000 in
theorem spec_cfill_c {e : TypeId} {ob : Bool} {xs : List PSymbol} {vl : Value} {Fl : List Nat} {gp gc N : Nat} {K : Nat → RC} {s : Nat} (w : World) (h : Cht e ob xs vl Fl gp gc N K w) (g : Grd xs N) (hs : s < N) (h0 : s ≠ 0) (hk : RcOk xs K s) (hKs : K s = rc0) :
 Calls Try.prog 53 #[.pointer (some ⟨gp, 0, none⟩), .int .i64 (s : Int)] w (FilPost e ob xs vl Fl gp gc N K s (boxS xs s) (cellAt xs s) w) := by
 have hs' : s < 2 ^ xs.length := g.size ▸ hs
 have G := Lib.hid g
 have HK := Lib.hid hk
 obtain ⟨AL, cl, rfl⟩ := slice_len h.syms
 have HH := Lib.hid (show Cht e ob xs (.slice AL xs.length cl) Fl gp gc N (updF K s rc0) w from by rw [← hKs, updF_id]; exact h)
 have hN := g.le
 have H0 := Lib.hid h0
 have HS := Lib.hid hs'
 have hn8 := g.few
 clear g hk h h0 hKs hs'
 go_enter Try.func53, Try.ntmps53
 go_wp2_with fail
 go_loopw [4, 5] (fun mv iv wr => ∃ (i : Nat), mv = .int .i64 ((elems i s).length : Int) ∧ iv = .int .i64 (i : Int) ∧ i ≤ xs.length ∧ Hid (Cht e ob xs (.slice AL xs.length cl) Fl gp gc N (updF K s (fillC xs s i)) wr) ∧ Only [gc] w wr) (fun _ iv _ => xs.length - (intOf iv).toNat)
 case atStart => exact ⟨0, rfl, rfl, Nat.zero_le _, HH, Only.refl _ _⟩
 case round =>
  obtain ⟨i, rfl, rfl, hi, hh, on⟩ := hrel
  have p0 := hh.out.row.c0
  have p1 := hh.out.row.c1
  have hel := elems_few i s
  by_cases hlt : i < xs.length
  · have g1 : (i : Int) < (xs.length : Int) := by omega
    have i0 : (0 : Int) ≤ (i : Int) := by omega
    have i64 : (i : Int) ≤ 64 := by omega
    have kw := IntWalk.i64_in ((i : Int) + 1) (by omega)
    have hband := bit_is s i (by omega)
    have hcast : (s : Int) / 2 ^ i = ((s / 2 ^ i : Nat) : Int) := by simp
    cases hbit : s.testBit i with
    | false =>
      rw [hbit] at hband
      simp only [Bool.false_eq_true, if_false] at hband
      have HE := Lib.hid (elems_no hbit)
      have HF := Lib.hid (fillC_no (xs := xs) hbit)
      generalize s / 2 ^ i = q at hband hcast
      clear hbit
      go_wp2_with fail
      go_roundw
      case rel => exact ⟨i + 1, by rw [HE.out], by go_num, by omega, by rw [HF.out]; exact hh, on⟩
      case measure => simp [intOf]; omega
    | true =>
      rw [hbit] at hband
      simp only [if_true] at hband
      have HE := Lib.hid (elems_yes hbit)
      have HF := Lib.hid (fillC_yes (xs := xs) hbit)
      generalize s / 2 ^ i = q at hband hcast
      clear hbit
      obtain ⟨AL', cl', hvl, _, _, hsy⟩ := pSymbols_open hh.out.syms
      rw [Value.slice.injEq] at hvl
      obtain ⟨rfl, -, rfl⟩ := hvl
      obtain ⟨bl, ol, rfl, hbl, hblF, -, z1, z2, z3, z4, _⟩ := hsy i hlt
      have hsb := Lib.hid (sbox_at hlt)
      clear hsy
      have i5 : (0 : Int) ≤ (s : Int) := by omega
      have i6 : (s : Int) < (N : Int) := by omega
      obtain ⟨B, hB⟩ : ∃ B, fillC xs s i = B := ⟨_, rfl⟩
      rw [hB] at hh HF
      obtain ⟨m0, m1, m2, m3, m4, m5, m6, m7, m8, m9⟩ := hh.out.cell hs
      rw [updF_same] at m0 m1 m2 m3 m4 m5 m6 m7 m8 m9
      have mF := hh.out.cells.frozen
      have Z : Hid (B = ⟨B.box, 0, 0, 0, B.sign, 0, 0⟩) := Lib.hid (by rw [← hB]; unfold fillC rc0; split <;> rfl)
      clear hB
      by_cases hm : (elems i s).length = 0
      · have y1 : (((elems i s).length : Int) == 0) = true := by simpa using hm
        have HM := Lib.hid hm
        clear hm
        go_upto_region 6 with fail
        go_still_tail 15, (by kernel_rfl)
        go_upto_region 7 with fail
        have h1 := (hh.out.putBox hs (boxOf xs[i])).drew
        have on1 := (on.box (gc := gc) (s := s * 10) (by simp) (boxOf xs[i])).drew
        dsimp only [boxOf] at h1 on1
        generalize ((((wr.setCell ⟨gc, s * 10, none⟩ (.int .i64 xs[i].x1)).setCell ⟨gc, s * 10 + 1, none⟩ (.int .i64 xs[i].y1)).setCell ⟨gc, s * 10 + 2, none⟩ (.int .i64 xs[i].x2)).setCell ⟨gc, s * 10 + 3, none⟩ (.int .i64 xs[i].y2)).drew = w1 at h1 on1 ⊢
        clear p0 p1 z1 z2 z3 z4 m0 m1 m2 m3 m4 m5 m6 m7 m8 m9 mF
        obtain ⟨B1, hB1⟩ : ∃ B1 : RC, { B with box := boxOf xs[i] } = B1 := ⟨_, rfl⟩
        have h1 : Cht e ob xs (.slice (some ⟨bl, ol, none⟩) xs.length cl) Fl gp gc N (updF K s B1) w1 := by rw [← hB1]; exact h1
        have HB1 := Lib.hid hB1
        clear hB1
        obtain ⟨AL2, cl2, hvl2, _, _, hsy⟩ := pSymbols_open h1.syms
        rw [Value.slice.injEq] at hvl2
        obtain ⟨hvl2, -, hvl3⟩ := hvl2
        subst hvl3
        obtain ⟨bl2, ol2, hAL2, hbl2, hblF2, -, z1, z2, z3, z4, _⟩ := hsy i hlt
        rw [hAL2] at hvl2
        injection hvl2 with hvl2
        injection hvl2 with e1 e2 _
        subst e1
        subst e2
        have p0 := h1.row.c0
        have p1 := h1.row.c1
        obtain ⟨m0, m1, m2, m3, m4, m5, m6, m7, m8, m9⟩ := h1.cell hs
        rw [updF_same] at m0 m1 m2 m3 m4 m5 m6 m7 m8 m9
        obtain ⟨Y, hY⟩ : ∃ Y, boxOf xs[i] = Y := ⟨_, rfl⟩
        have ex1 : xs[i].x1 = Y.x1 := by rw [← hY]; rfl
        have ex2 : xs[i].y1 = Y.y1 := by rw [← hY]; rfl
        have ex3 : xs[i].x2 = Y.x2 := by rw [← hY]; rfl
        have ex4 : xs[i].y2 = Y.y2 := by rw [← hY]; rfl
        rw [ex1] at z1
        rw [ex2] at z2
        rw [ex3] at z3
        rw [ex4] at z4
        have HYY := Lib.hid hY
        clear hsy hAL2 ex1 ex2 ex3 ex4 hY
        skip
        have hS : (fun w' : World => w'.cell? ⟨gp, 0, none⟩ = some (.slice (some ⟨bl, ol, none⟩) xs.length cl) ∧ w'.cell? ⟨gp, 1, none⟩ = some (.slice (some ⟨gc, 0, none⟩) N N) ∧ w'.cell? ⟨bl, ol + i * 5 + 1, none⟩ = some (.int .i64 Y.x1) ∧ w'.cell? ⟨bl, ol + i * 5 + 2, none⟩ = some (.int .i64 Y.y1) ∧ w'.cell? ⟨bl, ol + i * 5 + 3, none⟩ = some (.int .i64 Y.x2) ∧ w'.cell? ⟨bl, ol + i * 5 + 4, none⟩ = some (.int .i64 Y.y2)) w1.drew := ⟨p0, p1, z1, z2, z3, z4⟩
        dsimp only at hS
        refine wp_region_held_drew (S := (fun w' : World => w'.cell? ⟨gp, 0, none⟩ = some (.slice (some ⟨bl, ol, none⟩) xs.length cl) ∧ w'.cell? ⟨gp, 1, none⟩ = some (.slice (some ⟨gc, 0, none⟩) N N) ∧ w'.cell? ⟨bl, ol + i * 5 + 1, none⟩ = some (.int .i64 Y.x1) ∧ w'.cell? ⟨bl, ol + i * 5 + 2, none⟩ = some (.int .i64 Y.y1) ∧ w'.cell? ⟨bl, ol + i * 5 + 3, none⟩ = some (.int .i64 Y.x2) ∧ w'.cell? ⟨bl, ol + i * 5 + 4, none⟩ = some (.int .i64 Y.y2))) (by kernel_rfl) hS (fun _ => ?_)
        refine tJ 0 hS ?_
        refine tJ 1 hS ?_
        refine tJ 2 hS ?_
        refine tJ 3 hS ?_
        refine tJ 4 hS ?_
        refine tJ 5 hS ?_
        refine tJ 6 hS ?_
        refine tJ 7 hS ?_
        refine tJ 8 hS ?_
        refine tJ 9 hS ?_
        refine tJ 10 hS ?_
        refine tJ 11 hS ?_
        refine tJ 13 hS ?_
        refine tJ 14 hS ?_
        refine tJ 15 hS ?_
        refine tJ 16 hS ?_
        refine tJ 17 hS ?_
        refine tJ 18 hS ?_
        refine tJ 19 hS ?_
        refine tJ 20 hS ?_
        refine rJ 12 fun K hK => ?_
        go_simp
        refine hK.out _ _ ?_ (fun hHeld => ?_)
        · exact hS
        clear hK K hHeld
        refine rJ 21 fun K hK => ?_
        refine step_call 43 #[.tmp 49, .tmp 57] _ rfl rfl #[.agg #[.int .i64 B1.box.x1, .int .i64 B1.box.y1, .int .i64 B1.box.x2, .int .i64 B1.box.y2], .agg #[.int .i64 Y.x1, .int .i64 Y.y1, .int .i64 Y.x2, .int .i64 Y.y2]] Try.call43 (by go_simp) (spec_l02Join_c B1.box Y _) ?_
        rintro en w2 ⟨rfl, b2⟩
        refine ⟨_, rfl, ?_⟩
        have h2 := h1.drew.below b2
        have on2 := on1.drew.trans (Only.of_below b2)
        have zc : ∀ j, w2.cell? ⟨bl, j, none⟩ = w1.cell? ⟨bl, j, none⟩ := fun j => b2.cell (p := ⟨bl, j, none⟩) hbl2
        have gne : gp ≠ gc := h1.ne
        have bne : bl ≠ gc := fun e => h1.dc (e ▸ hblF2)
        replace hS := (⟨h2.row.c0, h2.row.c1, (zc _).trans z1, (zc _).trans z2, (zc _).trans z3, (zc _).trans z4⟩ : w2.cell? ⟨gp, 0, none⟩ = some (.slice (some ⟨bl, ol, none⟩) xs.length cl) ∧ w2.cell? ⟨gp, 1, none⟩ = some (.slice (some ⟨gc, 0, none⟩) N N) ∧ w2.cell? ⟨bl, ol + i * 5 + 1, none⟩ = some (.int .i64 Y.x1) ∧ w2.cell? ⟨bl, ol + i * 5 + 2, none⟩ = some (.int .i64 Y.y1) ∧ w2.cell? ⟨bl, ol + i * 5 + 3, none⟩ = some (.int .i64 Y.x2) ∧ w2.cell? ⟨bl, ol + i * 5 + 4, none⟩ = some (.int .i64 Y.y2))
        refine bJ hK hS ?_
        clear hK K
        simp only [Act.put, pA, pB, pC]
        refine tJ 22 hS ?_
        refine tJ 23 hS ?_
        clear p0 p1 z1 z2 z3 z4 m0 m1 m2 m3 m4 m5 m6 m7 m8 m9
        obtain ⟨n0, n1, n2, n3, -⟩ := h2.cell hs
        have nF := h2.cells.frozen
        refine rJ 24 fun K hK => ?_
        simp only [boxV]
        go_simp
        refine hK.out _ _ ?_ (fun hHeld => ?_)
        · exact ⟨(cell_far4 gne _ _ _ _).trans hS.1, (cell_far4 gne _ _ _ _).trans hS.2.1, (cell_far4 bne _ _ _ _).trans hS.2.2.1, (cell_far4 bne _ _ _ _).trans hS.2.2.2.1, (cell_far4 bne _ _ _ _).trans hS.2.2.2.2.1, (cell_far4 bne _ _ _ _).trans hS.2.2.2.2.2⟩
        clear hK K hHeld hS n0 n1 n2 n3 nF zc b2
        have h3 := h2.putBox hs (joinB B1.box Y)
        have on3 := on2.box (gc := gc) (s := s * 10) (by simp) (joinB B1.box Y)
        generalize ((((w2.setCell ⟨gc, s * 10, none⟩ (.int .i64 (joinB B1.box Y).x1)).setCell ⟨gc, s * 10 + 1, none⟩ (.int .i64 (joinB B1.box Y).y1)).setCell ⟨gc, s * 10 + 2, none⟩ (.int .i64 (joinB B1.box Y).x2)).setCell ⟨gc, s * 10 + 3, none⟩ (.int .i64 (joinB B1.box Y).y2)) = w3 at h3 on3 ⊢
        refine wpAnyH_done (by kernel_rfl) ?_ _
        have p1 := h3.row.c1
        obtain ⟨-, -, -, -, -, -, -, n7, -⟩ := h3.cell hs
        have nF := h3.cells.frozen
        have kn := IntWalk.i64_in (((elems i s).length : Int) + 1) (by omega)
        have h4 := h3.put hs (j := 7) (by decide) (.int .i64 (i : Int)) (a := { B1 with box := joinB B1.box Y, sign := (i : Int) }) (by rw [updF_same]; rfl)
        rw [updF_upd] at h4
        have on4 := on3.set (p := ⟨gc, s * 10 + 7, none⟩) (by simp) (.int .i64 (i : Int))
        have H4 := Lib.hid h4
        have ON4 := Lib.hid on4
        clear h4 on4 h3 on3 h2 on2 h1 on1
        go_wp2_with fail
        go_roundw
        case rel => exact ⟨i + 1, by rw [HE.out]; simp, by go_num, by omega, Lib.hid (by rw [HF.out]; exact (by rw [if_pos HM.out, hsb.out, HYY.out]; have z := Z.out; have b := HB1.out; rw [HYY.out] at b; rw [← b, z] at H4; rw [joinB_self] at H4; exact H4.out)), ON4.out⟩
        case measure => simp [intOf]; omega
      · have y1 : (((elems i s).length : Int) == 0) = false := by simpa using hm
        have HM := Lib.hid hm
        clear hm
        have h1 := hh.out
        have on1 := on
        obtain ⟨B1, hB1⟩ : ∃ B1, B1 = B := ⟨_, rfl⟩
        subst hB1
        clear p0 p1 z1 z2 z3 z4 m0 m1 m2 m3 m4 m5 m6 m7 m8 m9 mF
        obtain ⟨AL2, cl2, hvl2, _, _, hsy⟩ := pSymbols_open h1.syms
        rw [Value.slice.injEq] at hvl2
        obtain ⟨hvl2, -, hvl3⟩ := hvl2
        subst hvl3
        obtain ⟨bl2, ol2, hAL2, hbl2, hblF2, -, z1, z2, z3, z4, _⟩ := hsy i hlt
        rw [hAL2] at hvl2
        injection hvl2 with hvl2
        injection hvl2 with e1 e2 _
        subst e1
        subst e2
        have p0 := h1.row.c0
        have p1 := h1.row.c1
        obtain ⟨m0, m1, m2, m3, m4, m5, m6, m7, m8, m9⟩ := h1.cell hs
        rw [updF_same] at m0 m1 m2 m3 m4 m5 m6 m7 m8 m9
        obtain ⟨Y, hY⟩ : ∃ Y, boxOf xs[i] = Y := ⟨_, rfl⟩
        have ex1 : xs[i].x1 = Y.x1 := by rw [← hY]; rfl
        have ex2 : xs[i].y1 = Y.y1 := by rw [← hY]; rfl
        have ex3 : xs[i].x2 = Y.x2 := by rw [← hY]; rfl
        have ex4 : xs[i].y2 = Y.y2 := by rw [← hY]; rfl
        rw [ex1] at z1
        rw [ex2] at z2
        rw [ex3] at z3
        rw [ex4] at z4
        have HYY := Lib.hid hY
        clear hsy hAL2 ex1 ex2 ex3 ex4 hY
        go_upto_region 7 with fail
        have hS : (fun w' : World => w'.cell? ⟨gp, 0, none⟩ = some (.slice (some ⟨bl, ol, none⟩) xs.length cl) ∧ w'.cell? ⟨gp, 1, none⟩ = some (.slice (some ⟨gc, 0, none⟩) N N) ∧ w'.cell? ⟨bl, ol + i * 5 + 1, none⟩ = some (.int .i64 Y.x1) ∧ w'.cell? ⟨bl, ol + i * 5 + 2, none⟩ = some (.int .i64 Y.y1) ∧ w'.cell? ⟨bl, ol + i * 5 + 3, none⟩ = some (.int .i64 Y.x2) ∧ w'.cell? ⟨bl, ol + i * 5 + 4, none⟩ = some (.int .i64 Y.y2)) wr.drew := ⟨p0, p1, z1, z2, z3, z4⟩
        dsimp only at hS
        refine wp_region_held_drew (S := (fun w' : World => w'.cell? ⟨gp, 0, none⟩ = some (.slice (some ⟨bl, ol, none⟩) xs.length cl) ∧ w'.cell? ⟨gp, 1, none⟩ = some (.slice (some ⟨gc, 0, none⟩) N N) ∧ w'.cell? ⟨bl, ol + i * 5 + 1, none⟩ = some (.int .i64 Y.x1) ∧ w'.cell? ⟨bl, ol + i * 5 + 2, none⟩ = some (.int .i64 Y.y1) ∧ w'.cell? ⟨bl, ol + i * 5 + 3, none⟩ = some (.int .i64 Y.x2) ∧ w'.cell? ⟨bl, ol + i * 5 + 4, none⟩ = some (.int .i64 Y.y2))) (by kernel_rfl) hS (fun _ => ?_)
        refine tJ 0 hS ?_
        refine tJ 1 hS ?_
        refine tJ 2 hS ?_
        refine tJ 3 hS ?_
        refine tJ 4 hS ?_
        refine tJ 5 hS ?_
        refine tJ 6 hS ?_
        refine tJ 7 hS ?_
        refine tJ 8 hS ?_
        refine tJ 9 hS ?_
        refine tJ 10 hS ?_
        refine tJ 11 hS ?_
        refine tJ 13 hS ?_
        refine tJ 14 hS ?_
        refine tJ 15 hS ?_
        refine tJ 16 hS ?_
        refine tJ 17 hS ?_
        refine tJ 18 hS ?_
        refine tJ 19 hS ?_
        refine tJ 20 hS ?_
        refine rJ 12 fun K hK => ?_
        go_simp
        refine hK.out _ _ ?_ (fun hHeld => ?_)
        · exact hS
        clear hK K hHeld
        refine rJ 21 fun K hK => ?_
        refine step_call 43 #[.tmp 49, .tmp 57] _ rfl rfl #[.agg #[.int .i64 B1.box.x1, .int .i64 B1.box.y1, .int .i64 B1.box.x2, .int .i64 B1.box.y2], .agg #[.int .i64 Y.x1, .int .i64 Y.y1, .int .i64 Y.x2, .int .i64 Y.y2]] Try.call43 (by go_simp) (spec_l02Join_c B1.box Y _) ?_
        rintro en w2 ⟨rfl, b2⟩
        refine ⟨_, rfl, ?_⟩
        have h2 := h1.drew.below b2
        have on2 := on1.drew.trans (Only.of_below b2)
        have zc : ∀ j, w2.cell? ⟨bl, j, none⟩ = wr.cell? ⟨bl, j, none⟩ := fun j => b2.cell (p := ⟨bl, j, none⟩) hbl2
        have gne : gp ≠ gc := h1.ne
        have bne : bl ≠ gc := fun e => h1.dc (e ▸ hblF2)
        replace hS := (⟨h2.row.c0, h2.row.c1, (zc _).trans z1, (zc _).trans z2, (zc _).trans z3, (zc _).trans z4⟩ : w2.cell? ⟨gp, 0, none⟩ = some (.slice (some ⟨bl, ol, none⟩) xs.length cl) ∧ w2.cell? ⟨gp, 1, none⟩ = some (.slice (some ⟨gc, 0, none⟩) N N) ∧ w2.cell? ⟨bl, ol + i * 5 + 1, none⟩ = some (.int .i64 Y.x1) ∧ w2.cell? ⟨bl, ol + i * 5 + 2, none⟩ = some (.int .i64 Y.y1) ∧ w2.cell? ⟨bl, ol + i * 5 + 3, none⟩ = some (.int .i64 Y.x2) ∧ w2.cell? ⟨bl, ol + i * 5 + 4, none⟩ = some (.int .i64 Y.y2))
        refine bJ hK hS ?_
        clear hK K
        simp only [Act.put, pA, pB, pC]
        refine tJ 22 hS ?_
        refine tJ 23 hS ?_
        clear p0 p1 z1 z2 z3 z4 m0 m1 m2 m3 m4 m5 m6 m7 m8 m9
        obtain ⟨n0, n1, n2, n3, -⟩ := h2.cell hs
        have nF := h2.cells.frozen
        refine rJ 24 fun K hK => ?_
        simp only [boxV]
        go_simp
        refine hK.out _ _ ?_ (fun hHeld => ?_)
        · exact ⟨(cell_far4 gne _ _ _ _).trans hS.1, (cell_far4 gne _ _ _ _).trans hS.2.1, (cell_far4 bne _ _ _ _).trans hS.2.2.1, (cell_far4 bne _ _ _ _).trans hS.2.2.2.1, (cell_far4 bne _ _ _ _).trans hS.2.2.2.2.1, (cell_far4 bne _ _ _ _).trans hS.2.2.2.2.2⟩
        clear hK K hHeld hS n0 n1 n2 n3 nF zc b2
        have h3 := h2.putBox hs (joinB B1.box Y)
        have on3 := on2.box (gc := gc) (s := s * 10) (by simp) (joinB B1.box Y)
        generalize ((((w2.setCell ⟨gc, s * 10, none⟩ (.int .i64 (joinB B1.box Y).x1)).setCell ⟨gc, s * 10 + 1, none⟩ (.int .i64 (joinB B1.box Y).y1)).setCell ⟨gc, s * 10 + 2, none⟩ (.int .i64 (joinB B1.box Y).x2)).setCell ⟨gc, s * 10 + 3, none⟩ (.int .i64 (joinB B1.box Y).y2)) = w3 at h3 on3 ⊢
        refine wpAnyH_done (by kernel_rfl) ?_ _
        have p1 := h3.row.c1
        obtain ⟨-, -, -, -, -, -, -, n7, -⟩ := h3.cell hs
        have nF := h3.cells.frozen
        have kn := IntWalk.i64_in (((elems i s).length : Int) + 1) (by omega)
        have h4 := h3.put hs (j := 7) (by decide) (.int .i64 (i : Int)) (a := { B1 with box := joinB B1.box Y, sign := (i : Int) }) (by rw [updF_same]; rfl)
        rw [updF_upd] at h4
        have on4 := on3.set (p := ⟨gc, s * 10 + 7, none⟩) (by simp) (.int .i64 (i : Int))
        have H4 := Lib.hid h4
        have ON4 := Lib.hid on4
        clear h4 on4 h3 on3 h2 on2 h1 on1
        go_wp2_with fail
        go_roundw
        case rel => exact ⟨i + 1, by rw [HE.out]; simp, by go_num, by omega, Lib.hid (by rw [HF.out]; exact (by rw [if_neg HM.out, hsb.out, HYY.out]; have z := Z.out; rw [z] at H4; exact H4.out)), ON4.out⟩
        case measure => simp [intOf]; omega
  · obtain rfl : i = xs.length := by omega
    have g1 : ¬ ((xs.length : Int) < (xs.length : Int)) := by omega
    by_cases h1 : s = 2 ^ s.log2
    · have hel := elems_one HS.out h1
      have hl1 : ((elems xs.length s).length : Int) = 1 := by rw [hel]; rfl
      have hC : Hid (fillC xs s xs.length = ⟨boxS xs s, 0, 0, 0, (s.log2 : Int), 0, 0⟩) := Lib.hid (by unfold fillC boxS; rw [hel, if_neg (by simp)]; rfl)
      have hA := Lib.hid (cellAt_single xs HS.out h1)
      have h2 := hh.out.put hs (j := 1 + 3) (by decide) (.int .i64 1) (a := { fillC xs s xs.length with ways := 1 }) (by rw [updF_same]; rfl)
      rw [updF_upd] at h2
      have on2 := on.set (p := ⟨gc, s * 10 + 4, none⟩) (by simp) (.int .i64 1)
      have H2 := Lib.hid h2
      have ON2 := Lib.hid on2
      obtain ⟨-, -, -, -, m4, -⟩ := hh.out.cell hs
      have mF := hh.out.cells.frozen
      have i5 : (0 : Int) ≤ (s : Int) := by omega
      have i6 : (s : Int) < (N : Int) := by omega
      clear h1 hel h2 on2
      go_wp2_with fail
      refine bodyPost_ret (v := .tuple #[]) (by simp [results, Try.results53, go_sem]) rfl ⟨rfl, ON2.out, _, H2.out, ?_, ?_⟩
      · rw [hC.out, hA.out]
        exact ⟨rfl, fun _ => ⟨rfl, rfl, rfl, rfl, rfl⟩⟩
      · rw [hC.out]
    · have hl2 := elems_two HS.out H0.out h1
      have hl1 : (((elems xs.length s).length : Int) == 1) = false := by simp only [beq_eq_false_iff_ne]; omega
      have hC : (fillC xs s xs.length).box = boxS xs s ∧ (fillC xs s xs.length).ways = 0 := by unfold fillC boxS; rw [if_neg (by omega)]; exact ⟨rfl, rfl⟩
      have hw := ways_small G.out.few H0.out HS.out
      have hA := cellAt_fold HS.out h1
      rw [hA] at hw
      unfold optsF at hw hA
      simp only [List.foldl_append] at hw hA
      have n1 := not_single h1
      have ho : ∀ kd : Int, kd = 1 ∨ kd = 3 ∨ kd = 4 → ∀ a ∈ subs s, IsOpt xs s ⟨kd, 0, a, s ^^^ a⟩ := fun kd hkd a ha => .inl ⟨hkd, rfl, ha, rfl⟩
      have hs0 : 0 < s := Nat.pos_of_ne_zero H0.out
      have up := fun (c : Nat → Cell) (R : List Opt) (m : Cell) => foldO_ways xs c R m
      have C1 := spec_csplit_c 1 0 s wr hh.out G.out hs H0.out h1 HK.out (m := cell0) ⟨by rw [hC.2]; rfl, fun h => absurd rfl h⟩ hC.1 hs0 hs (ho 1 (by omega)) (Nat.le_trans (Nat.le_trans (Nat.le_trans (Nat.le_trans (up _ _ _) (up _ _ _)) (up _ _ _)) (up _ _ _)) hw)
      generalize hm1 : (splitO 1 0 s).foldl (stepO xs (cellAt xs)) cell0 = m1 at C1 hw hA
      have C2 := fun w k h hm hb => spec_csigns2_c (e := e) (ob := ob) (xs := xs) (vl := .slice AL xs.length cl) (Fl := Fl) (gp := gp) (gc := gc) (K := K) (bx := boxS xs s) (m := m1) (k := k) w h G.out hs H0.out h1 HK.out hm hb (Nat.le_trans (Nat.le_trans (Nat.le_trans (up _ _ _) (up _ _ _)) (up _ _ _)) hw)
      generalize hm2 : (overO xs s).foldl (stepO xs (cellAt xs)) m1 = m2 at C2 hw hA
      have C3 := fun w k h hm hb => spec_csplit_c (e := e) (ob := ob) (xs := xs) (vl := .slice AL xs.length cl) (Fl := Fl) (gp := gp) (gc := gc) (K := K) (bx := boxS xs s) (m := m2) (k := k) 3 0 s w h G.out hs H0.out h1 HK.out hm hb hs0 hs (ho 3 (by omega)) (Nat.le_trans (Nat.le_trans (up _ _ _) (up _ _ _)) hw)
      generalize hm3 : (splitO 3 0 s).foldl (stepO xs (cellAt xs)) m2 = m3 at C3 hw hA
      have C4 := fun w k h hm hb => spec_csplit_c (e := e) (ob := ob) (xs := xs) (vl := .slice AL xs.length cl) (Fl := Fl) (gp := gp) (gc := gc) (K := K) (bx := boxS xs s) (m := m3) (k := k) 4 0 s w h G.out hs H0.out h1 HK.out hm hb hs0 hs (ho 4 (by omega)) (Nat.le_trans (up _ _ _) hw)
      generalize hm4 : (splitO 4 0 s).foldl (stepO xs (cellAt xs)) m3 = m4 at C4 hw hA
      have C5 := fun w k h hm hb => spec_csigns5_c (e := e) (ob := ob) (xs := xs) (vl := .slice AL xs.length cl) (Fl := Fl) (gp := gp) (gc := gc) (K := K) (bx := boxS xs s) (m := m4) (k := k) w h G.out hs H0.out h1 HK.out hm hb hw
      rw [← hA] at C5
      have D1 := Lib.hid C1
      have D2 := Lib.hid C2
      have D3 := Lib.hid C3
      have D4 := Lib.hid C4
      have D5 := Lib.hid C5
      clear C1 C2 C3 C4 C5 hm1 hm2 hm3 hm4 hA hw up ho h1 hC hl2
      go_wp2_with fail
      refine D1.out.mono ?_
      rintro en w2 ⟨rfl, on2, k2, hc2, hi2, hb2⟩
      have E := Lib.hid (D2.out w2 k2 hc2 hi2 hb2)
      replace on2 := on.trans on2
      clear hc2 hi2 hb2
      go_wp2_with fail
      refine E.out.mono ?_
      clear E
      rintro en w3 ⟨rfl, on3, k3, hc3, hi3, hb3⟩
      have E := Lib.hid (D3.out w3 k3 hc3 hi3 hb3)
      replace on3 := on2.trans on3
      clear hc3 hi3 hb3
      go_wp2_with fail
      refine E.out.mono ?_
      clear E
      rintro en w4 ⟨rfl, on4, k4, hc4, hi4, hb4⟩
      have E := Lib.hid (D4.out w4 k4 hc4 hi4 hb4)
      replace on4 := on3.trans on4
      clear hc4 hi4 hb4
      go_wp2_with fail
      refine E.out.mono ?_
      clear E
      rintro en w5 ⟨rfl, on5, k5, hc5, hi5, hb5⟩
      have E := Lib.hid (D5.out w5 k5 hc5 hi5 hb5)
      replace on5 := on4.trans on5
      clear hc5 hi5 hb5
      go_wp2_with fail
      refine E.out.mono ?_
      clear E
      rintro en w6 ⟨rfl, on6, k6, hc6, hi6, hb6⟩
      replace on6 := on5.trans on6
      have X := Lib.hid (show Cht e ob xs (.slice AL xs.length cl) Fl gp gc N (updF K s k6) w6 ∧ RcIs k6 (cellAt xs s) ∧ k6.box = boxS xs s from ⟨hc6, hi6, hb6⟩)
      clear hc6 hi6 hb6
      go_wp2_with fail
      refine bodyPost_end (v := .tuple #[]) (by simp [results, Try.results53, go_sem]) rfl ⟨rfl, on6, k6, X.out⟩
def icBox (c : RC) : List Value := [.int .i64 c.box.x1, .int .i64 c.box.y1, .int .i64 c.box.x2, .int .i64 c.box.y2]
def icBest (c : RC) : List Value := [.int .i64 c.kind, .int .i64 c.sign, .int .i64 c.first, .int .i64 c.rest, .int .i64 c.cost]
def icN (c : RC) : List Value := [.int .i64 c.ways]
theorem icBox_len (c : RC) : (icBox c).length = 4 := rfl
theorem icBest_len (c : RC) : (icBest c).length = 5 := rfl
theorem icN_len (c : RC) : (icN c).length = 1 := rfl
theorem rowF_same {α : Type} {enc : α → List Value} (K : Nat → α) (s : Nat) {a : α} (h : enc a = enc (K s)) (n : Nat) : rowF enc (updF K s a) n = rowF enc K n := by
 induction n with
 | zero => rfl
 | succ n ih =>
   rw [rowF, rowF, ih]
   by_cases e : n = s
   · subst e; rw [updF_same, h]
   · rw [updF_other K a e]
structure Prs (e : TypeId) (o : Bool) (xs : List PSymbol) (vl : Value) (Fl : List Nat) (gp gb gt gn N : Nat) (K : Nat → RC) (w : World) : Prop where
 row : Row w gp 61 [vl, .slice (some ⟨gb, 0, none⟩) N N, .slice (some ⟨gt, 0, none⟩) N N, .slice (some ⟨gn, 0, none⟩) N N]
 syms : (pSymbols e).rep o w xs [vl] Fl
 boxes : Row w gb 48 (rowF icBox K N)
 best : Row w gt 65 (rowF icBest K N)
 count : Row w gn 2 (rowF icN K N)
 nd : [gp, gb, gt, gn].Nodup
 dis : ∀ b ∈ Fl, b ∉ [gp, gb, gt, gn]
section
variable {e : TypeId} {o : Bool} {xs : List PSymbol} {vl : Value} {Fl : List Nat} {gp gb gt gn N : Nat} {K : Nat → RC} {w w' : World}
theorem Prs.ne (h : Prs e o xs vl Fl gp gb gt gn N K w) : gp ≠ gb ∧ gp ≠ gt ∧ gp ≠ gn ∧ gb ≠ gt ∧ gb ≠ gn ∧ gt ≠ gn := by
 have := h.nd
 simp only [List.nodup_cons, List.mem_cons, List.not_mem_nil, or_false, not_or] at this
 exact ⟨this.1.1, this.1.2.1, this.1.2.2, this.2.1.1, this.2.1.2, this.2.2.1⟩
theorem Prs.alloc (h : Prs e o xs vl Fl gp gb gt gn N K w) (x : Obj) : Prs e o xs vl Fl gp gb gt gn N K (w.alloc x) := ⟨h.row.alloc x, h.syms.alloc x, h.boxes.alloc x, h.best.alloc x, h.count.alloc x, h.nd, h.dis⟩
theorem Prs.drew (h : Prs e o xs vl Fl gp gb gt gn N K w) : Prs e o xs vl Fl gp gb gt gn N K w.drew := ⟨h.row.drew, h.syms.drew, h.boxes.drew, h.best.drew, h.count.drew, h.nd, h.dis⟩
theorem Prs.drewN (h : Prs e o xs vl Fl gp gb gt gn N K w) (n : Nat) : Prs e o xs vl Fl gp gb gt gn N K (w.drewN n) := ⟨h.row.drewN n, h.syms.drewN n, h.boxes.drewN n, h.best.drewN n, h.count.drewN n, h.nd, h.dis⟩
theorem Prs.below (h : Prs e o xs vl Fl gp gb gt gn N K w) (b : Below w.heap.size w w') : Prs e o xs vl Fl gp gb gt gn N K w' := ⟨h.row.later b, h.syms.below b, h.boxes.later b, h.best.later b, h.count.later b, h.nd, h.dis⟩
theorem Prs.far (h : Prs e o xs vl Fl gp gb gt gn N K w) {p : Addr} (hp : p.block ∉ [gp, gb, gt, gn]) (hl : p.block ∉ Fl) (u : Value) : Prs e o xs vl Fl gp gb gt gn N K (w.setCell p u) := by
 simp only [List.mem_cons, List.not_mem_nil, or_false, not_or] at hp
 exact ⟨h.row.far (Ne.symm hp.1) u, h.syms.setCell hl u, h.boxes.far (Ne.symm hp.2.1) u, h.best.far (Ne.symm hp.2.2.1) u, h.count.far (Ne.symm hp.2.2.2) u, h.nd, h.dis⟩
theorem Prs.boxCell (h : Prs e o xs vl Fl gp gb gt gn N K w) {s : Nat} (hs : s < N) :
 w.cell? ⟨gb, s * 4, none⟩ = some (.int .i64 (K s).box.x1) ∧ w.cell? ⟨gb, s * 4 + 1, none⟩ = some (.int .i64 (K s).box.y1) ∧ w.cell? ⟨gb, s * 4 + 2, none⟩ = some (.int .i64 (K s).box.x2) ∧ w.cell? ⟨gb, s * 4 + 3, none⟩ = some (.int .i64 (K s).box.y2) :=
 ⟨RowF.cell icBox_len h.boxes hs (j := 0) (by decide) rfl, RowF.cell icBox_len h.boxes hs (j := 1) (by decide) rfl, RowF.cell icBox_len h.boxes hs (j := 2) (by decide) rfl, RowF.cell icBox_len h.boxes hs (j := 3) (by decide) rfl⟩
theorem Prs.bestCell (h : Prs e o xs vl Fl gp gb gt gn N K w) {s : Nat} (hs : s < N) :
 w.cell? ⟨gt, s * 5, none⟩ = some (.int .i64 (K s).kind) ∧ w.cell? ⟨gt, s * 5 + 1, none⟩ = some (.int .i64 (K s).sign) ∧ w.cell? ⟨gt, s * 5 + 2, none⟩ = some (.int .i64 (K s).first) ∧ w.cell? ⟨gt, s * 5 + 3, none⟩ = some (.int .i64 (K s).rest) ∧ w.cell? ⟨gt, s * 5 + 4, none⟩ = some (.int .i64 (K s).cost) :=
 ⟨RowF.cell icBest_len h.best hs (j := 0) (by decide) rfl, RowF.cell icBest_len h.best hs (j := 1) (by decide) rfl, RowF.cell icBest_len h.best hs (j := 2) (by decide) rfl, RowF.cell icBest_len h.best hs (j := 3) (by decide) rfl, RowF.cell icBest_len h.best hs (j := 4) (by decide) rfl⟩
theorem Prs.nCell (h : Prs e o xs vl Fl gp gb gt gn N K w) {s : Nat} (hs : s < N) : w.cell? ⟨gn, s, none⟩ = some (.int .i64 (K s).ways) := by
 have := RowF.cell icN_len h.count hs (j := 0) (by decide) (u := .int .i64 (K s).ways) rfl
 rwa [Nat.mul_one, Nat.add_zero] at this
theorem Prs.putN (h : Prs e o xs vl Fl gp gb gt gn N K w) {s : Nat} (hs : s < N) (n : Int) : Prs e o xs vl Fl gp gb gt gn N (updF K s { K s with ways := n }) (w.setCell ⟨gn, s, none⟩ (.int .i64 n)) := by
 obtain ⟨_, _, n1, _, n2, n3⟩ := h.ne
 have hc := RowF.set icN_len h.count hs (j := 0) (by decide) (.int .i64 n) (a := { K s with ways := n }) rfl
 rw [Nat.mul_one, Nat.add_zero] at hc
 refine ⟨h.row.far (p := ⟨gn, s, none⟩) n1 _, h.syms.setCell (p := ⟨gn, s, none⟩) (fun hb => h.dis _ hb (by simp)) _, ?_, ?_, hc, h.nd, h.dis⟩
 · rw [rowF_same K s (by rfl)]; exact h.boxes.far (p := ⟨gn, s, none⟩) n2 _
 · rw [rowF_same K s (by rfl)]; exact h.best.far (p := ⟨gn, s, none⟩) n3 _
theorem Prs.putBest (h : Prs e o xs vl Fl gp gb gt gn N K w) {s : Nat} (hs : s < N) (k g a b c : Int) : Prs e o xs vl Fl gp gb gt gn N (updF K s { K s with kind := k, sign := g, first := a, rest := b, cost := c })
 (((((w.setCell ⟨gt, s * 5, none⟩ (.int .i64 k)).setCell ⟨gt, s * 5 + 1, none⟩ (.int .i64 g)).setCell ⟨gt, s * 5 + 2, none⟩ (.int .i64 a)).setCell ⟨gt, s * 5 + 3, none⟩ (.int .i64 b)).setCell ⟨gt, s * 5 + 4, none⟩ (.int .i64 c)) := by
 obtain ⟨_, n1, _, n2, _, n3⟩ := h.ne
 have q0 := RowF.set icBest_len h.best hs (j := 0) (by decide) (.int .i64 k) (a := { K s with kind := k }) rfl
 have q1 := RowF.set icBest_len q0 hs (j := 1) (by decide) (.int .i64 g) (a := { K s with kind := k, sign := g }) (by rw [updF_same]; rfl)
 have q2 := RowF.set icBest_len q1 hs (j := 2) (by decide) (.int .i64 a) (a := { K s with kind := k, sign := g, first := a }) (by rw [updF_same]; rfl)
 have q3 := RowF.set icBest_len q2 hs (j := 3) (by decide) (.int .i64 b) (a := { K s with kind := k, sign := g, first := a, rest := b }) (by rw [updF_same]; rfl)
 have q4 := RowF.set icBest_len q3 hs (j := 4) (by decide) (.int .i64 c) (a := { K s with kind := k, sign := g, first := a, rest := b, cost := c }) (by rw [updF_same]; rfl)
 rw [updF_upd, updF_upd, updF_upd, updF_upd] at q4
 have fd : gt ∉ Fl := fun hb => h.dis _ hb (by simp)
 refine ⟨((((h.row.far (p := ⟨gt, _, none⟩) n1 _).far (p := ⟨gt, _, none⟩) n1 _).far (p := ⟨gt, _, none⟩) n1 _).far (p := ⟨gt, _, none⟩) n1 _).far (p := ⟨gt, _, none⟩) n1 _, ((((h.syms.setCell (p := ⟨gt, _, none⟩) fd _).setCell (p := ⟨gt, _, none⟩) fd _).setCell (p := ⟨gt, _, none⟩) fd _).setCell (p := ⟨gt, _, none⟩) fd _).setCell (p := ⟨gt, _, none⟩) fd _, ?_, q4, ?_, h.nd, h.dis⟩
 · rw [rowF_same K s (by rfl)]
   exact ((((h.boxes.far (p := ⟨gt, _, none⟩) n2 _).far (p := ⟨gt, _, none⟩) n2 _).far (p := ⟨gt, _, none⟩) n2 _).far (p := ⟨gt, _, none⟩) n2 _).far (p := ⟨gt, _, none⟩) n2 _
 · rw [rowF_same K s (by rfl)]
   exact ((((h.count.far (p := ⟨gt, _, none⟩) (Ne.symm n3) _).far (p := ⟨gt, _, none⟩) (Ne.symm n3) _).far (p := ⟨gt, _, none⟩) (Ne.symm n3) _).far (p := ⟨gt, _, none⟩) (Ne.symm n3) _).far (p := ⟨gt, _, none⟩) (Ne.symm n3) _
theorem Prs.putBox (h : Prs e o xs vl Fl gp gb gt gn N K w) {s : Nat} (hs : s < N) (X : PBox) : Prs e o xs vl Fl gp gb gt gn N (updF K s { K s with box := X })
 ((((w.setCell ⟨gb, s * 4, none⟩ (.int .i64 X.x1)).setCell ⟨gb, s * 4 + 1, none⟩ (.int .i64 X.y1)).setCell ⟨gb, s * 4 + 2, none⟩ (.int .i64 X.x2)).setCell ⟨gb, s * 4 + 3, none⟩ (.int .i64 X.y2)) := by
 obtain ⟨n1, _, _, n2, n3, _⟩ := h.ne
 have q0 := RowF.set icBox_len h.boxes hs (j := 0) (by decide) (.int .i64 X.x1) (a := { K s with box := { (K s).box with x1 := X.x1 } }) rfl
 have q1 := RowF.set icBox_len q0 hs (j := 1) (by decide) (.int .i64 X.y1) (a := { K s with box := { (K s).box with x1 := X.x1, y1 := X.y1 } }) (by rw [updF_same]; rfl)
 have q2 := RowF.set icBox_len q1 hs (j := 2) (by decide) (.int .i64 X.x2) (a := { K s with box := { (K s).box with x1 := X.x1, y1 := X.y1, x2 := X.x2 } }) (by rw [updF_same]; rfl)
 have q3 := RowF.set icBox_len q2 hs (j := 3) (by decide) (.int .i64 X.y2) (a := { K s with box := X }) (by rw [updF_same]; rfl)
 rw [updF_upd, updF_upd, updF_upd] at q3
 have fd : gb ∉ Fl := fun hb => h.dis _ hb (by simp)
 refine ⟨(((h.row.far (p := ⟨gb, _, none⟩) n1 _).far (p := ⟨gb, _, none⟩) n1 _).far (p := ⟨gb, _, none⟩) n1 _).far (p := ⟨gb, _, none⟩) n1 _, (((h.syms.setCell (p := ⟨gb, _, none⟩) fd _).setCell (p := ⟨gb, _, none⟩) fd _).setCell (p := ⟨gb, _, none⟩) fd _).setCell (p := ⟨gb, _, none⟩) fd _, q3, ?_, ?_, h.nd, h.dis⟩
 · rw [rowF_same K s (by rfl)]
   exact (((h.best.far (p := ⟨gb, _, none⟩) (Ne.symm n2) _).far (p := ⟨gb, _, none⟩) (Ne.symm n2) _).far (p := ⟨gb, _, none⟩) (Ne.symm n2) _).far (p := ⟨gb, _, none⟩) (Ne.symm n2) _
 · rw [rowF_same K s (by rfl)]
   exact (((h.count.far (p := ⟨gb, _, none⟩) (Ne.symm n3) _).far (p := ⟨gb, _, none⟩) (Ne.symm n3) _).far (p := ⟨gb, _, none⟩) (Ne.symm n3) _).far (p := ⟨gb, _, none⟩) (Ne.symm n3) _
end
def tryI (A B M : RC) (kind sign first rest : Int) (SB : PBox) : RC :=
 if waysR A B rest = 0 ∨ fitsF kind A.box (if rest = 0 then A.box else B.box) SB = false then M
 else if M.ways = 0 ∨ ordC kind sign first (A.cost + (if rest = 0 then 0 else B.cost) + ownF kind A.box (if rest = 0 then A.box else B.box) SB) M.kind M.sign M.first M.cost < 0 then ⟨M.box, M.ways + waysR A B rest, A.cost + (if rest = 0 then 0 else B.cost) + ownF kind A.box (if rest = 0 then A.box else B.box) SB, kind, sign, first, rest⟩
 else { M with ways := M.ways + waysR A B rest }
end Go.Proofs.Ytmopioaojdlnkaa

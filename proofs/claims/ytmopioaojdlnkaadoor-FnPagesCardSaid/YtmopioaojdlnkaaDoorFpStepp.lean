/- A step of a page that a law draws. Conditions: none. -/
import Derived.Test.YtmopioaojdlnkaaDoorFpWordsp
import Derived.Test.YtmopioaojdlnkaaDoorTyLinep
namespace Go.Proofs.YtmopioaojdlnkaaDoor
open Go Go.RowKit
theorem row_oF {w w' : World} {g x : Nat} {e : TypeId} {cs : List Value} (R : Row w x e cs) (b : Only [g] w w') (h : x ≠ g) : Row w' x e cs := (b.block x R.lt (by simp [h])).trans R
theorem only_newF {F : List Nat} {a b : World} (h : Only F a b) {p : Addr} (hp : a.heap.size ≤ p.block) (u : Value) : Only F a (b.setCell p u) :=
 ⟨h.os, h.tape, h.output, by simpa [World.setCell] using h.size, fun k hk hn => (Below.heap_setCell b p u k (fun e => by omega)).trans (h.block k hk hn)⟩
theorem only_allocF {F : List Nat} {a b : World} (h : Only F a b) (x : Obj) : Only F a (b.alloc x) := h.trans (Only.of_below ((Below.refl _ _).alloc (Nat.le_refl _) _))
theorem src_farF {B g m : Nat} {code : List UInt8} {w : World} (h : SrcIs B g code m w) {p : Addr} (hp : B ≤ p.block) (u : Value) : SrcIs B g code m (w.setCell p u) :=
 h.only (G := [p.block]) ((Only.refl _ _).set (by simp) u) (by simpa using hp)
theorem src_allocF {B g m : Nat} {code : List UInt8} {w : World} (h : SrcIs B g code m w) (x : Obj) : SrcIs B g code m (w.alloc x) := h.below ((Below.refl _ _).alloc (Nat.le_refl _) x)
def set5 (w : World) (b : Nat) (u0 u1 u2 u3 u4 : Value) : World := ((((w.setCell ⟨b, 0, none⟩ u0).setCell ⟨b, 1, none⟩ u1).setCell ⟨b, 2, none⟩ u2).setCell ⟨b, 3, none⟩ u3).setCell ⟨b, 4, none⟩ u4
section
variable {w a : World} {b g : Nat} {e : TypeId} {cs : List Value} {F : List Nat} {u0 u1 u2 u3 u4 : Value}
theorem row_set5 (R : Row w b e cs) (h : cs.length = 5) : Row (set5 w b u0 u1 u2 u3 u4) b e [u0, u1, u2, u3, u4] := by
 have q := ((((R.set 0 u0).set 1 u1).set 2 u2).set 3 u3).set 4 u4
 match cs, h with
 | [_, _, _, _, _], _ => exact q
theorem row_far1 {t i : Nat} {u : Value} (R : Row w g e cs) (h : g ≠ t) : Row (w.setCell ⟨t, i, none⟩ u) g e cs := (Below.heap_setCell w ⟨t, i, none⟩ u g h).trans R
theorem row_far5 {t : Nat} (R : Row w g e cs) (h : g ≠ t) : Row (set5 w t u0 u1 u2 u3 u4) g e cs := row_far1 (row_far1 (row_far1 (row_far1 (row_far1 R h) h) h) h) h
theorem src_far5 {B m : Nat} {code : List UInt8} (S : SrcIs B g code m w) (h : B ≤ b) : SrcIs B g code m (set5 w b u0 u1 u2 u3 u4) := src_farF (src_farF (src_farF (src_farF (src_farF S h _) h _) h _) h _) h _
theorem only_new5 (h : Only F a w) (hp : a.heap.size ≤ b) : Only F a (set5 w b u0 u1 u2 u3 u4) := only_newF (only_newF (only_newF (only_newF (only_newF h hp _) hp _) hp _) hp _) hp _
end
theorem word_size {s : ByteArray} (h : isWordB s = true) : s.size ≤ 10 := by
 simp only [isWordB, Bool.and_eq_true, decide_eq_true_eq] at h; exact h.2.2
def StepShort (s : PStep) : Prop := pStepOk s ∧ s.word.size ≤ 10 ∧ s.old.size ≤ 10
set_option maxRecDepth 100000 in
set_option maxHeartbeats 4000000 in
theorem spec_l27Step_c {B g m : Nat} {code : List UInt8} {o : Bool} {el : TypeId} {ls : List PLine} {v : Value} {F : List Nat} (w : World) (S : SrcIs B g code m w) (hm : m ≤ 900000) (hB : B ≤ w.heap.size) (h : (pLines el).rep o w ls [v] F) (hF : g ∉ F) (hok : LinesOk ls) :
 Calls Tryd.prog 16 #[.pointer (some ⟨g, 0, none⟩), v] w fun e w' => (∃ s : PStep, StepShort s ∧ e = .returned (.agg #[.int .i64 s.kind, .int .i64 s.line, .int .i64 s.pos, .string s.word, .string s.old])) ∧ SrcIs B g code (m + 8) w' ∧ Only [g] w w' := by
 have hfew := hok.few
 have hone := hok.one
 have hgw := S.lt
 have H1 := Lib.hid (src_pick_c (w.alloc (.cells #[.int .i64 0, .int .i64 0, .int .i64 0, .string .empty, .string .empty] 30)) (src_allocF S _) (by omega) (ls.length : Int) (by omega))
 have RO := Row.new w 30 #[.int .i64 0, .int .i64 0, .int .i64 0, .string .empty, .string .empty]
 have REP := Lib.hid (h.alloc (.cells #[.int .i64 0, .int .i64 0, .int .i64 0, .string .empty, .string .empty] 30))
 have O0 : Only [g] w (w.alloc (.cells #[.int .i64 0, .int .i64 0, .int .i64 0, .string .empty, .string .empty] 30)) := only_allocF (Only.refl _ _) _
 obtain ⟨A, c, rfl⟩ := slice_len h
 clear S h
 go_enter Tryd.func16, Tryd.ntmps16
 go_wp2_with fail
 refine H1.out.mono ?_
 rintro e w1 ⟨⟨r, r0, r1, rfl⟩, S, O⟩
 obtain ⟨k, rfl⟩ := Int.eq_ofNat_of_zero_le r0
 have hk : k < ls.length := by omega
 replace RO := row_oF RO O (by omega)
 replace REP := Lib.hid (REP.out.only O (fun b hb hin => by simp at hin; subst hin; exact hF hb))
 replace O0 := O0.trans O
 have hz1 := O0.size
 clear O
 obtain ⟨A', c', he, _, _, hr⟩ := pLines_open REP.out
 cases he
 obtain ⟨b, off, u, Fk, rfl, hbb, hbF, hrk, hFk, hcell⟩ := hr k hk
 obtain ⟨A2, c2, rfl⟩ := slice_len hrk
 have hn := hok.each _ (List.getElem_mem hk)
 have g1 : (k : Int) < (ls.length : Int) := by omega
 clear hr r1 H1 hrk
 go_wp2_with fail
 refine (spec_l16Words_c w1).mono ?_
 rintro e w2 ⟨rfl, rfl⟩
 have hg1 := S.lt
 have HT := Lib.hid (src_text_c _ (src_allocF S (.cells (lexWords.map Value.string).toArray 9)) (by omega) (lexWords_at w1) (by simp; omega) (by decide) (by decide))
 replace RO := RO.alloc (.cells (lexWords.map Value.string).toArray 9)
 replace REP := Lib.hid (REP.out.alloc (.cells (lexWords.map Value.string).toArray 9))
 replace O0 := only_allocF O0 (.cells (lexWords.map Value.string).toArray 9)
 clear S
 go_wp2_with fail
 refine HT.out.mono ?_
 rintro e w3 ⟨⟨t, ht, rfl⟩, S, O⟩
 have htz := lexWords_small t ht
 replace RO := row_oF RO O (by omega)
 replace REP := Lib.hid (REP.out.only O (fun b hb hin => by simp at hin; subst hin; exact hF hb))
 replace O0 := O0.trans O
 have hz3 := O0.size
 clear O
 have H3 := Lib.hid (src_pick_c w3 S (by omega) ((ls[k].length : Int) + 1) (by omega))
 clear S HT
 have kn1 := IntWalk.i64_in ((ls[k].length : Int) + 1) (by omega)
 go_wp2_with fail
 refine H3.out.mono ?_
 rintro e w4 ⟨⟨r2, q0, q1, rfl⟩, S, O⟩
 replace RO := row_oF RO O (by omega)
 replace REP := Lib.hid (REP.out.only O (fun b hb hin => by simp at hin; subst hin; exact hF hb))
 replace O0 := O0.trans O
 have hz4 := O0.size
 clear O
 have q2 : r2 ≤ (ls[k].length : Int) := by omega
 have hw0 : w.heap.size < w4.heap.size := RO.lt
 have R8 := Row.new w4 30 #[.int .i64 1, .int .i64 k, .int .i64 r2, .string t, .string ⟨#[]⟩]
 replace RO := RO.alloc (.cells #[.int .i64 1, .int .i64 k, .int .i64 r2, .string t, .string ⟨#[]⟩] 30)
 replace REP := Lib.hid (REP.out.alloc (.cells #[.int .i64 1, .int .i64 k, .int .i64 r2, .string t, .string ⟨#[]⟩] 30))
 replace O0 := only_allocF O0 (.cells #[.int .i64 1, .int .i64 k, .int .i64 r2, .string t, .string ⟨#[]⟩] 30)
 have H4 := Lib.hid (src_pick_c _ (src_allocF S (.cells #[.int .i64 1, .int .i64 k, .int .i64 r2, .string t, .string ⟨#[]⟩] 30)) (by omega) 8 (by omega))
 clear S H3
 go_wp2_with fail
 refine H4.out.mono ?_
 rintro e w5 ⟨⟨r3, t0, t1, rfl⟩, S, O⟩
 have hgw4 : g < w4.heap.size := by omega
 have hne : w.heap.size ≠ w4.heap.size := by omega
 have hBw : w.heap.size ≤ w4.heap.size := by omega
 generalize w4.heap.size = b8 at R8 hgw4 hne hBw ⊢
 replace RO := row_oF RO O (by omega)
 replace R8 := row_oF R8 O (by omega)
 replace REP := Lib.hid (REP.out.only O (fun b hb hin => by simp at hin; subst hin; exact hF hb))
 replace O0 := O0.trans O
 have hz5 := O0.size
 clear O
 have t2 : r3 < 8 := by omega
 have htz2 : t.size ≤ 10 := by omega
 have i64r : ∀ z : Int, 0 ≤ z → z ≤ 100 → I64 z := fun z h1 h2 => by unfold I64; omega
 clear t1 H4
 by_cases z0 : r3 = 0
 · subst z0
   by_cases hn0 : 0 < ls[k].length
   · have hn1 : (0 : Int) < (ls[k].length : Int) := by omega
     have H5 := Lib.hid (src_pick_c w5 S (by omega) ((ls[k].length : Int)) (by omega))
     clear S
     go_wp2_with fail
     refine H5.out.mono ?_
     rintro e w6 ⟨⟨r4, x0, x1, rfl⟩, S, O⟩
     replace RO := row_oF RO O (by omega)
     replace R8 := row_oF R8 O (by omega)
     replace REP := Lib.hid (REP.out.only O (fun b hb hin => by simp at hin; subst hin; exact hF hb))
     replace O0 := O0.trans O
     have hz6 := O0.size
     clear O
     clear H5
     obtain ⟨a, rfl⟩ := Int.eq_ofNat_of_zero_le x0
     have ha : a < ls[k].length := by omega
     obtain ⟨A', c', he, _, _, hr⟩ := pLines_open REP.out
     cases he
     obtain ⟨b', off', u', Fk', e8, hbb', hbF', hrk', hFk', hcell'⟩ := hr k hk
     cases e8
     obtain ⟨A3, c3, rfl⟩ := slice_len hrk'
     obtain ⟨A', c', he, _, _, hs⟩ := strs_open hrk'
     cases he
     obtain ⟨b9, off9, rfl, hb9, hbF9, h0, _⟩ := hs a ha
     have hw10 := word_size (hok.word _ (List.getElem_mem hk) _ (List.getElem_mem ha))
     have g2 : (a : Int) < (ls[k].length : Int) := by omega
     clear hr hs hrk' x1 hcell
     have hcellB := hcell'
     have b0 := R8.c0
     have b1 := R8.c1
     have b2 := R8.c2
     have b3 := R8.c3
     have b4 := R8.c4
     have bF := R8.frozen
     have d0 := RO.c0
     have d1 := RO.c1
     have d2 := RO.c2
     have d3 := RO.c3
     have d4 := RO.c4
     have dF := RO.frozen
     have RO8 := row_far5 (u0 := .int .i64 2) (u1 := .int .i64 k) (u2 := .int .i64 a) (u3 := .string ls[k][a]) (u4 := .string ⟨#[]⟩) RO hne
     have S8 := src_far5 (u0 := .int .i64 2) (u1 := .int .i64 k) (u2 := .int .i64 a) (u3 := .string ls[k][a]) (u4 := .string ⟨#[]⟩) S (Nat.le_trans hB hBw)
     have O8 := only_new5 (u0 := .int .i64 2) (u1 := .int .i64 k) (u2 := .int .i64 a) (u3 := .string ls[k][a]) (u4 := .string ⟨#[]⟩) O0 hBw
     have RE := row_set5 (u0 := .int .i64 2) (u1 := .int .i64 k) (u2 := .int .i64 a) (u3 := .string ls[k][a]) (u4 := .string ⟨#[]⟩) RO8 rfl
     have SE := Lib.hid (src_far5 (u0 := .int .i64 2) (u1 := .int .i64 k) (u2 := .int .i64 a) (u3 := .string ls[k][a]) (u4 := .string ⟨#[]⟩) S8 hB)
     have OE := Lib.hid (only_new5 (u0 := .int .i64 2) (u1 := .int .i64 k) (u2 := .int .i64 a) (u3 := .string ls[k][a]) (u4 := .string ⟨#[]⟩) O8 (Nat.le_refl _))
     have e0 := RE.c0
     have e1 := RE.c1
     have e2 := RE.c2
     have e3 := RE.c3
     have e4 := RE.c4
     unfold set5 at e0 e1 e2 e3 e4
     clear S O0 REP RO8 S8 O8 RO R8 RE
     go_wp2_with fail
     refine bodyPost_ret (v := .agg #[.int .i64 2, .int .i64 k, .int .i64 a, .string ls[k][a], .string ⟨#[]⟩]) (by simp only [results, Tryd.results16]; go_simp) rfl ⟨⟨⟨2, k, a, ls[k][a], ⟨#[]⟩⟩, ⟨⟨i64r (2) (by omega) (by omega), i64r (k) (by omega) (by omega), i64r (a) (by omega) (by omega), Nat.le_trans hw10 (by decide), Nat.le_trans (by decide : ByteArray.size ⟨#[]⟩ ≤ 10) (by decide)⟩, hw10, (by decide : ByteArray.size ⟨#[]⟩ ≤ 10)⟩, rfl⟩, SE.out.more (by omega), OE.out⟩
   · have hn1 : ¬ ((0 : Int) < (ls[k].length : Int)) := by omega
     have b0 := R8.c0
     have b1 := R8.c1
     have b2 := R8.c2
     have b3 := R8.c3
     have b4 := R8.c4
     have bF := R8.frozen
     have d0 := RO.c0
     have d1 := RO.c1
     have d2 := RO.c2
     have d3 := RO.c3
     have d4 := RO.c4
     have dF := RO.frozen
     have RO8 := RO
     have S8 := S
     have O8 := O0
     have RE := row_set5 (u0 := .int .i64 1) (u1 := .int .i64 k) (u2 := .int .i64 r2) (u3 := .string t) (u4 := .string ⟨#[]⟩) RO8 rfl
     have SE := Lib.hid (src_far5 (u0 := .int .i64 1) (u1 := .int .i64 k) (u2 := .int .i64 r2) (u3 := .string t) (u4 := .string ⟨#[]⟩) S8 hB)
     have OE := Lib.hid (only_new5 (u0 := .int .i64 1) (u1 := .int .i64 k) (u2 := .int .i64 r2) (u3 := .string t) (u4 := .string ⟨#[]⟩) O8 (Nat.le_refl _))
     have e0 := RE.c0
     have e1 := RE.c1
     have e2 := RE.c2
     have e3 := RE.c3
     have e4 := RE.c4
     unfold set5 at e0 e1 e2 e3 e4
     clear S O0 REP RO8 S8 O8 RO R8 RE
     go_wp2_with fail
     refine bodyPost_ret (v := .agg #[.int .i64 1, .int .i64 k, .int .i64 r2, .string t, .string ⟨#[]⟩]) (by simp only [results, Tryd.results16]; go_simp) rfl ⟨⟨⟨1, k, r2, t, ⟨#[]⟩⟩, ⟨⟨i64r (1) (by omega) (by omega), i64r (k) (by omega) (by omega), i64r (r2) (by omega) (by omega), Nat.le_trans htz2 (by decide), Nat.le_trans (by decide : ByteArray.size ⟨#[]⟩ ≤ 10) (by decide)⟩, htz2, (by decide : ByteArray.size ⟨#[]⟩ ≤ 10)⟩, rfl⟩, SE.out.more (by omega), OE.out⟩
 · have y0 : (r3 == 0) = false := by simpa using z0
   by_cases z1 : r3 = 1
   · subst z1
     by_cases hn0 : 0 < ls[k].length
     · have hn1 : (0 : Int) < (ls[k].length : Int) := by omega
       have H5 := Lib.hid (src_pick_c w5 S (by omega) ((ls[k].length : Int)) (by omega))
       clear S
       go_wp2_with fail
       refine H5.out.mono ?_
       rintro e w6 ⟨⟨r4, x0, x1, rfl⟩, S, O⟩
       replace RO := row_oF RO O (by omega)
       replace R8 := row_oF R8 O (by omega)
       replace REP := Lib.hid (REP.out.only O (fun b hb hin => by simp at hin; subst hin; exact hF hb))
       replace O0 := O0.trans O
       have hz6 := O0.size
       clear O
       clear H5
       obtain ⟨a, rfl⟩ := Int.eq_ofNat_of_zero_le x0
       have ha : a < ls[k].length := by omega
       obtain ⟨A', c', he, _, _, hr⟩ := pLines_open REP.out
       cases he
       obtain ⟨b', off', u', Fk', e8, hbb', hbF', hrk', hFk', hcell'⟩ := hr k hk
       cases e8
       obtain ⟨A3, c3, rfl⟩ := slice_len hrk'
       obtain ⟨A', c', he, _, _, hs⟩ := strs_open hrk'
       cases he
       obtain ⟨b9, off9, rfl, hb9, hbF9, h0, _⟩ := hs a ha
       have hw10 := word_size (hok.word _ (List.getElem_mem hk) _ (List.getElem_mem ha))
       have g2 : (a : Int) < (ls[k].length : Int) := by omega
       clear hr hs hrk' x1 hcell
       have hcellB := hcell'
       have b0 := R8.c0
       have b1 := R8.c1
       have b2 := R8.c2
       have b3 := R8.c3
       have b4 := R8.c4
       have bF := R8.frozen
       have d0 := RO.c0
       have d1 := RO.c1
       have d2 := RO.c2
       have d3 := RO.c3
       have d4 := RO.c4
       have dF := RO.frozen
       have RO8 := row_far5 (u0 := .int .i64 3) (u1 := .int .i64 k) (u2 := .int .i64 a) (u3 := .string t) (u4 := .string ls[k][a]) RO hne
       have S8 := src_far5 (u0 := .int .i64 3) (u1 := .int .i64 k) (u2 := .int .i64 a) (u3 := .string t) (u4 := .string ls[k][a]) S (Nat.le_trans hB hBw)
       have O8 := only_new5 (u0 := .int .i64 3) (u1 := .int .i64 k) (u2 := .int .i64 a) (u3 := .string t) (u4 := .string ls[k][a]) O0 hBw
       have RE := row_set5 (u0 := .int .i64 3) (u1 := .int .i64 k) (u2 := .int .i64 a) (u3 := .string t) (u4 := .string ls[k][a]) RO8 rfl
       have SE := Lib.hid (src_far5 (u0 := .int .i64 3) (u1 := .int .i64 k) (u2 := .int .i64 a) (u3 := .string t) (u4 := .string ls[k][a]) S8 hB)
       have OE := Lib.hid (only_new5 (u0 := .int .i64 3) (u1 := .int .i64 k) (u2 := .int .i64 a) (u3 := .string t) (u4 := .string ls[k][a]) O8 (Nat.le_refl _))
       have e0 := RE.c0
       have e1 := RE.c1
       have e2 := RE.c2
       have e3 := RE.c3
       have e4 := RE.c4
       unfold set5 at e0 e1 e2 e3 e4
       clear S O0 REP RO8 S8 O8 RO R8 RE
       go_wp2_with fail
       refine bodyPost_ret (v := .agg #[.int .i64 3, .int .i64 k, .int .i64 a, .string t, .string ls[k][a]]) (by simp only [results, Tryd.results16]; go_simp) rfl ⟨⟨⟨3, k, a, t, ls[k][a]⟩, ⟨⟨i64r (3) (by omega) (by omega), i64r (k) (by omega) (by omega), i64r (a) (by omega) (by omega), Nat.le_trans htz2 (by decide), Nat.le_trans hw10 (by decide)⟩, htz2, hw10⟩, rfl⟩, SE.out.more (by omega), OE.out⟩
     · have hn1 : ¬ ((0 : Int) < (ls[k].length : Int)) := by omega
       have b0 := R8.c0
       have b1 := R8.c1
       have b2 := R8.c2
       have b3 := R8.c3
       have b4 := R8.c4
       have bF := R8.frozen
       have d0 := RO.c0
       have d1 := RO.c1
       have d2 := RO.c2
       have d3 := RO.c3
       have d4 := RO.c4
       have dF := RO.frozen
       have RO8 := RO
       have S8 := S
       have O8 := O0
       have RE := row_set5 (u0 := .int .i64 1) (u1 := .int .i64 k) (u2 := .int .i64 r2) (u3 := .string t) (u4 := .string ⟨#[]⟩) RO8 rfl
       have SE := Lib.hid (src_far5 (u0 := .int .i64 1) (u1 := .int .i64 k) (u2 := .int .i64 r2) (u3 := .string t) (u4 := .string ⟨#[]⟩) S8 hB)
       have OE := Lib.hid (only_new5 (u0 := .int .i64 1) (u1 := .int .i64 k) (u2 := .int .i64 r2) (u3 := .string t) (u4 := .string ⟨#[]⟩) O8 (Nat.le_refl _))
       have e0 := RE.c0
       have e1 := RE.c1
       have e2 := RE.c2
       have e3 := RE.c3
       have e4 := RE.c4
       unfold set5 at e0 e1 e2 e3 e4
       clear S O0 REP RO8 S8 O8 RO R8 RE
       go_wp2_with fail
       refine bodyPost_ret (v := .agg #[.int .i64 1, .int .i64 k, .int .i64 r2, .string t, .string ⟨#[]⟩]) (by simp only [results, Tryd.results16]; go_simp) rfl ⟨⟨⟨1, k, r2, t, ⟨#[]⟩⟩, ⟨⟨i64r (1) (by omega) (by omega), i64r (k) (by omega) (by omega), i64r (r2) (by omega) (by omega), Nat.le_trans htz2 (by decide), Nat.le_trans (by decide : ByteArray.size ⟨#[]⟩ ≤ 10) (by decide)⟩, htz2, (by decide : ByteArray.size ⟨#[]⟩ ≤ 10)⟩, rfl⟩, SE.out.more (by omega), OE.out⟩
   · have y1 : (r3 == 1) = false := by simpa using z1
     by_cases z2 : r3 = 2
     · subst z2
       have H5 := Lib.hid (src_pick_c w5 S (by omega) ((ls[k].length : Int) + 1) (by omega))
       clear S
       go_wp2_with fail
       refine H5.out.mono ?_
       rintro e w6 ⟨⟨r4, x0, x1, rfl⟩, S, O⟩
       replace RO := row_oF RO O (by omega)
       replace R8 := row_oF R8 O (by omega)
       replace REP := Lib.hid (REP.out.only O (fun b hb hin => by simp at hin; subst hin; exact hF hb))
       replace O0 := O0.trans O
       have hz6 := O0.size
       clear O
       clear H5
       have b0 := R8.c0
       have b1 := R8.c1
       have b2 := R8.c2
       have b3 := R8.c3
       have b4 := R8.c4
       have bF := R8.frozen
       have d0 := RO.c0
       have d1 := RO.c1
       have d2 := RO.c2
       have d3 := RO.c3
       have d4 := RO.c4
       have dF := RO.frozen
       have RO8 := row_far5 (u0 := .int .i64 4) (u1 := .int .i64 k) (u2 := .int .i64 r4) (u3 := .string ⟨#[]⟩) (u4 := .string ⟨#[]⟩) RO hne
       have S8 := src_far5 (u0 := .int .i64 4) (u1 := .int .i64 k) (u2 := .int .i64 r4) (u3 := .string ⟨#[]⟩) (u4 := .string ⟨#[]⟩) S (Nat.le_trans hB hBw)
       have O8 := only_new5 (u0 := .int .i64 4) (u1 := .int .i64 k) (u2 := .int .i64 r4) (u3 := .string ⟨#[]⟩) (u4 := .string ⟨#[]⟩) O0 hBw
       have RE := row_set5 (u0 := .int .i64 4) (u1 := .int .i64 k) (u2 := .int .i64 r4) (u3 := .string ⟨#[]⟩) (u4 := .string ⟨#[]⟩) RO8 rfl
       have SE := Lib.hid (src_far5 (u0 := .int .i64 4) (u1 := .int .i64 k) (u2 := .int .i64 r4) (u3 := .string ⟨#[]⟩) (u4 := .string ⟨#[]⟩) S8 hB)
       have OE := Lib.hid (only_new5 (u0 := .int .i64 4) (u1 := .int .i64 k) (u2 := .int .i64 r4) (u3 := .string ⟨#[]⟩) (u4 := .string ⟨#[]⟩) O8 (Nat.le_refl _))
       have e0 := RE.c0
       have e1 := RE.c1
       have e2 := RE.c2
       have e3 := RE.c3
       have e4 := RE.c4
       unfold set5 at e0 e1 e2 e3 e4
       clear S O0 REP RO8 S8 O8 RO R8 RE
       go_wp2_with fail
       refine bodyPost_ret (v := .agg #[.int .i64 4, .int .i64 k, .int .i64 r4, .string ⟨#[]⟩, .string ⟨#[]⟩]) (by simp only [results, Tryd.results16]; go_simp) rfl ⟨⟨⟨4, k, r4, ⟨#[]⟩, ⟨#[]⟩⟩, ⟨⟨i64r (4) (by omega) (by omega), i64r (k) (by omega) (by omega), i64r (r4) (by omega) (by omega), Nat.le_trans (by decide : ByteArray.size ⟨#[]⟩ ≤ 10) (by decide), Nat.le_trans (by decide : ByteArray.size ⟨#[]⟩ ≤ 10) (by decide)⟩, (by decide : ByteArray.size ⟨#[]⟩ ≤ 10), (by decide : ByteArray.size ⟨#[]⟩ ≤ 10)⟩, rfl⟩, SE.out.more (by omega), OE.out⟩
     · have y2 : (r3 == 2) = false := by simpa using z2
       by_cases z3 : r3 = 3
       · subst z3
         have b0 := R8.c0
         have b1 := R8.c1
         have b2 := R8.c2
         have b3 := R8.c3
         have b4 := R8.c4
         have bF := R8.frozen
         have d0 := RO.c0
         have d1 := RO.c1
         have d2 := RO.c2
         have d3 := RO.c3
         have d4 := RO.c4
         have dF := RO.frozen
         have RO8 := row_far5 (u0 := .int .i64 5) (u1 := .int .i64 k) (u2 := .int .i64 (ls[k].length : Int)) (u3 := .string ⟨#[]⟩) (u4 := .string ⟨#[]⟩) RO hne
         have S8 := src_far5 (u0 := .int .i64 5) (u1 := .int .i64 k) (u2 := .int .i64 (ls[k].length : Int)) (u3 := .string ⟨#[]⟩) (u4 := .string ⟨#[]⟩) S (Nat.le_trans hB hBw)
         have O8 := only_new5 (u0 := .int .i64 5) (u1 := .int .i64 k) (u2 := .int .i64 (ls[k].length : Int)) (u3 := .string ⟨#[]⟩) (u4 := .string ⟨#[]⟩) O0 hBw
         have RE := row_set5 (u0 := .int .i64 5) (u1 := .int .i64 k) (u2 := .int .i64 (ls[k].length : Int)) (u3 := .string ⟨#[]⟩) (u4 := .string ⟨#[]⟩) RO8 rfl
         have SE := Lib.hid (src_far5 (u0 := .int .i64 5) (u1 := .int .i64 k) (u2 := .int .i64 (ls[k].length : Int)) (u3 := .string ⟨#[]⟩) (u4 := .string ⟨#[]⟩) S8 hB)
         have OE := Lib.hid (only_new5 (u0 := .int .i64 5) (u1 := .int .i64 k) (u2 := .int .i64 (ls[k].length : Int)) (u3 := .string ⟨#[]⟩) (u4 := .string ⟨#[]⟩) O8 (Nat.le_refl _))
         have e0 := RE.c0
         have e1 := RE.c1
         have e2 := RE.c2
         have e3 := RE.c3
         have e4 := RE.c4
         unfold set5 at e0 e1 e2 e3 e4
         clear S O0 REP RO8 S8 O8 RO R8 RE
         go_wp2_with fail
         refine bodyPost_ret (v := .agg #[.int .i64 5, .int .i64 k, .int .i64 (ls[k].length : Int), .string ⟨#[]⟩, .string ⟨#[]⟩]) (by simp only [results, Tryd.results16]; go_simp) rfl ⟨⟨⟨5, k, (ls[k].length : Int), ⟨#[]⟩, ⟨#[]⟩⟩, ⟨⟨i64r (5) (by omega) (by omega), i64r (k) (by omega) (by omega), i64r ((ls[k].length : Int)) (by omega) (by omega), Nat.le_trans (by decide : ByteArray.size ⟨#[]⟩ ≤ 10) (by decide), Nat.le_trans (by decide : ByteArray.size ⟨#[]⟩ ≤ 10) (by decide)⟩, (by decide : ByteArray.size ⟨#[]⟩ ≤ 10), (by decide : ByteArray.size ⟨#[]⟩ ≤ 10)⟩, rfl⟩, SE.out.more (by omega), OE.out⟩
       · have y3 : (r3 == 3) = false := by simpa using z3
         have b0 := R8.c0
         have b1 := R8.c1
         have b2 := R8.c2
         have b3 := R8.c3
         have b4 := R8.c4
         have bF := R8.frozen
         have d0 := RO.c0
         have d1 := RO.c1
         have d2 := RO.c2
         have d3 := RO.c3
         have d4 := RO.c4
         have dF := RO.frozen
         have RO8 := RO
         have S8 := S
         have O8 := O0
         have RE := row_set5 (u0 := .int .i64 1) (u1 := .int .i64 k) (u2 := .int .i64 r2) (u3 := .string t) (u4 := .string ⟨#[]⟩) RO8 rfl
         have SE := Lib.hid (src_far5 (u0 := .int .i64 1) (u1 := .int .i64 k) (u2 := .int .i64 r2) (u3 := .string t) (u4 := .string ⟨#[]⟩) S8 hB)
         have OE := Lib.hid (only_new5 (u0 := .int .i64 1) (u1 := .int .i64 k) (u2 := .int .i64 r2) (u3 := .string t) (u4 := .string ⟨#[]⟩) O8 (Nat.le_refl _))
         have e0 := RE.c0
         have e1 := RE.c1
         have e2 := RE.c2
         have e3 := RE.c3
         have e4 := RE.c4
         unfold set5 at e0 e1 e2 e3 e4
         clear S O0 REP RO8 S8 O8 RO R8 RE
         go_wp2_with fail
         refine bodyPost_ret (v := .agg #[.int .i64 1, .int .i64 k, .int .i64 r2, .string t, .string ⟨#[]⟩]) (by simp only [results, Tryd.results16]; go_simp) rfl ⟨⟨⟨1, k, r2, t, ⟨#[]⟩⟩, ⟨⟨i64r (1) (by omega) (by omega), i64r (k) (by omega) (by omega), i64r (r2) (by omega) (by omega), Nat.le_trans htz2 (by decide), Nat.le_trans (by decide : ByteArray.size ⟨#[]⟩ ≤ 10) (by decide)⟩, htz2, (by decide : ByteArray.size ⟨#[]⟩ ≤ 10)⟩, rfl⟩, SE.out.more (by omega), OE.out⟩
end Go.Proofs.YtmopioaojdlnkaaDoor

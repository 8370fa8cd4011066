/- Pages: one step done, in the reference. Conditions: none. -/
import Derived.Test.YtmopioaojdlnkaaDoorPgDop
namespace Go.Proofs.YtmopioaojdlnkaaDoor
open Go Go.RowKit
theorem empty_at {α : Type} (T : Ty α) (e : TypeId) (w : World) {n : Nat} (hn : n = w.heap.size) : (T.slice e).rep true (w.alloc (.cells #[] e)) [] [.slice (some ⟨n, 0, none⟩) 0 0] [n] := by
 subst hn; exact empty_is T e w
theorem step_tail {w : World} {e : TypeId} {xs : List PStep} {v : Value} {F : List Nat} (h : (pSteps e).rep true w xs [v] F) (hn : 1 < xs.length) :
 ∃ g c, v = .slice (some ⟨g, 0, none⟩) xs.length c ∧ xs.length ≤ c ∧ c ≤ maxLen ∧ ∃ F', (pSteps e).rep false w (xs.drop 1) [.slice (some ⟨g, 5, none⟩) (xs.length - 1) (c - 1)] F' ∧ ∀ b ∈ F', b ∈ F := by
 obtain ⟨g, c, cs, rest, G, rfl, hl, hc, hrow, hr, hlen, rfl⟩ := row_of_slice h (by omega)
 obtain ⟨Fa, Fb, rfl, h1, h2⟩ := repL_at hr 1 (by omega)
 refine ⟨g, c, rfl, hl, hc, [g] ++ Fb, ⟨some ⟨g, 5, none⟩, c - 1, _, [g], Fb, by rw [List.length_drop], rfl, by rw [List.length_drop]; omega, by omega, repL_read h2, by simpa using hrow.lt, fun _ => ⟨g, 5, rfl, by simp, fun j u hu => hrow.cell' ?_⟩, fun h => by cases h⟩, by simp; intro b hb; simp [hb]⟩
 have hj := (List.getElem?_eq_some_iff.1 hu).1
 rw [List.length_drop] at hj
 rw [List.getElem?_drop] at hu
 have hs : 1 * pStep.size = 5 := rfl
 rw [hs] at hu hj
 rw [List.getElem?_append_left (by omega)]
 exact hu
set_option maxRecDepth 100000 in
set_option maxHeartbeats 2000000 in
theorem spec_l27Push_c {o : Bool} {e : TypeId} {xs : List PStep} {v : Value} {F : List Nat} (s : PStep) (w : World) (h : (pSteps e).rep o w xs [v] F) (hx : xs.length ≤ 1000) (hok : pStepOk s) :
 Calls Tryd.prog 64 #[v, .agg #[.int .i64 s.kind, .int .i64 s.line, .int .i64 s.pos, .string s.word, .string s.old]] w (GivesN (pSteps 30) (pushS xs s) w) := by
 have hxo := pSteps_ok h
 obtain ⟨A, c, rfl⟩ := slice_len h
 obtain ⟨ec, Gs, hs1, hs2, hs3⟩ := slice_src h
 obtain ⟨rfl, rfl⟩ := repL_pStep_inv hs1
 have HX := Lib.hid (repL_pStep (o := true) (w := w) xs hxo)
 have HA := Lib.hid hs2
 have HK := Lib.hid hok
 clear h hs1 hs2 hs3 hxo hok
 by_cases hlt : 30 < xs.length + 1
 · have g1 : (30 : Int) < (xs.length : Int) + 1 := by omega
   have hp : Hid (pushS xs s = (xs ++ [s]).drop 1) := by show _ = _; simp [pushS, hlt]
   go_enter Tryd.func64, Tryd.ntmps64
   go_wp2_with (first
    | (at_builtin; refine wpList_append_rep (T := pStep) (e := 30) (ys := xs) rfl (.tmp 6) (.tmp 7) rfl Tryd.underlying25 Tryd.infoStep rfl (by decide) rfl (empty_at pStep _ _ (n := w.heap.size + 1) (by simp)) rfl (repL_alloc (repL_alloc HX.out _) _) ((HA.out.alloc _).alloc _) trivial (by simp) (by simp [maxLen]; omega) (by simp; omega) ?_; intro v2 w2 F2 r2 o2 q2; rw [List.nil_append] at r2; have RS := ((Row.new w 30 #[.int .i64 s.kind, .int .i64 s.line, .int .i64 s.pos, .string s.word, .string s.old]).alloc (.cells #[] 30)).only o2 (by simp); have k0 := RS.c0; have k1 := RS.c1; have k2 := RS.c2; have k3 := RS.c3; have k4 := RS.c4; have hz := o2.size; simp only [World.size_alloc] at hz; have hb2 : Below w.heap.size w w2 := (((Below.refl _ _).alloc (Nat.le_refl _) _).alloc (by simp) _).trans (o2.below (by simp <;> omega) (by simp)); have hf2 := q2 w.heap.size ⟨by simp, by simp⟩ (by simp <;> omega); have R2 := Lib.hid r2; clear r2)
    | (at_builtin; refine wpList_append_rep (T := pStep) (e := 30) (ys := [s]) rfl (.tmp 9) (.tmp 11) rfl Tryd.underlying25 Tryd.infoStep rfl (by decide) rfl (R2.out.alloc _) rfl (repL_pStep [s] (by simpa using HK.out)) (cellsAt_new _ _ _) trivial (by simpa using hf2.1) (by simp [maxLen]; omega) (by simp; omega) ?_; intro v3 w3 F3 r3 o3 q3; obtain ⟨A3, k3, hv3⟩ := slice_len r3; rw [show (xs ++ [s]).length = xs.length + 1 from by simp] at hv3; subst hv3; have hb3 : Below w.heap.size w w3 := below_only' (hb2.alloc (by omega) _) o3 hf2.2 (by simp; omega); have hf3 := q3 w.heap.size (by simpa using hf2) (by simp; omega); have R3 := Lib.hid r3; clear r3; obtain ⟨g, c3, he, hl3, hc3, F4, r4, n4⟩ := step_tail (xs := xs ++ [s]) (e := 30) R3.out (by simp; omega); simp only [Value.slice.injEq] at he; obtain ⟨rfl, -, rfl⟩ := he; simp only [List.length_append, List.length_cons, List.length_nil, Nat.zero_add] at hl3 r4; have hk1 : ¬ k3 = 1 := (by omega); unfold maxLen at hc3; have R4 := Lib.hid r4; have N4 := Lib.hid n4; clear r4 n4))
   go_ret
   exact ⟨_, _, rfl, by rw [hp.out]; exact R4.out, fun b hb => hf3.2 b (N4.out b hb), hb3⟩
 · have g1 : ¬ ((30 : Int) < (xs.length : Int) + 1) := by omega
   have hp : Hid (pushS xs s = xs ++ [s]) := by show _ = _; simp only [pushS]; rw [if_neg hlt]
   go_enter Tryd.func64, Tryd.ntmps64
   go_wp2_with (first
    | (at_builtin; refine wpList_append_rep (T := pStep) (e := 30) (ys := xs) rfl (.tmp 6) (.tmp 7) rfl Tryd.underlying25 Tryd.infoStep rfl (by decide) rfl (empty_at pStep _ _ (n := w.heap.size + 1) (by simp)) rfl (repL_alloc (repL_alloc HX.out _) _) ((HA.out.alloc _).alloc _) trivial (by simp) (by simp [maxLen]; omega) (by simp; omega) ?_; intro v2 w2 F2 r2 o2 q2; rw [List.nil_append] at r2; have RS := ((Row.new w 30 #[.int .i64 s.kind, .int .i64 s.line, .int .i64 s.pos, .string s.word, .string s.old]).alloc (.cells #[] 30)).only o2 (by simp); have k0 := RS.c0; have k1 := RS.c1; have k2 := RS.c2; have k3 := RS.c3; have k4 := RS.c4; have hz := o2.size; simp only [World.size_alloc] at hz; have hb2 : Below w.heap.size w w2 := (((Below.refl _ _).alloc (Nat.le_refl _) _).alloc (by simp) _).trans (o2.below (by simp <;> omega) (by simp)); have hf2 := q2 w.heap.size ⟨by simp, by simp⟩ (by simp <;> omega); have R2 := Lib.hid r2; clear r2)
    | (at_builtin; refine wpList_append_rep (T := pStep) (e := 30) (ys := [s]) rfl (.tmp 9) (.tmp 11) rfl Tryd.underlying25 Tryd.infoStep rfl (by decide) rfl (R2.out.alloc _) rfl (repL_pStep [s] (by simpa using HK.out)) (cellsAt_new _ _ _) trivial (by simpa using hf2.1) (by simp [maxLen]; omega) (by simp; omega) ?_; intro v3 w3 F3 r3 o3 q3; obtain ⟨A3, k3, hv3⟩ := slice_len r3; rw [show (xs ++ [s]).length = xs.length + 1 from by simp] at hv3; subst hv3; have hb3 : Below w.heap.size w w3 := below_only' (hb2.alloc (by omega) _) o3 hf2.2 (by simp; omega); have hf3 := q3 w.heap.size (by simpa using hf2) (by simp; omega); have R3 := Lib.hid r3; clear r3))
   go_ret
   exact ⟨_, _, rfl, by rw [hp.out]; exact ty_read R3.out, hf3.2, hb3⟩
set_option maxRecDepth 100000 in
set_option maxHeartbeats 2000000 in
theorem spec_l27Do_c {el es : TypeId} {o : Bool} {p : PPage} {a b c : Value} {F1 F2 : List Nat} {gp gs : Nat} (s : PStep) (w : World) (hg : Row w gp 27 [a, b, c]) (hs : Row w gs 30 (pStepCells s)) (h1 : (pLines el).rep o w p.lines [a] F1) (h2 : (pSteps es).rep o w p.done [b] F2) (hok : LinesOk p.lines) (hc : Can p.lines s) (hso : pStepOk s) (hd : p.done.length ≤ 1000) :
 Calls Tryd.prog 34 #[.pointer (some ⟨gp, 0, none⟩), .pointer (some ⟨gs, 0, none⟩)] w (GivesPageR (doP p s) w) := by
 have HC := Lib.hid (fun w' (q : (pLines el).rep o w' p.lines [a] F1) (r : Row w' gs 30 (pStepCells s)) => spec_l27Apply_c s w' q r hok hc hso.2.2.2.1)
 have HD := Lib.hid (fun w' (q : (pSteps es).rep o w' p.done [b] F2) => spec_l27Push_c s w' q hd hso)
 obtain ⟨A1, k1, rfl⟩ := slice_len h1
 obtain ⟨A2, k2, rfl⟩ := slice_len h2
 have RP := (hg.alloc (.cells #[.slice none 0 0, .slice none 0 0, .slice none 0 0] 27)).drew
 have RS := (hs.alloc (.cells #[.slice none 0 0, .slice none 0 0, .slice none 0 0] 27)).drew
 have RO := (Row.new w 27 #[.slice none 0 0, .slice none 0 0, .slice none 0 0]).drew
 have bb : Below w.heap.size w (w.alloc (.cells #[.slice none 0 0, .slice none 0 0, .slice none 0 0] 27)).drew := ((Below.refl _ _).alloc (Nat.le_refl _) _).drew
 have sz : (w.alloc (.cells #[.slice none 0 0, .slice none 0 0, .slice none 0 0] 27)).drew.heap.size = w.heap.size + 1 := by simp
 have H1 := ((h1.alloc (.cells #[.slice none 0 0, .slice none 0 0, .slice none 0 0] 27)).drew)
 have H2 := ((h2.alloc (.cells #[.slice none 0 0, .slice none 0 0, .slice none 0 0] 27)).drew)
 have gl := hg.lt
 have gl2 := hs.lt
 clear h1 h2 hg hs
 have BS := BoxS.of RS
 unfold BoxS at BS
 have p0 := RP.c0
 have p1 := RP.c1
 have ng : ¬ gp = w.heap.size := by omega
 have ng2 : ¬ gs = w.heap.size := by omega
 have K3 : ∀ (w2 : World) (g i : Nat) (a b c u : Value), g ≠ w.heap.size → w2.cell? ⟨g, i, none⟩ = some u → (((w2.setCell ⟨w.heap.size, 0, none⟩ a).setCell ⟨w.heap.size, 1, none⟩ b).setCell ⟨w.heap.size, 2, none⟩ c).cell? ⟨g, i, none⟩ = some u := by
  intro w2 g i a b c u hne hu
  have hc : ∀ (w0 : World) (j : Nat) (x : Value), (w0.setCell ⟨w.heap.size, j, none⟩ x).cell? ⟨g, i, none⟩ = w0.cell? ⟨g, i, none⟩ := by
   intro w0 j x
   simp only [World.cell?]
   rw [Below.heap_setCell w0 ⟨w.heap.size, j, none⟩ x g hne]
  rw [hc, hc, hc]; exact hu
 go_enter Tryd.func34, Tryd.ntmps34
 go_wp2_with fail
 go_region_held3 (fun w' => w'.cell? ⟨gp, 0, none⟩ = some (.slice A1 p.lines.length k1) ∧ w'.cell? ⟨gp, 1, none⟩ = some (.slice A2 p.done.length k2) ∧ w'.cell? ⟨gs, 0, none⟩ = some (.int .i64 s.kind) ∧ w'.cell? ⟨gs, 1, none⟩ = some (.int .i64 s.line) ∧ w'.cell? ⟨gs, 2, none⟩ = some (.int .i64 s.pos) ∧ w'.cell? ⟨gs, 3, none⟩ = some (.string s.word) ∧ w'.cell? ⟨gs, 4, none⟩ = some (.string s.old)) (first | exact ⟨p0, p1, BS⟩ | exact ⟨t0, t1, TS⟩ | exact ⟨x0, x1, XS⟩ | exact ⟨K3 _ _ _ _ _ _ _ ng x0, K3 _ _ _ _ _ _ _ ng x1, K3 _ _ _ _ _ _ _ ng2 XS.1, K3 _ _ _ _ _ _ _ ng2 XS.2.1, K3 _ _ _ _ _ _ _ ng2 XS.2.2.1, K3 _ _ _ _ _ _ _ ng2 XS.2.2.2.1, K3 _ _ _ _ _ _ _ ng2 XS.2.2.2.2⟩) (first | (go_at_call 63; refine (HC.out _ H1 RS).mono ?_; rintro e w1 ⟨u1, G1, rfl, r1, f1, b1⟩; have RP1 := RP.later b1; have RS1 := RS.later b1; have RO1 := RO.later b1; have t0 := RP1.c0; have t1 := RP1.c1; have TS := BoxS.of RS1; unfold BoxS at TS; obtain ⟨B1, n1, m1, rfl⟩ := slice_form r1) | (go_at_call 64; refine (HD.out _ (H2.below b1)).mono ?_; rintro e w2 ⟨u2, G2, rfl, r2, f2, b2⟩; have RP2 := RP1.later b2; have RS2 := RS1.later b2; have RO2 := RO1.later b2; have x0 := RP2.c0; have x1 := RP2.c1; have XS := BoxS.of RS2; unfold BoxS at XS; have o0 := RO2.c0; have o1 := RO2.c1; have o2 := RO2.c2; have of := RO2.frozen; obtain ⟨B2, n2, m2, rfl⟩ := slice_form r2))
 go_wp2_with fail
 have s1 := b1.size
 have s2 := b2.size
 have n1' : w.heap.size ∉ G1 := fun hx => by have := f1.2 _ hx; omega
 have n2' : w.heap.size ∉ G2 := fun hx => by have := f2 _ hx; omega
 have TF := ((RO2.set 0 (.slice B1 n1 m1)).set 1 (.slice B2 n2 m2)).set 2 (.slice none 0 0)
 have e0 := TF.c0
 have e1 := TF.c1
 have e2 := TF.c2
 have y1 := ty_read (r1.below b2)
 refine bodyPost_ret (v := .agg #[.slice B1 n1 m1, .slice B2 n2 m2, .slice none 0 0]) (by simp only [results, Tryd.results34]; go_simp) rfl ⟨_, G1 ++ (G2 ++ []), rfl, PageIs.make (p := doP p s) (((y1.setCell n1' _).setCell n1' _).setCell n1' _) (((r2.setCell n2' _).setCell n2' _).setCell n2' _) (slice_nil _ _ _ _), ?_, set3 (bt (bb.trans (b1.mono bb.size)) b2) (by omega) _ _ _⟩
 intro x hx
 simp only [List.append_nil, List.mem_append] at hx
 rcases hx with hx | hx
 · have := f1.2 _ hx; omega
 · have := f2 _ hx; omega
end Go.Proofs.YtmopioaojdlnkaaDoor

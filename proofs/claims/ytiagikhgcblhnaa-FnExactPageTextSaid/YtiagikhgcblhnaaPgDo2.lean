/- Pages: one step done, in the reference. Conditions: none. -/
import Derived.Test.YtiagikhgcblhnaaPgDo
namespace Go.Proofs.Ytiagikhgcblhnaa
open Go Go.RowKit

theorem empty_at {α : Type} (T : Ty α) (e : TypeId) (w : World) {n : Nat} (hn : n = w.heap.size) : (T.slice e).rep true (w.alloc (.cells #[] e)) [] [.slice (some ⟨n, 0, none⟩) 0 0] [n] := by
  subst hn; exact empty_is T e w
/-- The steps behind the first one, to be read. -/
theorem step_tail {w : World} {e : TypeId} {xs : List PStep} {v : Value} {F : List Nat} (h : (pSteps e).rep true w xs [v] F) (hn : 1 < xs.length) :
    ∃ g c, v = .slice (some ⟨g, 0, none⟩) xs.length c ∧ xs.length ≤ c ∧ c ≤ maxLen ∧ ∃ F', (pSteps e).rep false w (xs.drop 1) [.slice (some ⟨g, 5, none⟩) (xs.length - 1) (c - 1)] F' ∧ ∀ b ∈ F', b ∈ F := by
  obtain ⟨g, c, cs, rest, G, rfl, hl, hc, hrow, hr, hlen, rfl⟩ := row_of_slice h (by omega)
  obtain ⟨Fa, Fb, rfl, h1, h2⟩ := repL_at hr 1 (by omega)
  refine ⟨g, c, rfl, hl, hc, [g] ++ Fb, ⟨some ⟨g, 5, none⟩, c - 1, _, [g], Fb, by rw [List.length_drop], rfl, by rw [List.length_drop]; omega, by omega, repL_read h2, by simpa using hrow.lt, fun _ => ⟨g, 5, rfl, by simp, fun j u hu => hrow.cell' ?_⟩, fun h => by cases h⟩, by simp; intro b hb; simp [hb]⟩
  have hj := (List.getElem?_eq_some_iff.1 hu).1
  rw [List.length_drop] at hj
  rw [List.getElem?_drop] at hu
  have hs : 1 * pStep.size = 5 := rfl
  rw [hs] at hu hj
  rw [List.getElem?_append_left (by omega)]
  exact hu

set_option maxRecDepth 100000 in
set_option maxHeartbeats 2000000 in
theorem spec_l27Push_c {o : Bool} {e : TypeId} {xs : List PStep} {v : Value} {F : List Nat} (s : PStep) (w : World) (h : (pSteps e).rep o w xs [v] F) (hx : xs.length ≤ 1000) (hok : pStepOk s) :
    Calls Try.prog 43 #[v, .agg #[.int .i64 s.kind, .int .i64 s.line, .int .i64 s.pos, .string s.word, .string s.old]] w (GivesN (pSteps 43) (pushS xs s) w) := by
  have hxo := pSteps_ok h
  obtain ⟨A, c, rfl⟩ := slice_len h
  obtain ⟨ec, Gs, hs1, hs2, hs3⟩ := slice_src h
  obtain ⟨rfl, rfl⟩ := repL_pStep_inv hs1
  have HX := Lib.hid (repL_pStep (o := true) (w := w) xs hxo)
  have HA := Lib.hid hs2
  have HK := Lib.hid hok
  clear h hs1 hs2 hs3 hxo hok
  by_cases hlt : 30 < xs.length + 1
  · have g1 : (30 : Int) < (xs.length : Int) + 1 := by omega
    have hp : Hid (pushS xs s = (xs ++ [s]).drop 1) := by show _ = _; simp [pushS, hlt]
    go_enter Try.func43, Try.ntmps43
    go_wp2_with (first
      | (at_builtin; refine wpList_append_rep (T := pStep) (e := 43) (ys := xs) rfl (.tmp 6) (.tmp 7) rfl Try.underlying29 Try.infoStep rfl (by decide) rfl (empty_at pStep _ _ (n := w.heap.size + 1) (by simp)) rfl (repL_alloc (repL_alloc HX.out _) _) ((HA.out.alloc _).alloc _) trivial (by simp) (by simp [maxLen]; omega) (by simp; omega) ?_; intro v2 w2 F2 r2 o2 q2; rw [List.nil_append] at r2; have RS := ((Row.new w 43 #[.int .i64 s.kind, .int .i64 s.line, .int .i64 s.pos, .string s.word, .string s.old]).alloc (.cells #[] 43)).only o2 (by simp); have k0 := RS.cell' (i := 0) rfl; have k1 := RS.cell' (i := 1) rfl; have k2 := RS.cell' (i := 2) rfl; have k3 := RS.cell' (i := 3) rfl; have k4 := RS.cell' (i := 4) rfl; have hz := o2.size; simp only [World.size_alloc] at hz; have hb2 : Below w.heap.size w w2 := (((Below.refl _ _).alloc (Nat.le_refl _) _).alloc (by simp) _).trans (o2.below (by simp <;> omega) (by simp)); have hf2 := q2 w.heap.size ⟨by simp, by simp⟩ (by simp <;> omega); have R2 := Lib.hid r2; clear r2)
      | (at_builtin; refine wpList_append_rep (T := pStep) (e := 43) (ys := [s]) rfl (.tmp 9) (.tmp 11) rfl Try.underlying29 Try.infoStep rfl (by decide) rfl (R2.out.alloc _) rfl (repL_pStep [s] (by simpa using HK.out)) (cellsAt_new _ _ _) trivial (by simpa using hf2.1) (by simp [maxLen]; omega) (by simp; omega) ?_; intro v3 w3 F3 r3 o3 q3; obtain ⟨A3, k3, hv3⟩ := slice_len r3; rw [show (xs ++ [s]).length = xs.length + 1 from by simp] at hv3; subst hv3; have hb3 : Below w.heap.size w w3 := below_only' (hb2.alloc (by omega) _) o3 hf2.2 (by simp; omega); have hf3 := q3 w.heap.size (by simpa using hf2) (by simp; omega); have R3 := Lib.hid r3; clear r3; obtain ⟨g, c3, he, hl3, hc3, F4, r4, n4⟩ := step_tail (xs := xs ++ [s]) (e := 43) R3.out (by simp; omega); simp only [Value.slice.injEq] at he; obtain ⟨rfl, -, rfl⟩ := he; simp only [List.length_append, List.length_cons, List.length_nil, Nat.zero_add] at hl3 r4; have hk1 : ¬ k3 = 1 := (by omega); unfold maxLen at hc3; have R4 := Lib.hid r4; have N4 := Lib.hid n4; clear r4 n4))
    go_ret
    exact ⟨_, _, rfl, by rw [hp.out]; exact R4.out, fun b hb => hf3.2 b (N4.out b hb), hb3⟩
  · have g1 : ¬ ((30 : Int) < (xs.length : Int) + 1) := by omega
    have hp : Hid (pushS xs s = xs ++ [s]) := by show _ = _; simp only [pushS]; rw [if_neg hlt]
    go_enter Try.func43, Try.ntmps43
    go_wp2_with (first
      | (at_builtin; refine wpList_append_rep (T := pStep) (e := 43) (ys := xs) rfl (.tmp 6) (.tmp 7) rfl Try.underlying29 Try.infoStep rfl (by decide) rfl (empty_at pStep _ _ (n := w.heap.size + 1) (by simp)) rfl (repL_alloc (repL_alloc HX.out _) _) ((HA.out.alloc _).alloc _) trivial (by simp) (by simp [maxLen]; omega) (by simp; omega) ?_; intro v2 w2 F2 r2 o2 q2; rw [List.nil_append] at r2; have RS := ((Row.new w 43 #[.int .i64 s.kind, .int .i64 s.line, .int .i64 s.pos, .string s.word, .string s.old]).alloc (.cells #[] 43)).only o2 (by simp); have k0 := RS.cell' (i := 0) rfl; have k1 := RS.cell' (i := 1) rfl; have k2 := RS.cell' (i := 2) rfl; have k3 := RS.cell' (i := 3) rfl; have k4 := RS.cell' (i := 4) rfl; have hz := o2.size; simp only [World.size_alloc] at hz; have hb2 : Below w.heap.size w w2 := (((Below.refl _ _).alloc (Nat.le_refl _) _).alloc (by simp) _).trans (o2.below (by simp <;> omega) (by simp)); have hf2 := q2 w.heap.size ⟨by simp, by simp⟩ (by simp <;> omega); have R2 := Lib.hid r2; clear r2)
      | (at_builtin; refine wpList_append_rep (T := pStep) (e := 43) (ys := [s]) rfl (.tmp 9) (.tmp 11) rfl Try.underlying29 Try.infoStep rfl (by decide) rfl (R2.out.alloc _) rfl (repL_pStep [s] (by simpa using HK.out)) (cellsAt_new _ _ _) trivial (by simpa using hf2.1) (by simp [maxLen]; omega) (by simp; omega) ?_; intro v3 w3 F3 r3 o3 q3; obtain ⟨A3, k3, hv3⟩ := slice_len r3; rw [show (xs ++ [s]).length = xs.length + 1 from by simp] at hv3; subst hv3; have hb3 : Below w.heap.size w w3 := below_only' (hb2.alloc (by omega) _) o3 hf2.2 (by simp; omega); have hf3 := q3 w.heap.size (by simpa using hf2) (by simp; omega); have R3 := Lib.hid r3; clear r3))
    go_ret
    exact ⟨_, _, rfl, by rw [hp.out]; exact ty_read R3.out, hf3.2, hb3⟩
end Go.Proofs.Ytiagikhgcblhnaa

/- Pages: one step done, in the reference. Conditions: none. -/
import Derived.Test.YtiagikhgcblhnaaPgDo2
namespace Go.Proofs.Ytiagikhgcblhnaa
open Go Go.RowKit

set_option maxRecDepth 100000 in
set_option maxHeartbeats 2000000 in
theorem spec_l27Do_c {el es : TypeId} {o : Bool} {p : PPage} {a b c : Value} {F1 F2 : List Nat} {gp gs : Nat} (s : PStep) (w : World) (hg : Row w gp 31 [a, b, c]) (hs : Row w gs 43 (pStepCells s)) (h1 : (pLines el).rep o w p.lines [a] F1) (h2 : (pSteps es).rep o w p.done [b] F2) (hok : LinesOk p.lines) (hc : Can p.lines s) (hso : pStepOk s) (hd : p.done.length ≤ 1000) :
    Calls Try.prog 55 #[.pointer (some ⟨gp, 0, none⟩), .pointer (some ⟨gs, 0, none⟩)] w (GivesPageR (doP p s) w) := by
  have HC := Lib.hid (fun w' (q : (pLines el).rep o w' p.lines [a] F1) (r : Row w' gs 43 (pStepCells s)) => spec_l27Apply_c s w' q r hok hc hso.2.2.2.1)
  have HD := Lib.hid (fun w' (q : (pSteps es).rep o w' p.done [b] F2) => spec_l27Push_c s w' q hd hso)
  obtain ⟨A1, k1, rfl⟩ := slice_len h1
  obtain ⟨A2, k2, rfl⟩ := slice_len h2
  have RP := (hg.alloc (.cells #[.slice none 0 0, .slice none 0 0, .slice none 0 0] 31)).drew
  have RS := (hs.alloc (.cells #[.slice none 0 0, .slice none 0 0, .slice none 0 0] 31)).drew
  have RO := (Row.new w 31 #[.slice none 0 0, .slice none 0 0, .slice none 0 0]).drew
  have bb : Below w.heap.size w (w.alloc (.cells #[.slice none 0 0, .slice none 0 0, .slice none 0 0] 31)).drew := ((Below.refl _ _).alloc (Nat.le_refl _) _).drew
  have sz : (w.alloc (.cells #[.slice none 0 0, .slice none 0 0, .slice none 0 0] 31)).drew.heap.size = w.heap.size + 1 := by simp
  have H1 := ((h1.alloc (.cells #[.slice none 0 0, .slice none 0 0, .slice none 0 0] 31)).drew)
  have H2 := ((h2.alloc (.cells #[.slice none 0 0, .slice none 0 0, .slice none 0 0] 31)).drew)
  have gl := hg.lt
  have gl2 := hs.lt
  clear h1 h2 hg hs
  have BS := BoxS.of RS
  unfold BoxS at BS
  have p0 := RP.cell' (i := 0) rfl
  have p1 := RP.cell' (i := 1) rfl
  have ng : ¬ gp = w.heap.size := by omega
  have ng2 : ¬ gs = w.heap.size := by omega
  have K3 : ∀ (w2 : World) (g i : Nat) (a b c u : Value), g ≠ w.heap.size → w2.cell? ⟨g, i, none⟩ = some u → (((w2.setCell ⟨w.heap.size, 0, none⟩ a).setCell ⟨w.heap.size, 1, none⟩ b).setCell ⟨w.heap.size, 2, none⟩ c).cell? ⟨g, i, none⟩ = some u := by
    intro w2 g i a b c u hne hu
    have hc : ∀ (w0 : World) (j : Nat) (x : Value), (w0.setCell ⟨w.heap.size, j, none⟩ x).cell? ⟨g, i, none⟩ = w0.cell? ⟨g, i, none⟩ := by
      intro w0 j x
      simp only [World.cell?]
      rw [Below.heap_setCell w0 ⟨w.heap.size, j, none⟩ x g hne]
    rw [hc, hc, hc]; exact hu
  go_enter Try.func55, Try.ntmps55
  go_wp2_with fail
  go_region_held3 (fun w' => w'.cell? ⟨gp, 0, none⟩ = some (.slice A1 p.lines.length k1) ∧ w'.cell? ⟨gp, 1, none⟩ = some (.slice A2 p.done.length k2) ∧ w'.cell? ⟨gs, 0, none⟩ = some (.int .i64 s.kind) ∧ w'.cell? ⟨gs, 1, none⟩ = some (.int .i64 s.line) ∧ w'.cell? ⟨gs, 2, none⟩ = some (.int .i64 s.pos) ∧ w'.cell? ⟨gs, 3, none⟩ = some (.string s.word) ∧ w'.cell? ⟨gs, 4, none⟩ = some (.string s.old)) (first | exact ⟨p0, p1, BS⟩ | exact ⟨t0, t1, TS⟩ | exact ⟨x0, x1, XS⟩ | exact ⟨K3 _ _ _ _ _ _ _ ng x0, K3 _ _ _ _ _ _ _ ng x1, K3 _ _ _ _ _ _ _ ng2 XS.1, K3 _ _ _ _ _ _ _ ng2 XS.2.1, K3 _ _ _ _ _ _ _ ng2 XS.2.2.1, K3 _ _ _ _ _ _ _ ng2 XS.2.2.2.1, K3 _ _ _ _ _ _ _ ng2 XS.2.2.2.2⟩) (first | (go_at_call 42; refine (HC.out _ H1 RS).mono ?_; rintro e w1 ⟨u1, G1, rfl, r1, f1, b1⟩; have RP1 := RP.later b1; have RS1 := RS.later b1; have RO1 := RO.later b1; have t0 := RP1.cell' (i := 0) rfl; have t1 := RP1.cell' (i := 1) rfl; have TS := BoxS.of RS1; unfold BoxS at TS; obtain ⟨B1, n1, m1, rfl⟩ := slice_form r1) | (go_at_call 43; refine (HD.out _ (H2.below b1)).mono ?_; rintro e w2 ⟨u2, G2, rfl, r2, f2, b2⟩; have RP2 := RP1.later b2; have RS2 := RS1.later b2; have RO2 := RO1.later b2; have x0 := RP2.cell' (i := 0) rfl; have x1 := RP2.cell' (i := 1) rfl; have XS := BoxS.of RS2; unfold BoxS at XS; have o0 := RO2.cell' (i := 0) rfl; have o1 := RO2.cell' (i := 1) rfl; have o2 := RO2.cell' (i := 2) rfl; have of := RO2.frozen; obtain ⟨B2, n2, m2, rfl⟩ := slice_form r2))
  go_wp2_with fail
  have s1 := b1.size
  have s2 := b2.size
  have n1' : w.heap.size ∉ G1 := fun hx => by have := f1.2 _ hx; omega
  have n2' : w.heap.size ∉ G2 := fun hx => by have := f2 _ hx; omega
  have TF := ((RO2.set 0 (.slice B1 n1 m1)).set 1 (.slice B2 n2 m2)).set 2 (.slice none 0 0)
  have e0 := TF.cell' (i := 0) rfl
  have e1 := TF.cell' (i := 1) rfl
  have e2 := TF.cell' (i := 2) rfl
  have y1 := ty_read (r1.below b2)
  refine bodyPost_ret (v := .agg #[.slice B1 n1 m1, .slice B2 n2 m2, .slice none 0 0]) (by simp only [results, Try.results55]; go_simp) rfl ⟨_, G1 ++ (G2 ++ []), rfl, PageIs.make (p := doP p s) (((y1.setCell n1' _).setCell n1' _).setCell n1' _) (((r2.setCell n2' _).setCell n2' _).setCell n2' _) (slice_nil _ _ _ _), ?_, set3 (bt (bb.trans (b1.mono bb.size)) b2) (by omega) _ _ _⟩
  intro x hx
  simp only [List.append_nil, List.mem_append] at hx
  rcases hx with hx | hx
  · have := f1.2 _ hx; omega
  · have := f2 _ hx; omega
end Go.Proofs.Ytiagikhgcblhnaa

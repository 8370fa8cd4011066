/- Pages: one step done. Conditions: none. -/
import Derived.Test.YtmopioaojdlnkaaDoorPgPushp
namespace Go.Proofs.YtmopioaojdlnkaaDoor
open Go Go.RowKit
def GivesPageR (p : PPage) (w : World) (e : Ending) (w' : World) : Prop := ∃ v F, e = .returned v ∧ PageIs 56 30 false w' p v F ∧ (∀ b ∈ F, w.heap.size ≤ b) ∧ Below w.heap.size w w'
def GivesN {α : Type} (T : Ty α) (a : α) (w : World) (e : Ending) (w' : World) : Prop := ∃ u F, e = .returned u ∧ T.rep false w' a [u] F ∧ (∀ b ∈ F, w.heap.size ≤ b) ∧ Below w.heap.size w w'
theorem PageIs.make {el es : TypeId} {o : Bool} {w : World} {p : PPage} {a b c : Value} {F1 F2 F3 : List Nat} (h1 : (pLines el).rep o w p.lines [a] F1) (h2 : (pSteps es).rep o w p.done [b] F2) (h3 : (pSteps es).rep o w p.undone [c] F3) : PageIs el es o w p (.agg #[a, b, c]) (F1 ++ (F2 ++ F3)) := ⟨a, b, c, F1, F2, F3, rfl, rfl, h1, h2, h3⟩
theorem ty_read {α : Type} {T : Ty α} {o : Bool} {w : World} {a : α} {cs : List Value} {F : List Nat} (h : T.rep o w a cs F) : T.rep false w a cs F := by
 cases o
 · exact h
 · exact T.read h
theorem set3 {B g : Nat} {w w' : World} (h : Below B w w') (hg : B ≤ g) (a b c : Value) : Below B w (((w'.setCell ⟨g, 0, none⟩ a).setCell ⟨g, 1, none⟩ b).setCell ⟨g, 2, none⟩ c) :=
 ((h.setCell (p := ⟨g, 0, none⟩) hg a).setCell (p := ⟨g, 1, none⟩) hg b).setCell (p := ⟨g, 2, none⟩) hg c
theorem Row.at' (w : World) (e : TypeId) (cs : List Value) {n : Nat} (hn : n = w.heap.size) : Row (w.alloc (.cells cs.toArray e)) n e cs := by
 subst hn; simpa using Row.new w e cs.toArray
set_option maxRecDepth 100000 in
set_option maxHeartbeats 2000000 in
theorem impl_doStep_c {el es : TypeId} {o : Bool} {p : PPage} {v : Value} {F : List Nat} (s : PStep) (w : World) (h : PageIs el es o w p v F) (hok : LinesOk p.lines) (hc : Can p.lines s) (hs : pStepOk s) (hd : p.done.length ≤ 1000) :
 Calls Tryd.prog 19 #[v, .agg #[.int .i64 s.kind, .int .i64 s.line, .int .i64 s.pos, .string s.word, .string s.old]] w (GivesPage (doP p s) w) := by
 obtain ⟨a, b, c, F1, F2, F3, rfl, rfl, h1, h2, h3⟩ := h
 clear h3
 have HC := Lib.hid (fun w' (q : (pLines el).rep o w' p.lines [a] F1) => impl_stepped_c s w' q hok hc hs.2.2.2.1)
 have HD := Lib.hid (fun w' (q : (pSteps es).rep o w' p.done [b] F2) => impl_pushed_c s w' q hd hs)
 obtain ⟨A1, k1, rfl⟩ := slice_len h1
 obtain ⟨A2, k2, rfl⟩ := slice_len h2
 have RP : Row (((w.alloc (.cells #[.slice A1 p.lines.length k1, .slice A2 p.done.length k2, c] 27)).alloc (.cells #[.int .i64 s.kind, .int .i64 s.line, .int .i64 s.pos, .string s.word, .string s.old] 30)).alloc (.cells #[.slice none 0 0, .slice none 0 0, .slice none 0 0] 27)).drew w.heap.size 27 [.slice A1 p.lines.length k1, .slice A2 p.done.length k2, c] := (((Row.at' w _ [_, _, _] rfl).alloc _).alloc _).drew
 have RS : Row (((w.alloc (.cells #[.slice A1 p.lines.length k1, .slice A2 p.done.length k2, c] 27)).alloc (.cells #[.int .i64 s.kind, .int .i64 s.line, .int .i64 s.pos, .string s.word, .string s.old] 30)).alloc (.cells #[.slice none 0 0, .slice none 0 0, .slice none 0 0] 27)).drew (w.heap.size + 1) 30 (pStepCells s) := ((Row.at' _ _ (pStepCells s) (by simp)).alloc _).drew
 have RO : Row (((w.alloc (.cells #[.slice A1 p.lines.length k1, .slice A2 p.done.length k2, c] 27)).alloc (.cells #[.int .i64 s.kind, .int .i64 s.line, .int .i64 s.pos, .string s.word, .string s.old] 30)).alloc (.cells #[.slice none 0 0, .slice none 0 0, .slice none 0 0] 27)).drew (w.heap.size + 1 + 1) 27 [.slice none 0 0, .slice none 0 0, .slice none 0 0] := (Row.at' _ _ [_, _, _] (by simp)).drew
 have bb : Below w.heap.size w (((w.alloc (.cells #[.slice A1 p.lines.length k1, .slice A2 p.done.length k2, c] 27)).alloc (.cells #[.int .i64 s.kind, .int .i64 s.line, .int .i64 s.pos, .string s.word, .string s.old] 30)).alloc (.cells #[.slice none 0 0, .slice none 0 0, .slice none 0 0] 27)).drew := ((((Below.refl _ _).alloc (Nat.le_refl _) _).alloc (by simp) _).alloc (by simp <;> omega) _).drew
 have sz : (((w.alloc (.cells #[.slice A1 p.lines.length k1, .slice A2 p.done.length k2, c] 27)).alloc (.cells #[.int .i64 s.kind, .int .i64 s.line, .int .i64 s.pos, .string s.word, .string s.old] 30)).alloc (.cells #[.slice none 0 0, .slice none 0 0, .slice none 0 0] 27)).drew.heap.size = w.heap.size + 3 := by simp
 have H1 := ((((h1.alloc (.cells #[.slice A1 p.lines.length k1, .slice A2 p.done.length k2, c] 27)).alloc (.cells #[.int .i64 s.kind, .int .i64 s.line, .int .i64 s.pos, .string s.word, .string s.old] 30)).alloc (.cells #[.slice none 0 0, .slice none 0 0, .slice none 0 0] 27)).drew)
 have H2 := ((((h2.alloc (.cells #[.slice A1 p.lines.length k1, .slice A2 p.done.length k2, c] 27)).alloc (.cells #[.int .i64 s.kind, .int .i64 s.line, .int .i64 s.pos, .string s.word, .string s.old] 30)).alloc (.cells #[.slice none 0 0, .slice none 0 0, .slice none 0 0] 27)).drew)
 clear h1 h2
 have BS := BoxS.of RS
 unfold BoxS at BS
 have p0 := RP.c0
 have p1 := RP.c1
 have nn : ¬ w.heap.size = w.heap.size + 1 + 1 := by omega
 have nn' : ¬ w.heap.size + 1 + 1 = w.heap.size := by omega
 go_enter Tryd.func19, Tryd.ntmps19
 go_wp2_with fail
 go_region_held3 (fun w' => w'.cell? ⟨w.heap.size, 0, none⟩ = some (.slice A1 p.lines.length k1) ∧ w'.cell? ⟨w.heap.size, 1, none⟩ = some (.slice A2 p.done.length k2) ∧ w'.cell? ⟨w.heap.size + 1, 0, none⟩ = some (.int .i64 s.kind) ∧ w'.cell? ⟨w.heap.size + 1, 1, none⟩ = some (.int .i64 s.line) ∧ w'.cell? ⟨w.heap.size + 1, 2, none⟩ = some (.int .i64 s.pos) ∧ w'.cell? ⟨w.heap.size + 1, 3, none⟩ = some (.string s.word) ∧ w'.cell? ⟨w.heap.size + 1, 4, none⟩ = some (.string s.old)) (first | exact ⟨p0, p1, BS⟩ | exact ⟨t0, t1, TS⟩ | exact ⟨x0, x1, XS⟩ | go_keep) (first | (go_at_call 20; refine (HC.out _ H1).mono ?_; rintro e w1 ⟨u1, G1, rfl, r1, f1, b1⟩; have RP1 := RP.later b1; have RS1 := RS.later b1; have RO1 := RO.later b1; have t0 := RP1.c0; have t1 := RP1.c1; have TS := BoxS.of RS1; unfold BoxS at TS; obtain ⟨B1, n1, m1, rfl⟩ := slice_form r1) | (go_at_call 23; refine (HD.out _ (H2.below b1)).mono ?_; rintro e w2 ⟨u2, G2, rfl, r2, f2, b2⟩; have RP2 := RP1.later b2; have RS2 := RS1.later b2; have RO2 := RO1.later b2; have x0 := RP2.c0; have x1 := RP2.c1; have XS := BoxS.of RS2; unfold BoxS at XS; have o0 := RO2.c0; have o1 := RO2.c1; have o2 := RO2.c2; have of := RO2.frozen; obtain ⟨B2, n2, m2, rfl⟩ := slice_form r2))
 clear t0 t1 TS x0 x1 XS BS p0 p1 RP RS RP1 RS1 RP2 RS2
 go_wp2_with fail
 have s1 := b1.size
 have s2 := b2.size
 have n1' : w.heap.size + 1 + 1 ∉ G1 := fun hx => by have := f1.2 _ hx; omega
 have n2' : w.heap.size + 1 + 1 ∉ G2 := fun hx => by have := f2.2 _ hx; omega
 have TF := ((RO2.set 0 (.slice B1 n1 m1)).set 1 (.slice B2 n2 m2)).set 2 (.slice none 0 0)
 have e0 := TF.c0
 have e1 := TF.c1
 have e2 := TF.c2
 have y1 := r1.below b2
 have t1 := r1.blocks
 refine bodyPost_ret (v := .agg #[.slice B1 n1 m1, .slice B2 n2 m2, .slice none 0 0]) (by simp only [results, Tryd.results19]; go_simp) rfl ⟨_, G1 ++ (G2 ++ []), rfl, PageIs.make (p := doP p s) (((y1.setCell n1' _).setCell n1' _).setCell n1' _) (((r2.setCell n2' _).setCell n2' _).setCell n2' _) (slice_nil _ _ _ _), ⟨?_, ?_⟩, set3 (bt (bb.trans (b1.mono bb.size)) b2) (by omega) _ _ _⟩
 · rw [List.append_nil]
   exact List.nodup_append.2 ⟨f1.1, f2.1, fun x hx y hy e => by subst e; have := t1 _ hx; have := f2.2 _ hy; omega⟩
 · intro x hx
   simp only [List.append_nil, List.mem_append] at hx
   rcases hx with hx | hx
   · have := f1.2 _ hx; omega
   · have := f2.2 _ hx; omega
end Go.Proofs.YtmopioaojdlnkaaDoor

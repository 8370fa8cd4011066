/- StartSession of the program and of the reference. Conditions: none. -/
import Derived.Test.YtkfadfddhbpngaaGreatSeOwn2v
import Derived.Test.YtkfadfddhbpngaaGreatTkv
import Derived.Test.YtkfadfddhbpngaaGreatSeOwnv
import Derived.Test.YtkfadfddhbpngaaGreatSeSetPv
namespace Go.Proofs.YtkfadfddhbpngaaGreat
open Go Go.RowKit

def nilSetup : PSetup := ⟨0, [], 0, 0, 0, [], 0, [], 0⟩
def nilSess : PSess := ⟨nilSetup, [], [], 0, []⟩
/-- What StartSession returns. -/
def startR (p : PSetup) : PSess × Int := if setupB p then (⟨p, [], [], 0, []⟩, 0) else (nilSess, 1)
theorem nilSess_is (I : Ids) (o : Bool) (w : World) : SessIs I o w nilSess (.agg #[.int .i64 0, .slice none 0 0, .int .i64 0, .int .i64 0, .int .i64 0, .slice none 0 0, .int .i64 0, .slice none 0 0, .int .i64 0, .slice none 0 0, .slice none 0 0, .int .i64 0, .slice none 0 0]) [] :=
 ⟨_, _, _, _, _, _, [], [], [], [], [], [], rfl, rfl, slice_nil _ _ _ _, slice_nil _ _ _ _, slice_nil _ _ _ _, slice_nil _ _ _ _, slice_nil _ _ _ _, slice_nil _ _ _ _⟩
theorem SetupIs.start {I : Ids} {o : Bool} {w : World} {p : PSetup} {F : List Nat} {c0 c1 c2 c3 c4 c5 c6 c7 c8 : Value} (h : SetupIs I o w p (.agg #[c0, c1, c2, c3, c4, c5, c6, c7, c8]) F) : SessIs I o w ⟨p, [], [], 0, []⟩ (.agg #[c0, c1, c2, c3, c4, c5, c6, c7, c8, .slice none 0 0, .slice none 0 0, .int .i64 0, .slice none 0 0]) F := by
 obtain ⟨a0, a1, a2, F0, F1, F2, he, rfl, h0, h1, h2⟩ := h
 simp only [Value.agg.injEq, Array.mk.injEq, List.cons.injEq, and_true, true_and] at he
 obtain ⟨rfl, rfl, rfl, rfl, rfl, rfl, rfl, rfl, rfl⟩ := he
 exact ⟨_, _, _, _, _, _, F0, F1, F2, [], [], [], rfl, by simp, h0, h1, h2, slice_nil _ _ _ _, slice_nil _ _ _ _, slice_nil _ _ _ _⟩
/-- A session in memory of its own, and a code. -/
def GivesSessC (r : PSess × Int) (w : World) (e : Ending) (w' : World) : Prop := ∃ v F, e = .returned (.tuple #[v, .int .i64 r.2]) ∧ SessIs idsI true w' r.1 v F ∧ Fresh w.heap.size F ∧ Below w.heap.size w w'

set_option maxRecDepth 100000 in
set_option maxHeartbeats 4000000 in
theorem impl_StartSession_p {I : Ids} {o : Bool} {p : PSetup} {v : Value} {F : List Nat} (w : World) (h : SetupIs I o w p v F) (hp : SeSmall p) (hb : SeBytes p) : Calls Tryz.prog 19 #[v] w (GivesSessC (startR p) w) := by
 obtain ⟨A0, k0, A1, k1, A2, k2, rfl⟩ := h.shape
 have R := (Row.new w 61 #[.int .i64 p.band, .slice A0 p.temps.length k0, .int .i64 p.points, .int .i64 p.most, .int .i64 p.pen, .slice A1 p.entries.length k1, .int .i64 p.dflt, .slice A2 p.bigrams.length k2, .int .i64 p.pause]).alloc (.cells #[.int .i64 0, .slice none 0 0, .int .i64 0, .int .i64 0, .int .i64 0, .slice none 0 0, .int .i64 0, .slice none 0 0, .int .i64 0, .slice none 0 0, .slice none 0 0, .int .i64 0, .slice none 0 0] 67)
 have O := Row.new (w.alloc (.cells #[.int .i64 p.band, .slice A0 p.temps.length k0, .int .i64 p.points, .int .i64 p.most, .int .i64 p.pen, .slice A1 p.entries.length k1, .int .i64 p.dflt, .slice A2 p.bigrams.length k2, .int .i64 p.pause] 61)) 67 #[.int .i64 0, .slice none 0 0, .int .i64 0, .int .i64 0, .int .i64 0, .slice none 0 0, .int .i64 0, .slice none 0 0, .int .i64 0, .slice none 0 0, .slice none 0 0, .int .i64 0, .slice none 0 0]
 simp only [World.size_alloc] at O
 have bb : Below w.heap.size w ((w.alloc (.cells #[.int .i64 p.band, .slice A0 p.temps.length k0, .int .i64 p.points, .int .i64 p.most, .int .i64 p.pen, .slice A1 p.entries.length k1, .int .i64 p.dflt, .slice A2 p.bigrams.length k2, .int .i64 p.pause] 61)).alloc (.cells #[.int .i64 0, .slice none 0 0, .int .i64 0, .int .i64 0, .int .i64 0, .slice none 0 0, .int .i64 0, .slice none 0 0, .int .i64 0, .slice none 0 0, .slice none 0 0, .int .i64 0, .slice none 0 0] 67)) := ((Below.refl _ _).alloc (Nat.le_refl _) _).alloc (by simp) _
 replace h := (h.alloc (.cells #[.int .i64 p.band, .slice A0 p.temps.length k0, .int .i64 p.points, .int .i64 p.most, .int .i64 p.pen, .slice A1 p.entries.length k1, .int .i64 p.dflt, .slice A2 p.bigrams.length k2, .int .i64 p.pause] 61)).alloc (.cells #[.int .i64 0, .slice none 0 0, .int .i64 0, .int .i64 0, .int .i64 0, .slice none 0 0, .int .i64 0, .slice none 0 0, .int .i64 0, .slice none 0 0, .slice none 0 0, .int .i64 0, .slice none 0 0] 67)
 have HV := impl_ValidSetup_p _ h hp hb
 cases hv : setupB p
 · rw [hv] at HV
   have HV := Lib.hid HV
   have hr : startR p = (nilSess, 1) := by simp [startR, hv]
   rw [hr]
   clear hr
   go_enter Tryz.func19, Tryz.ntmps19
   go_wp2_with fail
   refine HV.out.mono ?_
   rintro e w1 ⟨rfl, b1⟩
   replace bb := bt bb b1
   replace O := O.later b1
   replace R := R.later b1
   replace h := h.below b1
   clear HV
   have d0 := O.cell' (i := 0) rfl
   have d1 := O.cell' (i := 1) rfl
   have d2 := O.cell' (i := 2) rfl
   have d3 := O.cell' (i := 3) rfl
   have d4 := O.cell' (i := 4) rfl
   have d5 := O.cell' (i := 5) rfl
   have d6 := O.cell' (i := 6) rfl
   have d7 := O.cell' (i := 7) rfl
   have d8 := O.cell' (i := 8) rfl
   have d9 := O.cell' (i := 9) rfl
   have d10 := O.cell' (i := 10) rfl
   have d11 := O.cell' (i := 11) rfl
   have d12 := O.cell' (i := 12) rfl
   have df := O.frozen
   have lt := O.lt
   have onE := ((((((((((((((Only.refl [w.heap.size + 1] w1).set (p := ⟨w.heap.size + 1, 0, none⟩) (by simp) (.int .i64 0)).set (p := ⟨w.heap.size + 1, 1, none⟩) (by simp) (.slice none 0 0)).set (p := ⟨w.heap.size + 1, 2, none⟩) (by simp) (.int .i64 0)).set (p := ⟨w.heap.size + 1, 3, none⟩) (by simp) (.int .i64 0)).set (p := ⟨w.heap.size + 1, 4, none⟩) (by simp) (.int .i64 0)).set (p := ⟨w.heap.size + 1, 5, none⟩) (by simp) (.slice none 0 0)).set (p := ⟨w.heap.size + 1, 6, none⟩) (by simp) (.int .i64 0)).set (p := ⟨w.heap.size + 1, 7, none⟩) (by simp) (.slice none 0 0)).set (p := ⟨w.heap.size + 1, 8, none⟩) (by simp) (.int .i64 0)).set (p := ⟨w.heap.size + 1, 9, none⟩) (by simp) (.slice none 0 0)).set (p := ⟨w.heap.size + 1, 10, none⟩) (by simp) (.slice none 0 0)).set (p := ⟨w.heap.size + 1, 11, none⟩) (by simp) (.int .i64 0)).set (p := ⟨w.heap.size + 1, 12, none⟩) (by simp) (.slice none 0 0))
   have TF := (((((((((((((O.set 0 (.int .i64 0)).set 1 (.slice none 0 0)).set 2 (.int .i64 0)).set 3 (.int .i64 0)).set 4 (.int .i64 0)).set 5 (.slice none 0 0)).set 6 (.int .i64 0)).set 7 (.slice none 0 0)).set 8 (.int .i64 0)).set 9 (.slice none 0 0)).set 10 (.slice none 0 0)).set 11 (.int .i64 0)).set 12 (.slice none 0 0))
   have e0 := TF.cell' (i := 0) rfl
   have e1 := TF.cell' (i := 1) rfl
   have e2 := TF.cell' (i := 2) rfl
   have e3 := TF.cell' (i := 3) rfl
   have e4 := TF.cell' (i := 4) rfl
   have e5 := TF.cell' (i := 5) rfl
   have e6 := TF.cell' (i := 6) rfl
   have e7 := TF.cell' (i := 7) rfl
   have e8 := TF.cell' (i := 8) rfl
   have e9 := TF.cell' (i := 9) rfl
   have e10 := TF.cell' (i := 10) rfl
   have e11 := TF.cell' (i := 11) rfl
   have e12 := TF.cell' (i := 12) rfl
   have bE := bb.trans (onE.below bb.size (fun x hx => by simp at hx; omega))
   go_wp2_with fail
   refine bodyPost_ret (v := .tuple #[.agg #[.int .i64 0, .slice none 0 0, .int .i64 0, .int .i64 0, .int .i64 0, .slice none 0 0, .int .i64 0, .slice none 0 0, .int .i64 0, .slice none 0 0, .slice none 0 0, .int .i64 0, .slice none 0 0], .int .i64 1]) (by simp only [results, Tryz.results19]; go_simp) rfl ⟨_, _, rfl, nilSess_is _ _ _, Fresh.nil _, bE⟩
 · rw [hv] at HV
   have HV := Lib.hid HV
   have hr : startR p = (⟨p, [], [], 0, []⟩, 0) := by simp [startR, hv]
   rw [hr]
   clear hr
   go_enter Tryz.func19, Tryz.ntmps19
   go_wp2_with fail
   refine HV.out.mono ?_
   rintro e w1 ⟨rfl, b1⟩
   replace bb := bt bb b1
   replace O := O.later b1
   replace R := R.later b1
   replace h := h.below b1
   clear HV
   have c0 := R.cell' (i := 0) rfl
   have c1 := R.cell' (i := 1) rfl
   have c2 := R.cell' (i := 2) rfl
   have c3 := R.cell' (i := 3) rfl
   have c4 := R.cell' (i := 4) rfl
   have c5 := R.cell' (i := 5) rfl
   have c6 := R.cell' (i := 6) rfl
   have c7 := R.cell' (i := 7) rfl
   have c8 := R.cell' (i := 8) rfl
   go_wp2_with fail
   refine (impl_copySetup_p _ h hp).mono ?_
   rintro e w2 ⟨u, G, rfl, r, f, b2⟩
   obtain ⟨B0, j0, B1, j1, B2, j2, rfl⟩ := r.shape
   have lt1 := O.lt
   replace bb := bt bb b2
   replace O := O.later b2
   clear c0 c1 c2 c3 c4 c5 c6 c7 c8
   have d0 := O.cell' (i := 0) rfl
   have d1 := O.cell' (i := 1) rfl
   have d2 := O.cell' (i := 2) rfl
   have d3 := O.cell' (i := 3) rfl
   have d4 := O.cell' (i := 4) rfl
   have d5 := O.cell' (i := 5) rfl
   have d6 := O.cell' (i := 6) rfl
   have d7 := O.cell' (i := 7) rfl
   have d8 := O.cell' (i := 8) rfl
   have d9 := O.cell' (i := 9) rfl
   have d10 := O.cell' (i := 10) rfl
   have d11 := O.cell' (i := 11) rfl
   have d12 := O.cell' (i := 12) rfl
   have df := O.frozen
   have lt := O.lt
   have onE := ((((((((((((((Only.refl [w.heap.size + 1] w2).set (p := ⟨w.heap.size + 1, 0, none⟩) (by simp) (.int .i64 p.band)).set (p := ⟨w.heap.size + 1, 1, none⟩) (by simp) (.slice B0 p.temps.length j0)).set (p := ⟨w.heap.size + 1, 2, none⟩) (by simp) (.int .i64 p.points)).set (p := ⟨w.heap.size + 1, 3, none⟩) (by simp) (.int .i64 p.most)).set (p := ⟨w.heap.size + 1, 4, none⟩) (by simp) (.int .i64 p.pen)).set (p := ⟨w.heap.size + 1, 5, none⟩) (by simp) (.slice B1 p.entries.length j1)).set (p := ⟨w.heap.size + 1, 6, none⟩) (by simp) (.int .i64 p.dflt)).set (p := ⟨w.heap.size + 1, 7, none⟩) (by simp) (.slice B2 p.bigrams.length j2)).set (p := ⟨w.heap.size + 1, 8, none⟩) (by simp) (.int .i64 p.pause)).set (p := ⟨w.heap.size + 1, 9, none⟩) (by simp) (.slice none 0 0)).set (p := ⟨w.heap.size + 1, 10, none⟩) (by simp) (.slice none 0 0)).set (p := ⟨w.heap.size + 1, 11, none⟩) (by simp) (.int .i64 0)).set (p := ⟨w.heap.size + 1, 12, none⟩) (by simp) (.slice none 0 0))
   have TF := (((((((((((((O.set 0 (.int .i64 p.band)).set 1 (.slice B0 p.temps.length j0)).set 2 (.int .i64 p.points)).set 3 (.int .i64 p.most)).set 4 (.int .i64 p.pen)).set 5 (.slice B1 p.entries.length j1)).set 6 (.int .i64 p.dflt)).set 7 (.slice B2 p.bigrams.length j2)).set 8 (.int .i64 p.pause)).set 9 (.slice none 0 0)).set 10 (.slice none 0 0)).set 11 (.int .i64 0)).set 12 (.slice none 0 0))
   have e0 := TF.cell' (i := 0) rfl
   have e1 := TF.cell' (i := 1) rfl
   have e2 := TF.cell' (i := 2) rfl
   have e3 := TF.cell' (i := 3) rfl
   have e4 := TF.cell' (i := 4) rfl
   have e5 := TF.cell' (i := 5) rfl
   have e6 := TF.cell' (i := 6) rfl
   have e7 := TF.cell' (i := 7) rfl
   have e8 := TF.cell' (i := 8) rfl
   have e9 := TF.cell' (i := 9) rfl
   have e10 := TF.cell' (i := 10) rfl
   have e11 := TF.cell' (i := 11) rfl
   have e12 := TF.cell' (i := 12) rfl
   have bE := bb.trans (onE.below bb.size (fun x hx => by simp at hx; omega))
   have q := (r.only onE (fun x hx hin => by have := f.2 x hx; simp at hin; omega)).start
   go_wp2_with fail
   refine bodyPost_ret (v := .tuple #[.agg #[.int .i64 p.band, .slice B0 p.temps.length j0, .int .i64 p.points, .int .i64 p.most, .int .i64 p.pen, .slice B1 p.entries.length j1, .int .i64 p.dflt, .slice B2 p.bigrams.length j2, .int .i64 p.pause, .slice none 0 0, .slice none 0 0, .int .i64 0, .slice none 0 0], .int .i64 0]) (by simp only [results, Tryz.results19]; go_simp) rfl ⟨_, _, rfl, q, f.mono (by omega), bE⟩
end Go.Proofs.YtkfadfddhbpngaaGreat

/- copySetup of the program. Conditions: none. -/
import Derived.Test.YtkfadfddhbpngaaGreatSeOwnv
namespace Go.Proofs.YtkfadfddhbpngaaGreat
open Go Go.RowKit

set_option maxRecDepth 100000 in
set_option maxHeartbeats 4000000 in
theorem impl_copySetup_p {I : Ids} {o : Bool} {p : PSetup} {v : Value} {F : List Nat} (w : World) (h : SetupIs I o w p v F) (hp : SeSmall p) : Calls Tryz.prog 50 #[v] w (GivesSetup p w) := by
 obtain ⟨a0, a1, a2, F0, F1, F2, rfl, rfl, h0, h1, h2⟩ := h
 obtain ⟨A0, k0, rfl⟩ := slice_len h0
 have nd0 : ∀ x ∈ F0, x ∉ [w.heap.size] := fun x hx hin => by have := h0.blocks x hx; simp at hin; omega
 obtain ⟨A1, k1, rfl⟩ := slice_len h1
 have nd1 : ∀ x ∈ F1, x ∉ [w.heap.size] := fun x hx hin => by have := h1.blocks x hx; simp at hin; omega
 obtain ⟨A2, k2, rfl⟩ := slice_len h2
 have nd2 : ∀ x ∈ F2, x ∉ [w.heap.size] := fun x hx hin => by have := h2.blocks x hx; simp at hin; omega
 have R := (Row.new w 61 #[.int .i64 p.band, .slice A0 p.temps.length k0, .int .i64 p.points, .int .i64 p.most, .int .i64 p.pen, .slice A1 p.entries.length k1, .int .i64 p.dflt, .slice A2 p.bigrams.length k2, .int .i64 p.pause]).alloc (.cells #[.int .i64 0, .slice none 0 0, .int .i64 0, .int .i64 0, .int .i64 0, .slice none 0 0, .int .i64 0, .slice none 0 0, .int .i64 0] 61)
 have O := Row.new (w.alloc (.cells #[.int .i64 p.band, .slice A0 p.temps.length k0, .int .i64 p.points, .int .i64 p.most, .int .i64 p.pen, .slice A1 p.entries.length k1, .int .i64 p.dflt, .slice A2 p.bigrams.length k2, .int .i64 p.pause] 61)) 61 #[.int .i64 0, .slice none 0 0, .int .i64 0, .int .i64 0, .int .i64 0, .slice none 0 0, .int .i64 0, .slice none 0 0, .int .i64 0]
 simp only [World.size_alloc] at O
 have bb : Below w.heap.size w ((w.alloc (.cells #[.int .i64 p.band, .slice A0 p.temps.length k0, .int .i64 p.points, .int .i64 p.most, .int .i64 p.pen, .slice A1 p.entries.length k1, .int .i64 p.dflt, .slice A2 p.bigrams.length k2, .int .i64 p.pause] 61)).alloc (.cells #[.int .i64 0, .slice none 0 0, .int .i64 0, .int .i64 0, .int .i64 0, .slice none 0 0, .int .i64 0, .slice none 0 0, .int .i64 0] 61)) := ((Below.refl _ _).alloc (Nat.le_refl _) _).alloc (by simp) _
 replace h0 := (h0.alloc (.cells #[.int .i64 p.band, .slice A0 p.temps.length k0, .int .i64 p.points, .int .i64 p.most, .int .i64 p.pen, .slice A1 p.entries.length k1, .int .i64 p.dflt, .slice A2 p.bigrams.length k2, .int .i64 p.pause] 61)).alloc (.cells #[.int .i64 0, .slice none 0 0, .int .i64 0, .int .i64 0, .int .i64 0, .slice none 0 0, .int .i64 0, .slice none 0 0, .int .i64 0] 61)
 replace h1 := (h1.alloc (.cells #[.int .i64 p.band, .slice A0 p.temps.length k0, .int .i64 p.points, .int .i64 p.most, .int .i64 p.pen, .slice A1 p.entries.length k1, .int .i64 p.dflt, .slice A2 p.bigrams.length k2, .int .i64 p.pause] 61)).alloc (.cells #[.int .i64 0, .slice none 0 0, .int .i64 0, .int .i64 0, .int .i64 0, .slice none 0 0, .int .i64 0, .slice none 0 0, .int .i64 0] 61)
 replace h2 := (h2.alloc (.cells #[.int .i64 p.band, .slice A0 p.temps.length k0, .int .i64 p.points, .int .i64 p.most, .int .i64 p.pen, .slice A1 p.entries.length k1, .int .i64 p.dflt, .slice A2 p.bigrams.length k2, .int .i64 p.pause] 61)).alloc (.cells #[.int .i64 0, .slice none 0 0, .int .i64 0, .int .i64 0, .int .i64 0, .slice none 0 0, .int .i64 0, .slice none 0 0, .int .i64 0] 61)
 go_enter Tryz.func50, Tryz.ntmps50
 go_wp2_with fail
 refine (impl_copyStore_c (n := p.band) _ h0 hp.t hp.f).mono ?_
 rintro e w0 ⟨u0, G0, rfl, r0, f0, b0⟩
 obtain ⟨B0, j0, rfl⟩ := slice_len r0
 have bz0 := b0.size
 simp only [World.size_alloc] at bz0
 replace R := R.later b0
 replace O := O.later b0
 replace bb := bt bb b0
 replace h1 := h1.below b0
 replace h2 := h2.below b0
 have lt0 := bb.size
 have ol0 := O.lt
 have c0 := R.cell' (i := 0) rfl
 have c1 := R.cell' (i := 1) rfl
 have c2 := R.cell' (i := 2) rfl
 have c3 := R.cell' (i := 3) rfl
 have c4 := R.cell' (i := 4) rfl
 have c5 := R.cell' (i := 5) rfl
 have c6 := R.cell' (i := 6) rfl
 have c7 := R.cell' (i := 7) rfl
 have c8 := R.cell' (i := 8) rfl
 have cf := R.frozen
 have ng0 : ∀ x ∈ G0, x ∉ [w.heap.size] := fun x hx hin => by have := f0.2 x hx; simp at hin this; omega
 have ne0 : ∀ x ∈ G0, x ∉ [w.heap.size + 1] := fun x hx hin => by have := f0.2 x hx; simp at hin this; omega
 have on0 := (((Only.refl [w.heap.size] w0).set (p := ⟨w.heap.size, 0, none⟩) (by simp) (.int .i64 p.band)).set (p := ⟨w.heap.size, 1, none⟩) (by simp) (.slice B0 p.temps.length j0))
 have R' := ((R.set 0 (.int .i64 p.band)).set 1 (.slice B0 p.temps.length j0))
 have O' := ((O.far (p := ⟨w.heap.size, 0, none⟩) (by simp) (.int .i64 p.band)).far (p := ⟨w.heap.size, 1, none⟩) (by simp) (.slice B0 p.temps.length j0))
 have bb' := bb.trans (on0.below bb.size (fun x hx => by simp at hx; omega))
 have r0' := r0.only on0 ng0
 have h1' := h1.only on0 nd1
 have h2' := h2.only on0 nd2
 go_wp2_with fail
 replace R := R'
 replace O := O'
 replace bb := bb'
 clear R' O' bb'
 replace r0 := r0'
 clear r0'
 replace h1 := h1'
 clear h1'
 replace h2 := h2'
 clear h2'
 have FR := f0.mono (B' := w.heap.size) (by simp; omega)
 have hl0 : ∀ x ∈ G0, x < w0.heap.size := fun x hx => by have := r0.blocks x hx; simpa using this
 refine (Clone_Entry _ h1 hp.e pEntry_flat).mono ?_
 rintro e w1 ⟨u1, G1, rfl, r1, f1, b1⟩
 obtain ⟨B1, j1, rfl⟩ := slice_len r1
 clear c0 c1 c2 c3 c4 c5 c6 c7 c8 cf
 have bz1 := b1.size
 replace R := R.later b1
 replace O := O.later b1
 replace bb := bt bb b1
 replace r0 := r0.below b1
 replace h2 := h2.below b1
 have lt1 := bb.size
 have ol1 := O.lt
 have c0 := R.cell' (i := 0) rfl
 have c1 := R.cell' (i := 1) rfl
 have c2 := R.cell' (i := 2) rfl
 have c3 := R.cell' (i := 3) rfl
 have c4 := R.cell' (i := 4) rfl
 have c5 := R.cell' (i := 5) rfl
 have c6 := R.cell' (i := 6) rfl
 have c7 := R.cell' (i := 7) rfl
 have c8 := R.cell' (i := 8) rfl
 have cf := R.frozen
 have ng1 : ∀ x ∈ G1, x ∉ [w.heap.size] := fun x hx hin => by have := f1.2 x hx; simp at hin this; omega
 have ne1 : ∀ x ∈ G1, x ∉ [w.heap.size + 1] := fun x hx hin => by have := f1.2 x hx; simp at hin this; omega
 have on1 := ((Only.refl [w.heap.size] w1).set (p := ⟨w.heap.size, 5, none⟩) (by simp) (.slice B1 p.entries.length j1))
 have R' := (R.set 5 (.slice B1 p.entries.length j1))
 have O' := (O.far (p := ⟨w.heap.size, 5, none⟩) (by simp) (.slice B1 p.entries.length j1))
 have bb' := bb.trans (on1.below bb.size (fun x hx => by simp at hx; omega))
 have r0' := r0.only on1 ng0
 have r1' := r1.only on1 ng1
 have h2' := h2.only on1 nd2
 go_wp2_with fail
 replace R := R'
 replace O := O'
 replace bb := bb'
 clear R' O' bb'
 replace r0 := r0'
 clear r0'
 replace r1 := r1'
 clear r1'
 replace h2 := h2'
 clear h2'
 have hl1 : ∀ x ∈ G0 ++ G1, x < w1.heap.size := fun x hx => by
  rcases List.mem_append.1 hx with hx | hx
  · have := r0.blocks x hx; simpa using this
  · have := r1.blocks x hx; simpa using this
 replace FR := fresh_join FR hl0 (f1.mono (B' := w0.heap.size) (by simp)) (by omega)
 refine (Clone_Bigram _ h2 hp.b pBigram_flat).mono ?_
 rintro e w2 ⟨u2, G2, rfl, r2, f2, b2⟩
 obtain ⟨B2, j2, rfl⟩ := slice_len r2
 clear c0 c1 c2 c3 c4 c5 c6 c7 c8 cf
 have bz2 := b2.size
 replace R := R.later b2
 replace O := O.later b2
 replace bb := bt bb b2
 replace r0 := r0.below b2
 replace r1 := r1.below b2
 have lt2 := bb.size
 have ol2 := O.lt
 have c0 := R.cell' (i := 0) rfl
 have c1 := R.cell' (i := 1) rfl
 have c2 := R.cell' (i := 2) rfl
 have c3 := R.cell' (i := 3) rfl
 have c4 := R.cell' (i := 4) rfl
 have c5 := R.cell' (i := 5) rfl
 have c6 := R.cell' (i := 6) rfl
 have c7 := R.cell' (i := 7) rfl
 have c8 := R.cell' (i := 8) rfl
 have cf := R.frozen
 have d0 := O.cell' (i := 0) rfl
 have d1 := O.cell' (i := 1) rfl
 have d2 := O.cell' (i := 2) rfl
 have d3 := O.cell' (i := 3) rfl
 have d4 := O.cell' (i := 4) rfl
 have d5 := O.cell' (i := 5) rfl
 have d6 := O.cell' (i := 6) rfl
 have d7 := O.cell' (i := 7) rfl
 have d8 := O.cell' (i := 8) rfl
 have df := O.frozen
 have ng2 : ∀ x ∈ G2, x ∉ [w.heap.size] := fun x hx hin => by have := f2.2 x hx; simp at hin this; omega
 have ne2 : ∀ x ∈ G2, x ∉ [w.heap.size + 1] := fun x hx hin => by have := f2.2 x hx; simp at hin this; omega
 have on2 := ((Only.refl [w.heap.size] w2).set (p := ⟨w.heap.size, 7, none⟩) (by simp) (.slice B2 p.bigrams.length j2))
 have R' := (R.set 7 (.slice B2 p.bigrams.length j2))
 have O' := (O.far (p := ⟨w.heap.size, 7, none⟩) (by simp) (.slice B2 p.bigrams.length j2))
 have bb' := bb.trans (on2.below bb.size (fun x hx => by simp at hx; omega))
 have r0' := r0.only on2 ng0
 have r1' := r1.only on2 ng1
 have r2' := r2.only on2 ng2
 replace FR := fresh_join FR hl1 (f2.mono (B' := w1.heap.size) (by simp)) (by omega)
 have onE := ((((((((((Only.refl [w.heap.size + 1] (w2.setCell ⟨w.heap.size, 7, none⟩ (.slice B2 p.bigrams.length j2))).set (p := ⟨w.heap.size + 1, 0, none⟩) (by simp) (.int .i64 p.band)).set (p := ⟨w.heap.size + 1, 1, none⟩) (by simp) (.slice B0 p.temps.length j0)).set (p := ⟨w.heap.size + 1, 2, none⟩) (by simp) (.int .i64 p.points)).set (p := ⟨w.heap.size + 1, 3, none⟩) (by simp) (.int .i64 p.most)).set (p := ⟨w.heap.size + 1, 4, none⟩) (by simp) (.int .i64 p.pen)).set (p := ⟨w.heap.size + 1, 5, none⟩) (by simp) (.slice B1 p.entries.length j1)).set (p := ⟨w.heap.size + 1, 6, none⟩) (by simp) (.int .i64 p.dflt)).set (p := ⟨w.heap.size + 1, 7, none⟩) (by simp) (.slice B2 p.bigrams.length j2)).set (p := ⟨w.heap.size + 1, 8, none⟩) (by simp) (.int .i64 p.pause))
 have q0 := r0'.only onE ne0
 have q1 := r1'.only onE ne1
 have q2 := r2'.only onE ne2
 have TF := (((((((((O'.set 0 (.int .i64 p.band)).set 1 (.slice B0 p.temps.length j0)).set 2 (.int .i64 p.points)).set 3 (.int .i64 p.most)).set 4 (.int .i64 p.pen)).set 5 (.slice B1 p.entries.length j1)).set 6 (.int .i64 p.dflt)).set 7 (.slice B2 p.bigrams.length j2)).set 8 (.int .i64 p.pause))
 have e0 := TF.cell' (i := 0) rfl
 have e1 := TF.cell' (i := 1) rfl
 have e2 := TF.cell' (i := 2) rfl
 have e3 := TF.cell' (i := 3) rfl
 have e4 := TF.cell' (i := 4) rfl
 have e5 := TF.cell' (i := 5) rfl
 have e6 := TF.cell' (i := 6) rfl
 have e7 := TF.cell' (i := 7) rfl
 have e8 := TF.cell' (i := 8) rfl
 have bE := bb'.trans (onE.below bb'.size (fun x hx => by simp at hx; omega))
 clear R' O' r0' r1' r2' r0 r1 r2 on0 on1 on2 R O bb bb'
 go_wp2_with fail
 refine bodyPost_ret (v := .agg #[.int .i64 p.band, .slice B0 p.temps.length j0, .int .i64 p.points, .int .i64 p.most, .int .i64 p.pen, .slice B1 p.entries.length j1, .int .i64 p.dflt, .slice B2 p.bigrams.length j2, .int .i64 p.pause]) (by simp only [results, Tryz.results50]; go_simp) rfl ⟨_, _, rfl, ⟨_, _, _, G0, G1, G2, rfl, rfl, q0, q1, q2⟩, ?_, bE⟩
 simpa only [List.append_assoc] using FR
end Go.Proofs.YtkfadfddhbpngaaGreat

/- Store, Setting, Lexicon, Model, Setup, Session: the law's own to over them. Conditions: none. -/
import Derived.Test.YtkkignkoneeieaaTyTempm
namespace Go.Proofs.Ytkkignkoneeieaa
open Go Go.RowKit


set_option maxRecDepth 100000 in
set_option maxHeartbeats 4000000 in
theorem toStore_c {o : Bool} {pe e : TypeId} {n : Int} {xs : List PTemp} {v : Value} {F : List Nat} (w : World) (h : (pTemps pe e).rep o w xs [v] F) (hx : xs.length ≤ 1048576) (hxe : ∀ l ∈ xs, l.feats.length ≤ 1048576) :
    Calls Try.prog 19 #[.agg #[.int .i64 n, v]] w fun e w' => ∃ u G, e = .returned (.agg #[.int .i64 n, u]) ∧ (pTemps 146 117).rep true w' xs [u] G ∧ Fresh w.heap.size G ∧ Below w.heap.size w w' := by
  obtain ⟨Aa, ka, rfl⟩ := slice_len h
  have lb : ∀ x, x < w.heap.size → x ∉ [w.heap.size + 1, w.heap.size + 1 + 1] := fun x hx hin => by simp at hin; omega
  have ndh : ∀ x ∈ _, x ∉ [w.heap.size + 1, w.heap.size + 1 + 1] := fun x hx => lb x (h.blocks x hx)
  go_enter Try.func19, Try.ntmps19
  go_wp2_with fail
  have on1 := (Only.refl [w.heap.size + 1, w.heap.size + 1 + 1] (((w.alloc (.cells #[.int .i64 n, .slice Aa xs.length ka] 24)).alloc (.cells #[.int .i64 0, .slice none 0 0] 39)).alloc (.cells #[.int .i64 n, .slice none 0 0] 39)))
  replace h := (((h.alloc (.cells #[.int .i64 n, .slice Aa xs.length ka] 24)).alloc (.cells #[.int .i64 0, .slice none 0 0] 39)).alloc (.cells #[.int .i64 n, .slice none 0 0] 39))
  have R := (((Row.new w 24 #[.int .i64 n, .slice Aa xs.length ka]).alloc (.cells #[.int .i64 0, .slice none 0 0] 39)).alloc (.cells #[.int .i64 n, .slice none 0 0] 39))
  have T := ((Row.new (w.alloc (.cells #[.int .i64 n, .slice Aa xs.length ka] 24)) 39 #[.int .i64 0, .slice none 0 0]).alloc (.cells #[.int .i64 n, .slice none 0 0] 39))
  have O := Row.new ((w.alloc (.cells #[.int .i64 n, .slice Aa xs.length ka] 24)).alloc (.cells #[.int .i64 0, .slice none 0 0] 39)) 39 #[.int .i64 n, .slice none 0 0]
  simp only [World.size_alloc] at T O
  have bb : Below w.heap.size w (((w.alloc (.cells #[.int .i64 n, .slice Aa xs.length ka] 24)).alloc (.cells #[.int .i64 0, .slice none 0 0] 39)).alloc (.cells #[.int .i64 n, .slice none 0 0] 39)) := ((((Below.refl _ _).alloc (Nat.le_refl _) _).alloc (by simp) _).alloc (by simp; omega) _)
  have bbs : w.heap.size + 1 + 1 + 1 ≤ ((((w.alloc (.cells #[.int .i64 n, .slice Aa xs.length ka] 24)).alloc (.cells #[.int .i64 0, .slice none 0 0] 39)).alloc (.cells #[.int .i64 n, .slice none 0 0] 39))).heap.size := by simp
  replace h := h.only on1 ndh
  replace R := R.onl on1 (fun hin => by simp at hin <;> omega)
  replace bb := bb.trans (on1.below (by omega) (fun x hx => by simp at hx; omega))
  replace bbs := Nat.le_trans bbs on1.size
  refine (toTemplateS_c _ h hx hxe).mono ?_
  rintro e w1 ⟨u1_0, G1_0, rfl, r1_0, f1, b1⟩
  replace h := h.below b1
  replace R := R.later b1
  replace T := T.later b1
  replace O := O.later b1
  have bz1 := b1.size
  replace bb := bb.trans (b1.mono bb.size)
  obtain ⟨Au1_0, ku1_0, rfl⟩ := slice_len r1_0
  have FR := f1.mono (B' := w.heap.size) (by omega)
  have fl1 : ∀ x ∈ G1_0, w.heap.size + 1 + 1 + 1 ≤ x := fun x hx => Nat.le_trans bbs (f1.2 x hx)
  have ndr1_0 : ∀ x ∈ G1_0, x ∉ [w.heap.size + 1, w.heap.size + 1 + 1] := fun x hx hin => by have := fl1 x (by simp [hx]); simp at hin; omega
  replace bbs := Nat.le_trans bbs bz1
  have sz1 := bbs
  have qr0 := R.cell' (i := 0) rfl
  have qr1 := R.cell' (i := 1) rfl
  have qo0 := O.cell' (i := 0) rfl
  have qo1 := O.cell' (i := 1) rfl
  have qof := O.frozen
  have qt0 := T.cell' (i := 0) rfl
  have qt1 := T.cell' (i := 1) rfl
  have qtf := T.frozen
  go_wp2_with fail
  have onE := ((((Only.refl [w.heap.size + 1, w.heap.size + 1 + 1] w1).set (p := ⟨w.heap.size + 1 + 1, 1, none⟩) (by simp) (.slice Au1_0 xs.length ku1_0)).set (p := ⟨w.heap.size + 1, 0, none⟩) (by simp) (.int .i64 n)).set (p := ⟨w.heap.size + 1, 1, none⟩) (by simp) (.slice Au1_0 xs.length ku1_0))
  have TF := (((T.far (p := ⟨w.heap.size + 1 + 1, 1, none⟩) (by simp) (.slice Au1_0 xs.length ku1_0)).set 0 (.int .i64 n)).set 1 (.slice Au1_0 xs.length ku1_0))
  have e0 := TF.cell' (i := 0) rfl
  have e1 := TF.cell' (i := 1) rfl
  clear qr0 qr1 qo0 qo1 qt0 qt1 qof qtf
  replace r1_0 := r1_0.only onE ndr1_0
  have bE := bb.trans (onE.below bb.size (fun x hx => by simp at hx; omega))
  have hres : (.agg #[.int .i64 n, .slice Au1_0 xs.length ku1_0]) = (.agg #[.int .i64 n, .slice Au1_0 xs.length ku1_0] : Value) := rfl
  refine bodyPost_ret (v := .agg #[.int .i64 n, .slice Au1_0 xs.length ku1_0]) (by simp only [results, Try.results19]; go_simp) rfl ⟨_, G1_0, rfl, r1_0, ?_, bE⟩
  simpa only [List.append_assoc] using FR
set_option maxRecDepth 100000 in
set_option maxHeartbeats 4000000 in
theorem toLexicon_c {o : Bool} {e : TypeId} {xs : List PEntry} {v : Value} {F : List Nat} (w : World) (h : (pEntrys e).rep o w xs [v] F) (hx : xs.length ≤ 1048576) :
    Calls Try.prog 21 #[.agg #[v]] w fun e w' => ∃ u G, e = .returned (.agg #[u]) ∧ (pEntrys 120).rep true w' xs [u] G ∧ Fresh w.heap.size G ∧ Below w.heap.size w w' := by
  obtain ⟨Aa, ka, rfl⟩ := slice_len h
  have lb : ∀ x, x < w.heap.size → x ∉ [w.heap.size + 1, w.heap.size + 1 + 1] := fun x hx hin => by simp at hin; omega
  have ndh : ∀ x ∈ _, x ∉ [w.heap.size + 1, w.heap.size + 1 + 1] := fun x hx => lb x (h.blocks x hx)
  go_enter Try.func21, Try.ntmps21
  go_wp2_with fail
  have on1 := (Only.refl [w.heap.size + 1, w.heap.size + 1 + 1] (((w.alloc (.cells #[.slice Aa xs.length ka] 29)).alloc (.cells #[.slice none 0 0] 43)).alloc (.cells #[.slice none 0 0] 43)))
  replace h := (((h.alloc (.cells #[.slice Aa xs.length ka] 29)).alloc (.cells #[.slice none 0 0] 43)).alloc (.cells #[.slice none 0 0] 43))
  have R := (((Row.new w 29 #[.slice Aa xs.length ka]).alloc (.cells #[.slice none 0 0] 43)).alloc (.cells #[.slice none 0 0] 43))
  have T := ((Row.new (w.alloc (.cells #[.slice Aa xs.length ka] 29)) 43 #[.slice none 0 0]).alloc (.cells #[.slice none 0 0] 43))
  have O := Row.new ((w.alloc (.cells #[.slice Aa xs.length ka] 29)).alloc (.cells #[.slice none 0 0] 43)) 43 #[.slice none 0 0]
  simp only [World.size_alloc] at T O
  have bb : Below w.heap.size w (((w.alloc (.cells #[.slice Aa xs.length ka] 29)).alloc (.cells #[.slice none 0 0] 43)).alloc (.cells #[.slice none 0 0] 43)) := ((((Below.refl _ _).alloc (Nat.le_refl _) _).alloc (by simp) _).alloc (by simp; omega) _)
  have bbs : w.heap.size + 1 + 1 + 1 ≤ ((((w.alloc (.cells #[.slice Aa xs.length ka] 29)).alloc (.cells #[.slice none 0 0] 43)).alloc (.cells #[.slice none 0 0] 43))).heap.size := by simp
  replace h := h.only on1 ndh
  replace R := R.onl on1 (fun hin => by simp at hin <;> omega)
  replace bb := bb.trans (on1.below (by omega) (fun x hx => by simp at hx; omega))
  replace bbs := Nat.le_trans bbs on1.size
  refine (toEntryS_c _ h hx).mono ?_
  rintro e w1 ⟨u1_0, G1_0, rfl, r1_0, f1, b1⟩
  replace h := h.below b1
  replace R := R.later b1
  replace T := T.later b1
  replace O := O.later b1
  have bz1 := b1.size
  replace bb := bb.trans (b1.mono bb.size)
  obtain ⟨Au1_0, ku1_0, rfl⟩ := slice_len r1_0
  have FR := f1.mono (B' := w.heap.size) (by omega)
  have fl1 : ∀ x ∈ G1_0, w.heap.size + 1 + 1 + 1 ≤ x := fun x hx => Nat.le_trans bbs (f1.2 x hx)
  have ndr1_0 : ∀ x ∈ G1_0, x ∉ [w.heap.size + 1, w.heap.size + 1 + 1] := fun x hx hin => by have := fl1 x (by simp [hx]); simp at hin; omega
  replace bbs := Nat.le_trans bbs bz1
  have sz1 := bbs
  have qr0 := R.cell' (i := 0) rfl
  have qo0 := O.cell' (i := 0) rfl
  have qof := O.frozen
  have qt0 := T.cell' (i := 0) rfl
  have qtf := T.frozen
  go_wp2_with fail
  have onE := (((Only.refl [w.heap.size + 1, w.heap.size + 1 + 1] w1).set (p := ⟨w.heap.size + 1 + 1, 0, none⟩) (by simp) (.slice Au1_0 xs.length ku1_0)).set (p := ⟨w.heap.size + 1, 0, none⟩) (by simp) (.slice Au1_0 xs.length ku1_0))
  have TF := ((T.far (p := ⟨w.heap.size + 1 + 1, 0, none⟩) (by simp) (.slice Au1_0 xs.length ku1_0)).set 0 (.slice Au1_0 xs.length ku1_0))
  have e0 := TF.cell' (i := 0) rfl
  clear qr0 qo0 qt0 qof qtf
  replace r1_0 := r1_0.only onE ndr1_0
  have bE := bb.trans (onE.below bb.size (fun x hx => by simp at hx; omega))
  have hres : (.agg #[.slice Au1_0 xs.length ku1_0]) = (.agg #[.slice Au1_0 xs.length ku1_0] : Value) := rfl
  refine bodyPost_ret (v := .agg #[.slice Au1_0 xs.length ku1_0]) (by simp only [results, Try.results21]; go_simp) rfl ⟨_, G1_0, rfl, r1_0, ?_, bE⟩
  simpa only [List.append_assoc] using FR
set_option maxRecDepth 100000 in
set_option maxHeartbeats 4000000 in
theorem toModel_c {o : Bool} {e : TypeId} {n : Int} {xs : List PBigram} {v : Value} {F : List Nat} (w : World) (h : (pBigrams e).rep o w xs [v] F) (hx : xs.length ≤ 1048576) :
    Calls Try.prog 22 #[.agg #[.int .i64 n, v]] w fun e w' => ∃ u G, e = .returned (.agg #[.int .i64 n, u]) ∧ (pBigrams 124).rep true w' xs [u] G ∧ Fresh w.heap.size G ∧ Below w.heap.size w w' := by
  obtain ⟨Aa, ka, rfl⟩ := slice_len h
  have lb : ∀ x, x < w.heap.size → x ∉ [w.heap.size + 1, w.heap.size + 1 + 1] := fun x hx hin => by simp at hin; omega
  have ndh : ∀ x ∈ _, x ∉ [w.heap.size + 1, w.heap.size + 1 + 1] := fun x hx => lb x (h.blocks x hx)
  go_enter Try.func22, Try.ntmps22
  go_wp2_with fail
  have on1 := (Only.refl [w.heap.size + 1, w.heap.size + 1 + 1] (((w.alloc (.cells #[.int .i64 n, .slice Aa xs.length ka] 32)).alloc (.cells #[.int .i64 0, .slice none 0 0] 46)).alloc (.cells #[.int .i64 n, .slice none 0 0] 46)))
  replace h := (((h.alloc (.cells #[.int .i64 n, .slice Aa xs.length ka] 32)).alloc (.cells #[.int .i64 0, .slice none 0 0] 46)).alloc (.cells #[.int .i64 n, .slice none 0 0] 46))
  have R := (((Row.new w 32 #[.int .i64 n, .slice Aa xs.length ka]).alloc (.cells #[.int .i64 0, .slice none 0 0] 46)).alloc (.cells #[.int .i64 n, .slice none 0 0] 46))
  have T := ((Row.new (w.alloc (.cells #[.int .i64 n, .slice Aa xs.length ka] 32)) 46 #[.int .i64 0, .slice none 0 0]).alloc (.cells #[.int .i64 n, .slice none 0 0] 46))
  have O := Row.new ((w.alloc (.cells #[.int .i64 n, .slice Aa xs.length ka] 32)).alloc (.cells #[.int .i64 0, .slice none 0 0] 46)) 46 #[.int .i64 n, .slice none 0 0]
  simp only [World.size_alloc] at T O
  have bb : Below w.heap.size w (((w.alloc (.cells #[.int .i64 n, .slice Aa xs.length ka] 32)).alloc (.cells #[.int .i64 0, .slice none 0 0] 46)).alloc (.cells #[.int .i64 n, .slice none 0 0] 46)) := ((((Below.refl _ _).alloc (Nat.le_refl _) _).alloc (by simp) _).alloc (by simp; omega) _)
  have bbs : w.heap.size + 1 + 1 + 1 ≤ ((((w.alloc (.cells #[.int .i64 n, .slice Aa xs.length ka] 32)).alloc (.cells #[.int .i64 0, .slice none 0 0] 46)).alloc (.cells #[.int .i64 n, .slice none 0 0] 46))).heap.size := by simp
  replace h := h.only on1 ndh
  replace R := R.onl on1 (fun hin => by simp at hin <;> omega)
  replace bb := bb.trans (on1.below (by omega) (fun x hx => by simp at hx; omega))
  replace bbs := Nat.le_trans bbs on1.size
  refine (toBigramS_c _ h hx).mono ?_
  rintro e w1 ⟨u1_0, G1_0, rfl, r1_0, f1, b1⟩
  replace h := h.below b1
  replace R := R.later b1
  replace T := T.later b1
  replace O := O.later b1
  have bz1 := b1.size
  replace bb := bb.trans (b1.mono bb.size)
  obtain ⟨Au1_0, ku1_0, rfl⟩ := slice_len r1_0
  have FR := f1.mono (B' := w.heap.size) (by omega)
  have fl1 : ∀ x ∈ G1_0, w.heap.size + 1 + 1 + 1 ≤ x := fun x hx => Nat.le_trans bbs (f1.2 x hx)
  have ndr1_0 : ∀ x ∈ G1_0, x ∉ [w.heap.size + 1, w.heap.size + 1 + 1] := fun x hx hin => by have := fl1 x (by simp [hx]); simp at hin; omega
  replace bbs := Nat.le_trans bbs bz1
  have sz1 := bbs
  have qr0 := R.cell' (i := 0) rfl
  have qr1 := R.cell' (i := 1) rfl
  have qo0 := O.cell' (i := 0) rfl
  have qo1 := O.cell' (i := 1) rfl
  have qof := O.frozen
  have qt0 := T.cell' (i := 0) rfl
  have qt1 := T.cell' (i := 1) rfl
  have qtf := T.frozen
  go_wp2_with fail
  have onE := ((((Only.refl [w.heap.size + 1, w.heap.size + 1 + 1] w1).set (p := ⟨w.heap.size + 1 + 1, 1, none⟩) (by simp) (.slice Au1_0 xs.length ku1_0)).set (p := ⟨w.heap.size + 1, 0, none⟩) (by simp) (.int .i64 n)).set (p := ⟨w.heap.size + 1, 1, none⟩) (by simp) (.slice Au1_0 xs.length ku1_0))
  have TF := (((T.far (p := ⟨w.heap.size + 1 + 1, 1, none⟩) (by simp) (.slice Au1_0 xs.length ku1_0)).set 0 (.int .i64 n)).set 1 (.slice Au1_0 xs.length ku1_0))
  have e0 := TF.cell' (i := 0) rfl
  have e1 := TF.cell' (i := 1) rfl
  clear qr0 qr1 qo0 qo1 qt0 qt1 qof qtf
  replace r1_0 := r1_0.only onE ndr1_0
  have bE := bb.trans (onE.below bb.size (fun x hx => by simp at hx; omega))
  have hres : (.agg #[.int .i64 n, .slice Au1_0 xs.length ku1_0]) = (.agg #[.int .i64 n, .slice Au1_0 xs.length ku1_0] : Value) := rfl
  refine bodyPost_ret (v := .agg #[.int .i64 n, .slice Au1_0 xs.length ku1_0]) (by simp only [results, Try.results22]; go_simp) rfl ⟨_, G1_0, rfl, r1_0, ?_, bE⟩
  simpa only [List.append_assoc] using FR
set_option maxRecDepth 100000 in
set_option maxHeartbeats 4000000 in
theorem toSetup_c {o : Bool} {ef et ee eb : TypeId} {p : PSetup} {a b c : Value} {F1 F2 F3 : List Nat} (w : World) (h1 : (pTemps ef et).rep o w p.temps [a] F1) (h2 : (pEntrys ee).rep o w p.entries [b] F2) (h3 : (pBigrams eb).rep o w p.bigrams [c] F3) (hp : SeSmall p) :
    Calls Try.prog 7 #[.agg #[.int .i64 p.band, a, .int .i64 p.points, .int .i64 p.most, .int .i64 p.pen, b, .int .i64 p.dflt, c, .int .i64 p.pause]] w fun e w' => ∃ a' b' c' G1 G2 G3, e = .returned (.agg #[.int .i64 p.band, a', .int .i64 p.points, .int .i64 p.most, .int .i64 p.pen, b', .int .i64 p.dflt, c', .int .i64 p.pause]) ∧ (pTemps 146 117).rep true w' p.temps [a'] G1 ∧ (pEntrys 120).rep true w' p.entries [b'] G2 ∧ (pBigrams 124).rep true w' p.bigrams [c'] G3 ∧ Fresh w.heap.size (G1 ++ (G2 ++ G3)) ∧ Below w.heap.size w w' := by
  obtain ⟨Aa, ka, rfl⟩ := slice_len h1
  obtain ⟨Ab, kb, rfl⟩ := slice_len h2
  obtain ⟨Ac, kc, rfl⟩ := slice_len h3
  have lb : ∀ x, x < w.heap.size → x ∉ [w.heap.size + 1, w.heap.size + 1 + 1] := fun x hx hin => by simp at hin; omega
  have ndh1 : ∀ x ∈ _, x ∉ [w.heap.size + 1, w.heap.size + 1 + 1] := fun x hx => lb x (h1.blocks x hx)
  have ndh2 : ∀ x ∈ _, x ∉ [w.heap.size + 1, w.heap.size + 1 + 1] := fun x hx => lb x (h2.blocks x hx)
  have ndh3 : ∀ x ∈ _, x ∉ [w.heap.size + 1, w.heap.size + 1 + 1] := fun x hx => lb x (h3.blocks x hx)
  go_enter Try.func7, Try.ntmps7
  go_wp2_with fail
  have on1 := (Only.refl [w.heap.size + 1, w.heap.size + 1 + 1] (((w.alloc (.cells #[.int .i64 p.band, .slice Aa p.temps.length ka, .int .i64 p.points, .int .i64 p.most, .int .i64 p.pen, .slice Ab p.entries.length kb, .int .i64 p.dflt, .slice Ac p.bigrams.length kc, .int .i64 p.pause] 34)).alloc (.cells #[.int .i64 0, .slice none 0 0, .int .i64 0, .int .i64 0, .int .i64 0, .slice none 0 0, .int .i64 0, .slice none 0 0, .int .i64 0] 48)).alloc (.cells #[.int .i64 0, .slice none 0 0, .int .i64 0, .int .i64 0, .int .i64 0, .slice none 0 0, .int .i64 0, .slice none 0 0, .int .i64 0] 48)))
  replace h1 := (((h1.alloc (.cells #[.int .i64 p.band, .slice Aa p.temps.length ka, .int .i64 p.points, .int .i64 p.most, .int .i64 p.pen, .slice Ab p.entries.length kb, .int .i64 p.dflt, .slice Ac p.bigrams.length kc, .int .i64 p.pause] 34)).alloc (.cells #[.int .i64 0, .slice none 0 0, .int .i64 0, .int .i64 0, .int .i64 0, .slice none 0 0, .int .i64 0, .slice none 0 0, .int .i64 0] 48)).alloc (.cells #[.int .i64 0, .slice none 0 0, .int .i64 0, .int .i64 0, .int .i64 0, .slice none 0 0, .int .i64 0, .slice none 0 0, .int .i64 0] 48))
  replace h2 := (((h2.alloc (.cells #[.int .i64 p.band, .slice Aa p.temps.length ka, .int .i64 p.points, .int .i64 p.most, .int .i64 p.pen, .slice Ab p.entries.length kb, .int .i64 p.dflt, .slice Ac p.bigrams.length kc, .int .i64 p.pause] 34)).alloc (.cells #[.int .i64 0, .slice none 0 0, .int .i64 0, .int .i64 0, .int .i64 0, .slice none 0 0, .int .i64 0, .slice none 0 0, .int .i64 0] 48)).alloc (.cells #[.int .i64 0, .slice none 0 0, .int .i64 0, .int .i64 0, .int .i64 0, .slice none 0 0, .int .i64 0, .slice none 0 0, .int .i64 0] 48))
  replace h3 := (((h3.alloc (.cells #[.int .i64 p.band, .slice Aa p.temps.length ka, .int .i64 p.points, .int .i64 p.most, .int .i64 p.pen, .slice Ab p.entries.length kb, .int .i64 p.dflt, .slice Ac p.bigrams.length kc, .int .i64 p.pause] 34)).alloc (.cells #[.int .i64 0, .slice none 0 0, .int .i64 0, .int .i64 0, .int .i64 0, .slice none 0 0, .int .i64 0, .slice none 0 0, .int .i64 0] 48)).alloc (.cells #[.int .i64 0, .slice none 0 0, .int .i64 0, .int .i64 0, .int .i64 0, .slice none 0 0, .int .i64 0, .slice none 0 0, .int .i64 0] 48))
  have R := (((Row.new w 34 #[.int .i64 p.band, .slice Aa p.temps.length ka, .int .i64 p.points, .int .i64 p.most, .int .i64 p.pen, .slice Ab p.entries.length kb, .int .i64 p.dflt, .slice Ac p.bigrams.length kc, .int .i64 p.pause]).alloc (.cells #[.int .i64 0, .slice none 0 0, .int .i64 0, .int .i64 0, .int .i64 0, .slice none 0 0, .int .i64 0, .slice none 0 0, .int .i64 0] 48)).alloc (.cells #[.int .i64 0, .slice none 0 0, .int .i64 0, .int .i64 0, .int .i64 0, .slice none 0 0, .int .i64 0, .slice none 0 0, .int .i64 0] 48))
  have T := ((Row.new (w.alloc (.cells #[.int .i64 p.band, .slice Aa p.temps.length ka, .int .i64 p.points, .int .i64 p.most, .int .i64 p.pen, .slice Ab p.entries.length kb, .int .i64 p.dflt, .slice Ac p.bigrams.length kc, .int .i64 p.pause] 34)) 48 #[.int .i64 0, .slice none 0 0, .int .i64 0, .int .i64 0, .int .i64 0, .slice none 0 0, .int .i64 0, .slice none 0 0, .int .i64 0]).alloc (.cells #[.int .i64 0, .slice none 0 0, .int .i64 0, .int .i64 0, .int .i64 0, .slice none 0 0, .int .i64 0, .slice none 0 0, .int .i64 0] 48))
  have O := Row.new ((w.alloc (.cells #[.int .i64 p.band, .slice Aa p.temps.length ka, .int .i64 p.points, .int .i64 p.most, .int .i64 p.pen, .slice Ab p.entries.length kb, .int .i64 p.dflt, .slice Ac p.bigrams.length kc, .int .i64 p.pause] 34)).alloc (.cells #[.int .i64 0, .slice none 0 0, .int .i64 0, .int .i64 0, .int .i64 0, .slice none 0 0, .int .i64 0, .slice none 0 0, .int .i64 0] 48)) 48 #[.int .i64 0, .slice none 0 0, .int .i64 0, .int .i64 0, .int .i64 0, .slice none 0 0, .int .i64 0, .slice none 0 0, .int .i64 0]
  simp only [World.size_alloc] at T O
  have bb : Below w.heap.size w (((w.alloc (.cells #[.int .i64 p.band, .slice Aa p.temps.length ka, .int .i64 p.points, .int .i64 p.most, .int .i64 p.pen, .slice Ab p.entries.length kb, .int .i64 p.dflt, .slice Ac p.bigrams.length kc, .int .i64 p.pause] 34)).alloc (.cells #[.int .i64 0, .slice none 0 0, .int .i64 0, .int .i64 0, .int .i64 0, .slice none 0 0, .int .i64 0, .slice none 0 0, .int .i64 0] 48)).alloc (.cells #[.int .i64 0, .slice none 0 0, .int .i64 0, .int .i64 0, .int .i64 0, .slice none 0 0, .int .i64 0, .slice none 0 0, .int .i64 0] 48)) := ((((Below.refl _ _).alloc (Nat.le_refl _) _).alloc (by simp) _).alloc (by simp; omega) _)
  have bbs : w.heap.size + 1 + 1 + 1 ≤ ((((w.alloc (.cells #[.int .i64 p.band, .slice Aa p.temps.length ka, .int .i64 p.points, .int .i64 p.most, .int .i64 p.pen, .slice Ab p.entries.length kb, .int .i64 p.dflt, .slice Ac p.bigrams.length kc, .int .i64 p.pause] 34)).alloc (.cells #[.int .i64 0, .slice none 0 0, .int .i64 0, .int .i64 0, .int .i64 0, .slice none 0 0, .int .i64 0, .slice none 0 0, .int .i64 0] 48)).alloc (.cells #[.int .i64 0, .slice none 0 0, .int .i64 0, .int .i64 0, .int .i64 0, .slice none 0 0, .int .i64 0, .slice none 0 0, .int .i64 0] 48))).heap.size := by simp
  replace h1 := h1.only on1 ndh1
  replace h2 := h2.only on1 ndh2
  replace h3 := h3.only on1 ndh3
  replace R := R.onl on1 (fun hin => by simp at hin <;> omega)
  replace bb := bb.trans (on1.below (by omega) (fun x hx => by simp at hx; omega))
  replace bbs := Nat.le_trans bbs on1.size
  refine (toStore_c (n := p.band) _ h1 hp.t hp.f).mono ?_
  rintro e w1 ⟨u1_0, G1_0, rfl, r1_0, f1, b1⟩
  replace h1 := h1.below b1
  replace h2 := h2.below b1
  replace h3 := h3.below b1
  replace R := R.later b1
  replace T := T.later b1
  replace O := O.later b1
  have bz1 := b1.size
  replace bb := bb.trans (b1.mono bb.size)
  obtain ⟨Au1_0, ku1_0, rfl⟩ := slice_len r1_0
  have FR := f1.mono (B' := w.heap.size) (by omega)
  have fl1 : ∀ x ∈ G1_0, w.heap.size + 1 + 1 + 1 ≤ x := fun x hx => Nat.le_trans bbs (f1.2 x hx)
  have ndr1_0 : ∀ x ∈ G1_0, x ∉ [w.heap.size + 1, w.heap.size + 1 + 1] := fun x hx hin => by have := fl1 x (by simp [hx]); simp at hin; omega
  replace bbs := Nat.le_trans bbs bz1
  have sz1 := bbs
  have qr0 := R.cell' (i := 0) rfl
  have qr1 := R.cell' (i := 1) rfl
  have qr2 := R.cell' (i := 2) rfl
  have qr3 := R.cell' (i := 3) rfl
  have qr4 := R.cell' (i := 4) rfl
  have qr5 := R.cell' (i := 5) rfl
  have qr6 := R.cell' (i := 6) rfl
  have qr7 := R.cell' (i := 7) rfl
  have qr8 := R.cell' (i := 8) rfl
  have qo0 := O.cell' (i := 0) rfl
  have qo1 := O.cell' (i := 1) rfl
  have qo2 := O.cell' (i := 2) rfl
  have qo3 := O.cell' (i := 3) rfl
  have qo4 := O.cell' (i := 4) rfl
  have qo5 := O.cell' (i := 5) rfl
  have qo6 := O.cell' (i := 6) rfl
  have qo7 := O.cell' (i := 7) rfl
  have qo8 := O.cell' (i := 8) rfl
  have qof := O.frozen
  go_wp2_with fail
  have on2 := (((Only.refl [w.heap.size + 1, w.heap.size + 1 + 1] w1).set (p := ⟨w.heap.size + 1 + 1, 0, none⟩) (by simp) (.int .i64 p.band)).set (p := ⟨w.heap.size + 1 + 1, 1, none⟩) (by simp) (.slice Au1_0 p.temps.length ku1_0))
  replace h1 := h1.only on2 ndh1
  replace h2 := h2.only on2 ndh2
  replace h3 := h3.only on2 ndh3
  replace r1_0 := r1_0.only on2 ndr1_0
  replace R := R.onl on2 (fun hin => by simp at hin <;> omega)
  replace T := T.far (p := ⟨w.heap.size + 1 + 1, 0, none⟩) (by simp) (.int .i64 p.band)
  replace O := O.set 0 (.int .i64 p.band)
  replace T := T.far (p := ⟨w.heap.size + 1 + 1, 1, none⟩) (by simp) (.slice Au1_0 p.temps.length ku1_0)
  replace O := O.set 1 (.slice Au1_0 p.temps.length ku1_0)
  replace bb := bb.trans (on2.below (by omega) (fun x hx => by simp at hx; omega))
  replace bbs := Nat.le_trans bbs on2.size
  refine (toSetting_c ⟨p.points, p.most, p.pen⟩ _).mono ?_
  rintro e w2 ⟨rfl, b2⟩
  clear qr0 qr1 qr2 qr3 qr4 qr5 qr6 qr7 qr8 qo0 qo1 qo2 qo3 qo4 qo5 qo6 qo7 qo8 qof
  replace h1 := h1.below b2
  replace h2 := h2.below b2
  replace h3 := h3.below b2
  replace r1_0 := r1_0.below b2
  replace R := R.later b2
  replace T := T.later b2
  replace O := O.later b2
  have bz2 := b2.size
  replace bb := bb.trans (b2.mono bb.size)
  replace bbs := Nat.le_trans bbs bz2
  have sz2 := bbs
  have qr0 := R.cell' (i := 0) rfl
  have qr1 := R.cell' (i := 1) rfl
  have qr2 := R.cell' (i := 2) rfl
  have qr3 := R.cell' (i := 3) rfl
  have qr4 := R.cell' (i := 4) rfl
  have qr5 := R.cell' (i := 5) rfl
  have qr6 := R.cell' (i := 6) rfl
  have qr7 := R.cell' (i := 7) rfl
  have qr8 := R.cell' (i := 8) rfl
  have qo0 := O.cell' (i := 0) rfl
  have qo1 := O.cell' (i := 1) rfl
  have qo2 := O.cell' (i := 2) rfl
  have qo3 := O.cell' (i := 3) rfl
  have qo4 := O.cell' (i := 4) rfl
  have qo5 := O.cell' (i := 5) rfl
  have qo6 := O.cell' (i := 6) rfl
  have qo7 := O.cell' (i := 7) rfl
  have qo8 := O.cell' (i := 8) rfl
  have qof := O.frozen
  go_wp2_with fail
  have on3 := ((((Only.refl [w.heap.size + 1, w.heap.size + 1 + 1] w2).set (p := ⟨w.heap.size + 1 + 1, 2, none⟩) (by simp) (.int .i64 p.points)).set (p := ⟨w.heap.size + 1 + 1, 3, none⟩) (by simp) (.int .i64 p.most)).set (p := ⟨w.heap.size + 1 + 1, 4, none⟩) (by simp) (.int .i64 p.pen))
  replace h1 := h1.only on3 ndh1
  replace h2 := h2.only on3 ndh2
  replace h3 := h3.only on3 ndh3
  replace r1_0 := r1_0.only on3 ndr1_0
  replace R := R.onl on3 (fun hin => by simp at hin <;> omega)
  replace T := T.far (p := ⟨w.heap.size + 1 + 1, 2, none⟩) (by simp) (.int .i64 p.points)
  replace O := O.set 2 (.int .i64 p.points)
  replace T := T.far (p := ⟨w.heap.size + 1 + 1, 3, none⟩) (by simp) (.int .i64 p.most)
  replace O := O.set 3 (.int .i64 p.most)
  replace T := T.far (p := ⟨w.heap.size + 1 + 1, 4, none⟩) (by simp) (.int .i64 p.pen)
  replace O := O.set 4 (.int .i64 p.pen)
  replace bb := bb.trans (on3.below (by omega) (fun x hx => by simp at hx; omega))
  replace bbs := Nat.le_trans bbs on3.size
  have hl3 : ∀ x ∈ G1_0, x < _ := fun x hx => by
    repeat' (rcases List.mem_append.1 hx with hx | hx)
    all_goals first | exact r1_0.blocks x hx
  refine (toLexicon_c _ h2 hp.e).mono ?_
  rintro e w3 ⟨u3_0, G3_0, rfl, r3_0, f3, b3⟩
  clear qr0 qr1 qr2 qr3 qr4 qr5 qr6 qr7 qr8 qo0 qo1 qo2 qo3 qo4 qo5 qo6 qo7 qo8 qof
  replace h1 := h1.below b3
  replace h2 := h2.below b3
  replace h3 := h3.below b3
  replace r1_0 := r1_0.below b3
  replace R := R.later b3
  replace T := T.later b3
  replace O := O.later b3
  have bz3 := b3.size
  replace bb := bb.trans (b3.mono bb.size)
  obtain ⟨Au3_0, ku3_0, rfl⟩ := slice_len r3_0
  replace FR := fresh_join FR hl3 f3 (by omega)
  have fl3 : ∀ x ∈ G3_0, w.heap.size + 1 + 1 + 1 ≤ x := fun x hx => Nat.le_trans bbs (f3.2 x hx)
  have ndr3_0 : ∀ x ∈ G3_0, x ∉ [w.heap.size + 1, w.heap.size + 1 + 1] := fun x hx hin => by have := fl3 x (by simp [hx]); simp at hin; omega
  replace bbs := Nat.le_trans bbs bz3
  have sz3 := bbs
  have qr0 := R.cell' (i := 0) rfl
  have qr1 := R.cell' (i := 1) rfl
  have qr2 := R.cell' (i := 2) rfl
  have qr3 := R.cell' (i := 3) rfl
  have qr4 := R.cell' (i := 4) rfl
  have qr5 := R.cell' (i := 5) rfl
  have qr6 := R.cell' (i := 6) rfl
  have qr7 := R.cell' (i := 7) rfl
  have qr8 := R.cell' (i := 8) rfl
  have qo0 := O.cell' (i := 0) rfl
  have qo1 := O.cell' (i := 1) rfl
  have qo2 := O.cell' (i := 2) rfl
  have qo3 := O.cell' (i := 3) rfl
  have qo4 := O.cell' (i := 4) rfl
  have qo5 := O.cell' (i := 5) rfl
  have qo6 := O.cell' (i := 6) rfl
  have qo7 := O.cell' (i := 7) rfl
  have qo8 := O.cell' (i := 8) rfl
  have qof := O.frozen
  go_wp2_with fail
  have on4 := ((Only.refl [w.heap.size + 1, w.heap.size + 1 + 1] w3).set (p := ⟨w.heap.size + 1 + 1, 5, none⟩) (by simp) (.slice Au3_0 p.entries.length ku3_0))
  replace h1 := h1.only on4 ndh1
  replace h2 := h2.only on4 ndh2
  replace h3 := h3.only on4 ndh3
  replace r1_0 := r1_0.only on4 ndr1_0
  replace r3_0 := r3_0.only on4 ndr3_0
  replace R := R.onl on4 (fun hin => by simp at hin <;> omega)
  replace T := T.far (p := ⟨w.heap.size + 1 + 1, 5, none⟩) (by simp) (.slice Au3_0 p.entries.length ku3_0)
  replace O := O.set 5 (.slice Au3_0 p.entries.length ku3_0)
  replace bb := bb.trans (on4.below (by omega) (fun x hx => by simp at hx; omega))
  replace bbs := Nat.le_trans bbs on4.size
  have hl4 : ∀ x ∈ (G1_0) ++ (G3_0), x < _ := fun x hx => by
    repeat' (rcases List.mem_append.1 hx with hx | hx)
    all_goals first | exact r1_0.blocks x hx | exact r3_0.blocks x hx
  refine (toModel_c (n := p.dflt) _ h3 hp.b).mono ?_
  rintro e w4 ⟨u4_0, G4_0, rfl, r4_0, f4, b4⟩
  clear qr0 qr1 qr2 qr3 qr4 qr5 qr6 qr7 qr8 qo0 qo1 qo2 qo3 qo4 qo5 qo6 qo7 qo8 qof
  replace h1 := h1.below b4
  replace h2 := h2.below b4
  replace h3 := h3.below b4
  replace r1_0 := r1_0.below b4
  replace r3_0 := r3_0.below b4
  replace R := R.later b4
  replace T := T.later b4
  replace O := O.later b4
  have bz4 := b4.size
  replace bb := bb.trans (b4.mono bb.size)
  obtain ⟨Au4_0, ku4_0, rfl⟩ := slice_len r4_0
  replace FR := fresh_join FR hl4 f4 (by omega)
  have fl4 : ∀ x ∈ G4_0, w.heap.size + 1 + 1 + 1 ≤ x := fun x hx => Nat.le_trans bbs (f4.2 x hx)
  have ndr4_0 : ∀ x ∈ G4_0, x ∉ [w.heap.size + 1, w.heap.size + 1 + 1] := fun x hx hin => by have := fl4 x (by simp [hx]); simp at hin; omega
  replace bbs := Nat.le_trans bbs bz4
  have sz4 := bbs
  have qr0 := R.cell' (i := 0) rfl
  have qr1 := R.cell' (i := 1) rfl
  have qr2 := R.cell' (i := 2) rfl
  have qr3 := R.cell' (i := 3) rfl
  have qr4 := R.cell' (i := 4) rfl
  have qr5 := R.cell' (i := 5) rfl
  have qr6 := R.cell' (i := 6) rfl
  have qr7 := R.cell' (i := 7) rfl
  have qr8 := R.cell' (i := 8) rfl
  have qo0 := O.cell' (i := 0) rfl
  have qo1 := O.cell' (i := 1) rfl
  have qo2 := O.cell' (i := 2) rfl
  have qo3 := O.cell' (i := 3) rfl
  have qo4 := O.cell' (i := 4) rfl
  have qo5 := O.cell' (i := 5) rfl
  have qo6 := O.cell' (i := 6) rfl
  have qo7 := O.cell' (i := 7) rfl
  have qo8 := O.cell' (i := 8) rfl
  have qof := O.frozen
  have qt0 := T.cell' (i := 0) rfl
  have qt1 := T.cell' (i := 1) rfl
  have qt2 := T.cell' (i := 2) rfl
  have qt3 := T.cell' (i := 3) rfl
  have qt4 := T.cell' (i := 4) rfl
  have qt5 := T.cell' (i := 5) rfl
  have qt6 := T.cell' (i := 6) rfl
  have qt7 := T.cell' (i := 7) rfl
  have qt8 := T.cell' (i := 8) rfl
  have qtf := T.frozen
  go_wp2_with fail
  have onE := (((((((((((((Only.refl [w.heap.size + 1, w.heap.size + 1 + 1] w4).set (p := ⟨w.heap.size + 1 + 1, 6, none⟩) (by simp) (.int .i64 p.dflt)).set (p := ⟨w.heap.size + 1 + 1, 7, none⟩) (by simp) (.slice Au4_0 p.bigrams.length ku4_0)).set (p := ⟨w.heap.size + 1 + 1, 8, none⟩) (by simp) (.int .i64 p.pause)).set (p := ⟨w.heap.size + 1, 0, none⟩) (by simp) (.int .i64 p.band)).set (p := ⟨w.heap.size + 1, 1, none⟩) (by simp) (.slice Au1_0 p.temps.length ku1_0)).set (p := ⟨w.heap.size + 1, 2, none⟩) (by simp) (.int .i64 p.points)).set (p := ⟨w.heap.size + 1, 3, none⟩) (by simp) (.int .i64 p.most)).set (p := ⟨w.heap.size + 1, 4, none⟩) (by simp) (.int .i64 p.pen)).set (p := ⟨w.heap.size + 1, 5, none⟩) (by simp) (.slice Au3_0 p.entries.length ku3_0)).set (p := ⟨w.heap.size + 1, 6, none⟩) (by simp) (.int .i64 p.dflt)).set (p := ⟨w.heap.size + 1, 7, none⟩) (by simp) (.slice Au4_0 p.bigrams.length ku4_0)).set (p := ⟨w.heap.size + 1, 8, none⟩) (by simp) (.int .i64 p.pause))
  have TF := ((((((((((((T.far (p := ⟨w.heap.size + 1 + 1, 6, none⟩) (by simp) (.int .i64 p.dflt)).far (p := ⟨w.heap.size + 1 + 1, 7, none⟩) (by simp) (.slice Au4_0 p.bigrams.length ku4_0)).far (p := ⟨w.heap.size + 1 + 1, 8, none⟩) (by simp) (.int .i64 p.pause)).set 0 (.int .i64 p.band)).set 1 (.slice Au1_0 p.temps.length ku1_0)).set 2 (.int .i64 p.points)).set 3 (.int .i64 p.most)).set 4 (.int .i64 p.pen)).set 5 (.slice Au3_0 p.entries.length ku3_0)).set 6 (.int .i64 p.dflt)).set 7 (.slice Au4_0 p.bigrams.length ku4_0)).set 8 (.int .i64 p.pause))
  have e0 := TF.cell' (i := 0) rfl
  have e1 := TF.cell' (i := 1) rfl
  have e2 := TF.cell' (i := 2) rfl
  have e3 := TF.cell' (i := 3) rfl
  have e4 := TF.cell' (i := 4) rfl
  have e5 := TF.cell' (i := 5) rfl
  have e6 := TF.cell' (i := 6) rfl
  have e7 := TF.cell' (i := 7) rfl
  have e8 := TF.cell' (i := 8) rfl
  clear qr0 qr1 qr2 qr3 qr4 qr5 qr6 qr7 qr8 qo0 qo1 qo2 qo3 qo4 qo5 qo6 qo7 qo8 qt0 qt1 qt2 qt3 qt4 qt5 qt6 qt7 qt8 qof qtf
  replace r1_0 := r1_0.only onE ndr1_0
  replace r3_0 := r3_0.only onE ndr3_0
  replace r4_0 := r4_0.only onE ndr4_0
  have bE := bb.trans (onE.below bb.size (fun x hx => by simp at hx; omega))
  have hres : (.agg #[.int .i64 p.band, .slice Au1_0 p.temps.length ku1_0, .int .i64 p.points, .int .i64 p.most, .int .i64 p.pen, .slice Au3_0 p.entries.length ku3_0, .int .i64 p.dflt, .slice Au4_0 p.bigrams.length ku4_0, .int .i64 p.pause]) = (.agg #[.int .i64 p.band, .slice Au1_0 p.temps.length ku1_0, .int .i64 p.points, .int .i64 p.most, .int .i64 p.pen, .slice Au3_0 p.entries.length ku3_0, .int .i64 p.dflt, .slice Au4_0 p.bigrams.length ku4_0, .int .i64 p.pause] : Value) := rfl
  refine bodyPost_ret (v := .agg #[.int .i64 p.band, .slice Au1_0 p.temps.length ku1_0, .int .i64 p.points, .int .i64 p.most, .int .i64 p.pen, .slice Au3_0 p.entries.length ku3_0, .int .i64 p.dflt, .slice Au4_0 p.bigrams.length ku4_0, .int .i64 p.pause]) (by simp only [results, Try.results7]; go_simp) rfl ⟨_, _, _, G1_0, G3_0, G4_0, rfl, r1_0, r3_0, r4_0, ?_, bE⟩
  simpa only [List.append_assoc] using FR
set_option maxRecDepth 100000 in
set_option maxHeartbeats 8000000 in
theorem toSession_c {o : Bool} {ef et ee eb pe es ep : TypeId} {q : PSess} {a b c d g x : Value} {F1 F2 F3 F4 F5 F6 : List Nat} (w : World) (h1 : (pTemps ef et).rep o w q.setup.temps [a] F1) (h2 : (pEntrys ee).rep o w q.setup.entries [b] F2) (h3 : (pBigrams eb).rep o w q.setup.bigrams [c] F3) (h4 : (pStrokes pe es).rep o w q.strokes [d] F4) (h5 : (pPoints ep).rep o w q.opn [g] F5) (h6 : (strs 9).rep o w q.words [x] F6) (hp : SsSmall q) :
    Calls Try.prog 12 #[.agg #[.int .i64 q.setup.band, a, .int .i64 q.setup.points, .int .i64 q.setup.most, .int .i64 q.setup.pen, b, .int .i64 q.setup.dflt, c, .int .i64 q.setup.pause, d, g, .int .i64 q.time, x]] w fun e w' => ∃ a' b' c' d' g' x' G1 G2 G3 G4 G5 G6, e = .returned (.agg #[.int .i64 q.setup.band, a', .int .i64 q.setup.points, .int .i64 q.setup.most, .int .i64 q.setup.pen, b', .int .i64 q.setup.dflt, c', .int .i64 q.setup.pause, d', g', .int .i64 q.time, x']) ∧ (pTemps 146 117).rep true w' q.setup.temps [a'] G1 ∧ (pEntrys 120).rep true w' q.setup.entries [b'] G2 ∧ (pBigrams 124).rep true w' q.setup.bigrams [c'] G3 ∧ (pStrokes 98 135).rep true w' q.strokes [d'] G4 ∧ (pPoints 98).rep true w' q.opn [g'] G5 ∧ (strs 9).rep true w' q.words [x'] G6 ∧ Fresh w.heap.size (G1 ++ (G2 ++ (G3 ++ (G4 ++ (G5 ++ G6))))) ∧ Below w.heap.size w w' := by
  obtain ⟨Aa, ka, rfl⟩ := slice_len h1
  obtain ⟨Ab, kb, rfl⟩ := slice_len h2
  obtain ⟨Ac, kc, rfl⟩ := slice_len h3
  obtain ⟨Ad, kd, rfl⟩ := slice_len h4
  obtain ⟨Ag, kg, rfl⟩ := slice_len h5
  obtain ⟨Ax, kx, rfl⟩ := slice_len h6
  have lb : ∀ x, x < w.heap.size → x ∉ [w.heap.size + 1, w.heap.size + 1 + 1] := fun x hx hin => by simp at hin; omega
  have ndh1 : ∀ x ∈ _, x ∉ [w.heap.size + 1, w.heap.size + 1 + 1] := fun x hx => lb x (h1.blocks x hx)
  have ndh2 : ∀ x ∈ _, x ∉ [w.heap.size + 1, w.heap.size + 1 + 1] := fun x hx => lb x (h2.blocks x hx)
  have ndh3 : ∀ x ∈ _, x ∉ [w.heap.size + 1, w.heap.size + 1 + 1] := fun x hx => lb x (h3.blocks x hx)
  have ndh4 : ∀ x ∈ _, x ∉ [w.heap.size + 1, w.heap.size + 1 + 1] := fun x hx => lb x (h4.blocks x hx)
  have ndh5 : ∀ x ∈ _, x ∉ [w.heap.size + 1, w.heap.size + 1 + 1] := fun x hx => lb x (h5.blocks x hx)
  have ndh6 : ∀ x ∈ _, x ∉ [w.heap.size + 1, w.heap.size + 1 + 1] := fun x hx => lb x (h6.blocks x hx)
  go_enter Try.func12, Try.ntmps12
  go_wp2_with fail
  have on1 := (Only.refl [w.heap.size + 1, w.heap.size + 1 + 1] (((w.alloc (.cells #[.int .i64 q.setup.band, .slice Aa q.setup.temps.length ka, .int .i64 q.setup.points, .int .i64 q.setup.most, .int .i64 q.setup.pen, .slice Ab q.setup.entries.length kb, .int .i64 q.setup.dflt, .slice Ac q.setup.bigrams.length kc, .int .i64 q.setup.pause, .slice Ad q.strokes.length kd, .slice Ag q.opn.length kg, .int .i64 q.time, .slice Ax q.words.length kx] 58)).alloc (.cells #[.int .i64 0, .slice none 0 0, .int .i64 0, .int .i64 0, .int .i64 0, .slice none 0 0, .int .i64 0, .slice none 0 0, .int .i64 0, .slice none 0 0, .slice none 0 0, .int .i64 0, .slice none 0 0] 66)).alloc (.cells #[.int .i64 0, .slice none 0 0, .int .i64 0, .int .i64 0, .int .i64 0, .slice none 0 0, .int .i64 0, .slice none 0 0, .int .i64 0, .slice none 0 0, .slice none 0 0, .int .i64 0, .slice none 0 0] 66)))
  replace h1 := (((h1.alloc (.cells #[.int .i64 q.setup.band, .slice Aa q.setup.temps.length ka, .int .i64 q.setup.points, .int .i64 q.setup.most, .int .i64 q.setup.pen, .slice Ab q.setup.entries.length kb, .int .i64 q.setup.dflt, .slice Ac q.setup.bigrams.length kc, .int .i64 q.setup.pause, .slice Ad q.strokes.length kd, .slice Ag q.opn.length kg, .int .i64 q.time, .slice Ax q.words.length kx] 58)).alloc (.cells #[.int .i64 0, .slice none 0 0, .int .i64 0, .int .i64 0, .int .i64 0, .slice none 0 0, .int .i64 0, .slice none 0 0, .int .i64 0, .slice none 0 0, .slice none 0 0, .int .i64 0, .slice none 0 0] 66)).alloc (.cells #[.int .i64 0, .slice none 0 0, .int .i64 0, .int .i64 0, .int .i64 0, .slice none 0 0, .int .i64 0, .slice none 0 0, .int .i64 0, .slice none 0 0, .slice none 0 0, .int .i64 0, .slice none 0 0] 66))
  replace h2 := (((h2.alloc (.cells #[.int .i64 q.setup.band, .slice Aa q.setup.temps.length ka, .int .i64 q.setup.points, .int .i64 q.setup.most, .int .i64 q.setup.pen, .slice Ab q.setup.entries.length kb, .int .i64 q.setup.dflt, .slice Ac q.setup.bigrams.length kc, .int .i64 q.setup.pause, .slice Ad q.strokes.length kd, .slice Ag q.opn.length kg, .int .i64 q.time, .slice Ax q.words.length kx] 58)).alloc (.cells #[.int .i64 0, .slice none 0 0, .int .i64 0, .int .i64 0, .int .i64 0, .slice none 0 0, .int .i64 0, .slice none 0 0, .int .i64 0, .slice none 0 0, .slice none 0 0, .int .i64 0, .slice none 0 0] 66)).alloc (.cells #[.int .i64 0, .slice none 0 0, .int .i64 0, .int .i64 0, .int .i64 0, .slice none 0 0, .int .i64 0, .slice none 0 0, .int .i64 0, .slice none 0 0, .slice none 0 0, .int .i64 0, .slice none 0 0] 66))
  replace h3 := (((h3.alloc (.cells #[.int .i64 q.setup.band, .slice Aa q.setup.temps.length ka, .int .i64 q.setup.points, .int .i64 q.setup.most, .int .i64 q.setup.pen, .slice Ab q.setup.entries.length kb, .int .i64 q.setup.dflt, .slice Ac q.setup.bigrams.length kc, .int .i64 q.setup.pause, .slice Ad q.strokes.length kd, .slice Ag q.opn.length kg, .int .i64 q.time, .slice Ax q.words.length kx] 58)).alloc (.cells #[.int .i64 0, .slice none 0 0, .int .i64 0, .int .i64 0, .int .i64 0, .slice none 0 0, .int .i64 0, .slice none 0 0, .int .i64 0, .slice none 0 0, .slice none 0 0, .int .i64 0, .slice none 0 0] 66)).alloc (.cells #[.int .i64 0, .slice none 0 0, .int .i64 0, .int .i64 0, .int .i64 0, .slice none 0 0, .int .i64 0, .slice none 0 0, .int .i64 0, .slice none 0 0, .slice none 0 0, .int .i64 0, .slice none 0 0] 66))
  replace h4 := (((h4.alloc (.cells #[.int .i64 q.setup.band, .slice Aa q.setup.temps.length ka, .int .i64 q.setup.points, .int .i64 q.setup.most, .int .i64 q.setup.pen, .slice Ab q.setup.entries.length kb, .int .i64 q.setup.dflt, .slice Ac q.setup.bigrams.length kc, .int .i64 q.setup.pause, .slice Ad q.strokes.length kd, .slice Ag q.opn.length kg, .int .i64 q.time, .slice Ax q.words.length kx] 58)).alloc (.cells #[.int .i64 0, .slice none 0 0, .int .i64 0, .int .i64 0, .int .i64 0, .slice none 0 0, .int .i64 0, .slice none 0 0, .int .i64 0, .slice none 0 0, .slice none 0 0, .int .i64 0, .slice none 0 0] 66)).alloc (.cells #[.int .i64 0, .slice none 0 0, .int .i64 0, .int .i64 0, .int .i64 0, .slice none 0 0, .int .i64 0, .slice none 0 0, .int .i64 0, .slice none 0 0, .slice none 0 0, .int .i64 0, .slice none 0 0] 66))
  replace h5 := (((h5.alloc (.cells #[.int .i64 q.setup.band, .slice Aa q.setup.temps.length ka, .int .i64 q.setup.points, .int .i64 q.setup.most, .int .i64 q.setup.pen, .slice Ab q.setup.entries.length kb, .int .i64 q.setup.dflt, .slice Ac q.setup.bigrams.length kc, .int .i64 q.setup.pause, .slice Ad q.strokes.length kd, .slice Ag q.opn.length kg, .int .i64 q.time, .slice Ax q.words.length kx] 58)).alloc (.cells #[.int .i64 0, .slice none 0 0, .int .i64 0, .int .i64 0, .int .i64 0, .slice none 0 0, .int .i64 0, .slice none 0 0, .int .i64 0, .slice none 0 0, .slice none 0 0, .int .i64 0, .slice none 0 0] 66)).alloc (.cells #[.int .i64 0, .slice none 0 0, .int .i64 0, .int .i64 0, .int .i64 0, .slice none 0 0, .int .i64 0, .slice none 0 0, .int .i64 0, .slice none 0 0, .slice none 0 0, .int .i64 0, .slice none 0 0] 66))
  replace h6 := (((h6.alloc (.cells #[.int .i64 q.setup.band, .slice Aa q.setup.temps.length ka, .int .i64 q.setup.points, .int .i64 q.setup.most, .int .i64 q.setup.pen, .slice Ab q.setup.entries.length kb, .int .i64 q.setup.dflt, .slice Ac q.setup.bigrams.length kc, .int .i64 q.setup.pause, .slice Ad q.strokes.length kd, .slice Ag q.opn.length kg, .int .i64 q.time, .slice Ax q.words.length kx] 58)).alloc (.cells #[.int .i64 0, .slice none 0 0, .int .i64 0, .int .i64 0, .int .i64 0, .slice none 0 0, .int .i64 0, .slice none 0 0, .int .i64 0, .slice none 0 0, .slice none 0 0, .int .i64 0, .slice none 0 0] 66)).alloc (.cells #[.int .i64 0, .slice none 0 0, .int .i64 0, .int .i64 0, .int .i64 0, .slice none 0 0, .int .i64 0, .slice none 0 0, .int .i64 0, .slice none 0 0, .slice none 0 0, .int .i64 0, .slice none 0 0] 66))
  have R := (((Row.new w 58 #[.int .i64 q.setup.band, .slice Aa q.setup.temps.length ka, .int .i64 q.setup.points, .int .i64 q.setup.most, .int .i64 q.setup.pen, .slice Ab q.setup.entries.length kb, .int .i64 q.setup.dflt, .slice Ac q.setup.bigrams.length kc, .int .i64 q.setup.pause, .slice Ad q.strokes.length kd, .slice Ag q.opn.length kg, .int .i64 q.time, .slice Ax q.words.length kx]).alloc (.cells #[.int .i64 0, .slice none 0 0, .int .i64 0, .int .i64 0, .int .i64 0, .slice none 0 0, .int .i64 0, .slice none 0 0, .int .i64 0, .slice none 0 0, .slice none 0 0, .int .i64 0, .slice none 0 0] 66)).alloc (.cells #[.int .i64 0, .slice none 0 0, .int .i64 0, .int .i64 0, .int .i64 0, .slice none 0 0, .int .i64 0, .slice none 0 0, .int .i64 0, .slice none 0 0, .slice none 0 0, .int .i64 0, .slice none 0 0] 66))
  have T := ((Row.new (w.alloc (.cells #[.int .i64 q.setup.band, .slice Aa q.setup.temps.length ka, .int .i64 q.setup.points, .int .i64 q.setup.most, .int .i64 q.setup.pen, .slice Ab q.setup.entries.length kb, .int .i64 q.setup.dflt, .slice Ac q.setup.bigrams.length kc, .int .i64 q.setup.pause, .slice Ad q.strokes.length kd, .slice Ag q.opn.length kg, .int .i64 q.time, .slice Ax q.words.length kx] 58)) 66 #[.int .i64 0, .slice none 0 0, .int .i64 0, .int .i64 0, .int .i64 0, .slice none 0 0, .int .i64 0, .slice none 0 0, .int .i64 0, .slice none 0 0, .slice none 0 0, .int .i64 0, .slice none 0 0]).alloc (.cells #[.int .i64 0, .slice none 0 0, .int .i64 0, .int .i64 0, .int .i64 0, .slice none 0 0, .int .i64 0, .slice none 0 0, .int .i64 0, .slice none 0 0, .slice none 0 0, .int .i64 0, .slice none 0 0] 66))
  have O := Row.new ((w.alloc (.cells #[.int .i64 q.setup.band, .slice Aa q.setup.temps.length ka, .int .i64 q.setup.points, .int .i64 q.setup.most, .int .i64 q.setup.pen, .slice Ab q.setup.entries.length kb, .int .i64 q.setup.dflt, .slice Ac q.setup.bigrams.length kc, .int .i64 q.setup.pause, .slice Ad q.strokes.length kd, .slice Ag q.opn.length kg, .int .i64 q.time, .slice Ax q.words.length kx] 58)).alloc (.cells #[.int .i64 0, .slice none 0 0, .int .i64 0, .int .i64 0, .int .i64 0, .slice none 0 0, .int .i64 0, .slice none 0 0, .int .i64 0, .slice none 0 0, .slice none 0 0, .int .i64 0, .slice none 0 0] 66)) 66 #[.int .i64 0, .slice none 0 0, .int .i64 0, .int .i64 0, .int .i64 0, .slice none 0 0, .int .i64 0, .slice none 0 0, .int .i64 0, .slice none 0 0, .slice none 0 0, .int .i64 0, .slice none 0 0]
  simp only [World.size_alloc] at T O
  have bb : Below w.heap.size w (((w.alloc (.cells #[.int .i64 q.setup.band, .slice Aa q.setup.temps.length ka, .int .i64 q.setup.points, .int .i64 q.setup.most, .int .i64 q.setup.pen, .slice Ab q.setup.entries.length kb, .int .i64 q.setup.dflt, .slice Ac q.setup.bigrams.length kc, .int .i64 q.setup.pause, .slice Ad q.strokes.length kd, .slice Ag q.opn.length kg, .int .i64 q.time, .slice Ax q.words.length kx] 58)).alloc (.cells #[.int .i64 0, .slice none 0 0, .int .i64 0, .int .i64 0, .int .i64 0, .slice none 0 0, .int .i64 0, .slice none 0 0, .int .i64 0, .slice none 0 0, .slice none 0 0, .int .i64 0, .slice none 0 0] 66)).alloc (.cells #[.int .i64 0, .slice none 0 0, .int .i64 0, .int .i64 0, .int .i64 0, .slice none 0 0, .int .i64 0, .slice none 0 0, .int .i64 0, .slice none 0 0, .slice none 0 0, .int .i64 0, .slice none 0 0] 66)) := ((((Below.refl _ _).alloc (Nat.le_refl _) _).alloc (by simp) _).alloc (by simp; omega) _)
  have bbs : w.heap.size + 1 + 1 + 1 ≤ ((((w.alloc (.cells #[.int .i64 q.setup.band, .slice Aa q.setup.temps.length ka, .int .i64 q.setup.points, .int .i64 q.setup.most, .int .i64 q.setup.pen, .slice Ab q.setup.entries.length kb, .int .i64 q.setup.dflt, .slice Ac q.setup.bigrams.length kc, .int .i64 q.setup.pause, .slice Ad q.strokes.length kd, .slice Ag q.opn.length kg, .int .i64 q.time, .slice Ax q.words.length kx] 58)).alloc (.cells #[.int .i64 0, .slice none 0 0, .int .i64 0, .int .i64 0, .int .i64 0, .slice none 0 0, .int .i64 0, .slice none 0 0, .int .i64 0, .slice none 0 0, .slice none 0 0, .int .i64 0, .slice none 0 0] 66)).alloc (.cells #[.int .i64 0, .slice none 0 0, .int .i64 0, .int .i64 0, .int .i64 0, .slice none 0 0, .int .i64 0, .slice none 0 0, .int .i64 0, .slice none 0 0, .slice none 0 0, .int .i64 0, .slice none 0 0] 66))).heap.size := by simp
  replace h1 := h1.only on1 ndh1
  replace h2 := h2.only on1 ndh2
  replace h3 := h3.only on1 ndh3
  replace h4 := h4.only on1 ndh4
  replace h5 := h5.only on1 ndh5
  replace h6 := h6.only on1 ndh6
  replace R := R.onl on1 (fun hin => by simp at hin <;> omega)
  replace bb := bb.trans (on1.below (by omega) (fun x hx => by simp at hx; omega))
  replace bbs := Nat.le_trans bbs on1.size
  refine (toSetup_c (p := q.setup) _ h1 h2 h3 hp.s).mono ?_
  rintro e w1 ⟨u1_0, u1_1, u1_2, G1_0, G1_1, G1_2, rfl, r1_0, r1_1, r1_2, f1, b1⟩
  replace h1 := h1.below b1
  replace h2 := h2.below b1
  replace h3 := h3.below b1
  replace h4 := h4.below b1
  replace h5 := h5.below b1
  replace h6 := h6.below b1
  replace R := R.later b1
  replace T := T.later b1
  replace O := O.later b1
  have bz1 := b1.size
  replace bb := bb.trans (b1.mono bb.size)
  obtain ⟨Au1_0, ku1_0, rfl⟩ := slice_len r1_0
  obtain ⟨Au1_1, ku1_1, rfl⟩ := slice_len r1_1
  obtain ⟨Au1_2, ku1_2, rfl⟩ := slice_len r1_2
  have FR := f1.mono (B' := w.heap.size) (by omega)
  have fl1 : ∀ x ∈ G1_0 ++ (G1_1 ++ (G1_2)), w.heap.size + 1 + 1 + 1 ≤ x := fun x hx => Nat.le_trans bbs (f1.2 x hx)
  have ndr1_0 : ∀ x ∈ G1_0, x ∉ [w.heap.size + 1, w.heap.size + 1 + 1] := fun x hx hin => by have := fl1 x (by simp [hx]); simp at hin; omega
  have ndr1_1 : ∀ x ∈ G1_1, x ∉ [w.heap.size + 1, w.heap.size + 1 + 1] := fun x hx hin => by have := fl1 x (by simp [hx]); simp at hin; omega
  have ndr1_2 : ∀ x ∈ G1_2, x ∉ [w.heap.size + 1, w.heap.size + 1 + 1] := fun x hx hin => by have := fl1 x (by simp [hx]); simp at hin; omega
  replace bbs := Nat.le_trans bbs bz1
  have sz1 := bbs
  have qr0 := R.cell' (i := 0) rfl
  have qr1 := R.cell' (i := 1) rfl
  have qr2 := R.cell' (i := 2) rfl
  have qr3 := R.cell' (i := 3) rfl
  have qr4 := R.cell' (i := 4) rfl
  have qr5 := R.cell' (i := 5) rfl
  have qr6 := R.cell' (i := 6) rfl
  have qr7 := R.cell' (i := 7) rfl
  have qr8 := R.cell' (i := 8) rfl
  have qr9 := R.cell' (i := 9) rfl
  have qr10 := R.cell' (i := 10) rfl
  have qr11 := R.cell' (i := 11) rfl
  have qr12 := R.cell' (i := 12) rfl
  have qo0 := O.cell' (i := 0) rfl
  have qo1 := O.cell' (i := 1) rfl
  have qo2 := O.cell' (i := 2) rfl
  have qo3 := O.cell' (i := 3) rfl
  have qo4 := O.cell' (i := 4) rfl
  have qo5 := O.cell' (i := 5) rfl
  have qo6 := O.cell' (i := 6) rfl
  have qo7 := O.cell' (i := 7) rfl
  have qo8 := O.cell' (i := 8) rfl
  have qo9 := O.cell' (i := 9) rfl
  have qo10 := O.cell' (i := 10) rfl
  have qo11 := O.cell' (i := 11) rfl
  have qo12 := O.cell' (i := 12) rfl
  have qof := O.frozen
  go_wp2_with fail
  have on2 := ((((((((((Only.refl [w.heap.size + 1, w.heap.size + 1 + 1] w1).set (p := ⟨w.heap.size + 1 + 1, 0, none⟩) (by simp) (.int .i64 q.setup.band)).set (p := ⟨w.heap.size + 1 + 1, 1, none⟩) (by simp) (.slice Au1_0 q.setup.temps.length ku1_0)).set (p := ⟨w.heap.size + 1 + 1, 2, none⟩) (by simp) (.int .i64 q.setup.points)).set (p := ⟨w.heap.size + 1 + 1, 3, none⟩) (by simp) (.int .i64 q.setup.most)).set (p := ⟨w.heap.size + 1 + 1, 4, none⟩) (by simp) (.int .i64 q.setup.pen)).set (p := ⟨w.heap.size + 1 + 1, 5, none⟩) (by simp) (.slice Au1_1 q.setup.entries.length ku1_1)).set (p := ⟨w.heap.size + 1 + 1, 6, none⟩) (by simp) (.int .i64 q.setup.dflt)).set (p := ⟨w.heap.size + 1 + 1, 7, none⟩) (by simp) (.slice Au1_2 q.setup.bigrams.length ku1_2)).set (p := ⟨w.heap.size + 1 + 1, 8, none⟩) (by simp) (.int .i64 q.setup.pause))
  replace h1 := h1.only on2 ndh1
  replace h2 := h2.only on2 ndh2
  replace h3 := h3.only on2 ndh3
  replace h4 := h4.only on2 ndh4
  replace h5 := h5.only on2 ndh5
  replace h6 := h6.only on2 ndh6
  replace r1_0 := r1_0.only on2 ndr1_0
  replace r1_1 := r1_1.only on2 ndr1_1
  replace r1_2 := r1_2.only on2 ndr1_2
  replace R := R.onl on2 (fun hin => by simp at hin <;> omega)
  replace T := T.far (p := ⟨w.heap.size + 1 + 1, 0, none⟩) (by simp) (.int .i64 q.setup.band)
  replace O := O.set 0 (.int .i64 q.setup.band)
  replace T := T.far (p := ⟨w.heap.size + 1 + 1, 1, none⟩) (by simp) (.slice Au1_0 q.setup.temps.length ku1_0)
  replace O := O.set 1 (.slice Au1_0 q.setup.temps.length ku1_0)
  replace T := T.far (p := ⟨w.heap.size + 1 + 1, 2, none⟩) (by simp) (.int .i64 q.setup.points)
  replace O := O.set 2 (.int .i64 q.setup.points)
  replace T := T.far (p := ⟨w.heap.size + 1 + 1, 3, none⟩) (by simp) (.int .i64 q.setup.most)
  replace O := O.set 3 (.int .i64 q.setup.most)
  replace T := T.far (p := ⟨w.heap.size + 1 + 1, 4, none⟩) (by simp) (.int .i64 q.setup.pen)
  replace O := O.set 4 (.int .i64 q.setup.pen)
  replace T := T.far (p := ⟨w.heap.size + 1 + 1, 5, none⟩) (by simp) (.slice Au1_1 q.setup.entries.length ku1_1)
  replace O := O.set 5 (.slice Au1_1 q.setup.entries.length ku1_1)
  replace T := T.far (p := ⟨w.heap.size + 1 + 1, 6, none⟩) (by simp) (.int .i64 q.setup.dflt)
  replace O := O.set 6 (.int .i64 q.setup.dflt)
  replace T := T.far (p := ⟨w.heap.size + 1 + 1, 7, none⟩) (by simp) (.slice Au1_2 q.setup.bigrams.length ku1_2)
  replace O := O.set 7 (.slice Au1_2 q.setup.bigrams.length ku1_2)
  replace T := T.far (p := ⟨w.heap.size + 1 + 1, 8, none⟩) (by simp) (.int .i64 q.setup.pause)
  replace O := O.set 8 (.int .i64 q.setup.pause)
  replace bb := bb.trans (on2.below (by omega) (fun x hx => by simp at hx; omega))
  replace bbs := Nat.le_trans bbs on2.size
  have hl2 : ∀ x ∈ G1_0 ++ (G1_1 ++ (G1_2)), x < _ := fun x hx => by
    repeat' (rcases List.mem_append.1 hx with hx | hx)
    all_goals first | exact r1_0.blocks x hx | exact r1_1.blocks x hx | exact r1_2.blocks x hx
  refine (toInk_c _ h4 hp.i hp.j).mono ?_
  rintro e w2 ⟨u2_0, G2_0, rfl, r2_0, f2, b2⟩
  clear qr0 qr1 qr2 qr3 qr4 qr5 qr6 qr7 qr8 qr9 qr10 qr11 qr12 qo0 qo1 qo2 qo3 qo4 qo5 qo6 qo7 qo8 qo9 qo10 qo11 qo12 qof
  replace h1 := h1.below b2
  replace h2 := h2.below b2
  replace h3 := h3.below b2
  replace h4 := h4.below b2
  replace h5 := h5.below b2
  replace h6 := h6.below b2
  replace r1_0 := r1_0.below b2
  replace r1_1 := r1_1.below b2
  replace r1_2 := r1_2.below b2
  replace R := R.later b2
  replace T := T.later b2
  replace O := O.later b2
  have bz2 := b2.size
  replace bb := bb.trans (b2.mono bb.size)
  obtain ⟨Au2_0, ku2_0, rfl⟩ := slice_len r2_0
  replace FR := fresh_join FR hl2 f2 (by omega)
  have fl2 : ∀ x ∈ G2_0, w.heap.size + 1 + 1 + 1 ≤ x := fun x hx => Nat.le_trans bbs (f2.2 x hx)
  have ndr2_0 : ∀ x ∈ G2_0, x ∉ [w.heap.size + 1, w.heap.size + 1 + 1] := fun x hx hin => by have := fl2 x (by simp [hx]); simp at hin; omega
  replace bbs := Nat.le_trans bbs bz2
  have sz2 := bbs
  have qr0 := R.cell' (i := 0) rfl
  have qr1 := R.cell' (i := 1) rfl
  have qr2 := R.cell' (i := 2) rfl
  have qr3 := R.cell' (i := 3) rfl
  have qr4 := R.cell' (i := 4) rfl
  have qr5 := R.cell' (i := 5) rfl
  have qr6 := R.cell' (i := 6) rfl
  have qr7 := R.cell' (i := 7) rfl
  have qr8 := R.cell' (i := 8) rfl
  have qr9 := R.cell' (i := 9) rfl
  have qr10 := R.cell' (i := 10) rfl
  have qr11 := R.cell' (i := 11) rfl
  have qr12 := R.cell' (i := 12) rfl
  have qo0 := O.cell' (i := 0) rfl
  have qo1 := O.cell' (i := 1) rfl
  have qo2 := O.cell' (i := 2) rfl
  have qo3 := O.cell' (i := 3) rfl
  have qo4 := O.cell' (i := 4) rfl
  have qo5 := O.cell' (i := 5) rfl
  have qo6 := O.cell' (i := 6) rfl
  have qo7 := O.cell' (i := 7) rfl
  have qo8 := O.cell' (i := 8) rfl
  have qo9 := O.cell' (i := 9) rfl
  have qo10 := O.cell' (i := 10) rfl
  have qo11 := O.cell' (i := 11) rfl
  have qo12 := O.cell' (i := 12) rfl
  have qof := O.frozen
  go_wp2_with fail
  have on3 := ((Only.refl [w.heap.size + 1, w.heap.size + 1 + 1] w2).set (p := ⟨w.heap.size + 1 + 1, 9, none⟩) (by simp) (.slice Au2_0 q.strokes.length ku2_0))
  replace h1 := h1.only on3 ndh1
  replace h2 := h2.only on3 ndh2
  replace h3 := h3.only on3 ndh3
  replace h4 := h4.only on3 ndh4
  replace h5 := h5.only on3 ndh5
  replace h6 := h6.only on3 ndh6
  replace r1_0 := r1_0.only on3 ndr1_0
  replace r1_1 := r1_1.only on3 ndr1_1
  replace r1_2 := r1_2.only on3 ndr1_2
  replace r2_0 := r2_0.only on3 ndr2_0
  replace R := R.onl on3 (fun hin => by simp at hin <;> omega)
  replace T := T.far (p := ⟨w.heap.size + 1 + 1, 9, none⟩) (by simp) (.slice Au2_0 q.strokes.length ku2_0)
  replace O := O.set 9 (.slice Au2_0 q.strokes.length ku2_0)
  replace bb := bb.trans (on3.below (by omega) (fun x hx => by simp at hx; omega))
  replace bbs := Nat.le_trans bbs on3.size
  have hl3 : ∀ x ∈ (G1_0 ++ (G1_1 ++ (G1_2))) ++ (G2_0), x < _ := fun x hx => by
    repeat' (rcases List.mem_append.1 hx with hx | hx)
    all_goals first | exact r1_0.blocks x hx | exact r1_1.blocks x hx | exact r1_2.blocks x hx | exact r2_0.blocks x hx
  refine (toPointS_c _ h5 hp.o).mono ?_
  rintro e w3 ⟨u3_0, G3_0, rfl, r3_0, f3, b3⟩
  clear qr0 qr1 qr2 qr3 qr4 qr5 qr6 qr7 qr8 qr9 qr10 qr11 qr12 qo0 qo1 qo2 qo3 qo4 qo5 qo6 qo7 qo8 qo9 qo10 qo11 qo12 qof
  replace h1 := h1.below b3
  replace h2 := h2.below b3
  replace h3 := h3.below b3
  replace h4 := h4.below b3
  replace h5 := h5.below b3
  replace h6 := h6.below b3
  replace r1_0 := r1_0.below b3
  replace r1_1 := r1_1.below b3
  replace r1_2 := r1_2.below b3
  replace r2_0 := r2_0.below b3
  replace R := R.later b3
  replace T := T.later b3
  replace O := O.later b3
  have bz3 := b3.size
  replace bb := bb.trans (b3.mono bb.size)
  obtain ⟨Au3_0, ku3_0, rfl⟩ := slice_len r3_0
  replace FR := fresh_join FR hl3 f3 (by omega)
  have fl3 : ∀ x ∈ G3_0, w.heap.size + 1 + 1 + 1 ≤ x := fun x hx => Nat.le_trans bbs (f3.2 x hx)
  have ndr3_0 : ∀ x ∈ G3_0, x ∉ [w.heap.size + 1, w.heap.size + 1 + 1] := fun x hx hin => by have := fl3 x (by simp [hx]); simp at hin; omega
  replace bbs := Nat.le_trans bbs bz3
  have sz3 := bbs
  have qr0 := R.cell' (i := 0) rfl
  have qr1 := R.cell' (i := 1) rfl
  have qr2 := R.cell' (i := 2) rfl
  have qr3 := R.cell' (i := 3) rfl
  have qr4 := R.cell' (i := 4) rfl
  have qr5 := R.cell' (i := 5) rfl
  have qr6 := R.cell' (i := 6) rfl
  have qr7 := R.cell' (i := 7) rfl
  have qr8 := R.cell' (i := 8) rfl
  have qr9 := R.cell' (i := 9) rfl
  have qr10 := R.cell' (i := 10) rfl
  have qr11 := R.cell' (i := 11) rfl
  have qr12 := R.cell' (i := 12) rfl
  have qo0 := O.cell' (i := 0) rfl
  have qo1 := O.cell' (i := 1) rfl
  have qo2 := O.cell' (i := 2) rfl
  have qo3 := O.cell' (i := 3) rfl
  have qo4 := O.cell' (i := 4) rfl
  have qo5 := O.cell' (i := 5) rfl
  have qo6 := O.cell' (i := 6) rfl
  have qo7 := O.cell' (i := 7) rfl
  have qo8 := O.cell' (i := 8) rfl
  have qo9 := O.cell' (i := 9) rfl
  have qo10 := O.cell' (i := 10) rfl
  have qo11 := O.cell' (i := 11) rfl
  have qo12 := O.cell' (i := 12) rfl
  have qof := O.frozen
  go_wp2_with fail
  have on4 := (((Only.refl [w.heap.size + 1, w.heap.size + 1 + 1] w3).set (p := ⟨w.heap.size + 1 + 1, 10, none⟩) (by simp) (.slice Au3_0 q.opn.length ku3_0)).set (p := ⟨w.heap.size + 1 + 1, 11, none⟩) (by simp) (.int .i64 q.time))
  replace h1 := h1.only on4 ndh1
  replace h2 := h2.only on4 ndh2
  replace h3 := h3.only on4 ndh3
  replace h4 := h4.only on4 ndh4
  replace h5 := h5.only on4 ndh5
  replace h6 := h6.only on4 ndh6
  replace r1_0 := r1_0.only on4 ndr1_0
  replace r1_1 := r1_1.only on4 ndr1_1
  replace r1_2 := r1_2.only on4 ndr1_2
  replace r2_0 := r2_0.only on4 ndr2_0
  replace r3_0 := r3_0.only on4 ndr3_0
  replace R := R.onl on4 (fun hin => by simp at hin <;> omega)
  replace T := T.far (p := ⟨w.heap.size + 1 + 1, 10, none⟩) (by simp) (.slice Au3_0 q.opn.length ku3_0)
  replace O := O.set 10 (.slice Au3_0 q.opn.length ku3_0)
  replace T := T.far (p := ⟨w.heap.size + 1 + 1, 11, none⟩) (by simp) (.int .i64 q.time)
  replace O := O.set 11 (.int .i64 q.time)
  replace bb := bb.trans (on4.below (by omega) (fun x hx => by simp at hx; omega))
  replace bbs := Nat.le_trans bbs on4.size
  have hl4 : ∀ x ∈ ((G1_0 ++ (G1_1 ++ (G1_2))) ++ (G2_0)) ++ (G3_0), x < _ := fun x hx => by
    repeat' (rcases List.mem_append.1 hx with hx | hx)
    all_goals first | exact r1_0.blocks x hx | exact r1_1.blocks x hx | exact r1_2.blocks x hx | exact r2_0.blocks x hx | exact r3_0.blocks x hx
  refine (toStringS_c _ h6 hp.w).mono ?_
  rintro e w4 ⟨u4_0, G4_0, rfl, r4_0, f4, b4⟩
  clear qr0 qr1 qr2 qr3 qr4 qr5 qr6 qr7 qr8 qr9 qr10 qr11 qr12 qo0 qo1 qo2 qo3 qo4 qo5 qo6 qo7 qo8 qo9 qo10 qo11 qo12 qof
  replace h1 := h1.below b4
  replace h2 := h2.below b4
  replace h3 := h3.below b4
  replace h4 := h4.below b4
  replace h5 := h5.below b4
  replace h6 := h6.below b4
  replace r1_0 := r1_0.below b4
  replace r1_1 := r1_1.below b4
  replace r1_2 := r1_2.below b4
  replace r2_0 := r2_0.below b4
  replace r3_0 := r3_0.below b4
  replace R := R.later b4
  replace T := T.later b4
  replace O := O.later b4
  have bz4 := b4.size
  replace bb := bb.trans (b4.mono bb.size)
  obtain ⟨Au4_0, ku4_0, rfl⟩ := slice_len r4_0
  replace FR := fresh_join FR hl4 f4 (by omega)
  have fl4 : ∀ x ∈ G4_0, w.heap.size + 1 + 1 + 1 ≤ x := fun x hx => Nat.le_trans bbs (f4.2 x hx)
  have ndr4_0 : ∀ x ∈ G4_0, x ∉ [w.heap.size + 1, w.heap.size + 1 + 1] := fun x hx hin => by have := fl4 x (by simp [hx]); simp at hin; omega
  replace bbs := Nat.le_trans bbs bz4
  have sz4 := bbs
  have qr0 := R.cell' (i := 0) rfl
  have qr1 := R.cell' (i := 1) rfl
  have qr2 := R.cell' (i := 2) rfl
  have qr3 := R.cell' (i := 3) rfl
  have qr4 := R.cell' (i := 4) rfl
  have qr5 := R.cell' (i := 5) rfl
  have qr6 := R.cell' (i := 6) rfl
  have qr7 := R.cell' (i := 7) rfl
  have qr8 := R.cell' (i := 8) rfl
  have qr9 := R.cell' (i := 9) rfl
  have qr10 := R.cell' (i := 10) rfl
  have qr11 := R.cell' (i := 11) rfl
  have qr12 := R.cell' (i := 12) rfl
  have qo0 := O.cell' (i := 0) rfl
  have qo1 := O.cell' (i := 1) rfl
  have qo2 := O.cell' (i := 2) rfl
  have qo3 := O.cell' (i := 3) rfl
  have qo4 := O.cell' (i := 4) rfl
  have qo5 := O.cell' (i := 5) rfl
  have qo6 := O.cell' (i := 6) rfl
  have qo7 := O.cell' (i := 7) rfl
  have qo8 := O.cell' (i := 8) rfl
  have qo9 := O.cell' (i := 9) rfl
  have qo10 := O.cell' (i := 10) rfl
  have qo11 := O.cell' (i := 11) rfl
  have qo12 := O.cell' (i := 12) rfl
  have qof := O.frozen
  have qt0 := T.cell' (i := 0) rfl
  have qt1 := T.cell' (i := 1) rfl
  have qt2 := T.cell' (i := 2) rfl
  have qt3 := T.cell' (i := 3) rfl
  have qt4 := T.cell' (i := 4) rfl
  have qt5 := T.cell' (i := 5) rfl
  have qt6 := T.cell' (i := 6) rfl
  have qt7 := T.cell' (i := 7) rfl
  have qt8 := T.cell' (i := 8) rfl
  have qt9 := T.cell' (i := 9) rfl
  have qt10 := T.cell' (i := 10) rfl
  have qt11 := T.cell' (i := 11) rfl
  have qt12 := T.cell' (i := 12) rfl
  have qtf := T.frozen
  go_wp2_with fail
  have onE := (((((((((((((((Only.refl [w.heap.size + 1, w.heap.size + 1 + 1] w4).set (p := ⟨w.heap.size + 1 + 1, 12, none⟩) (by simp) (.slice Au4_0 q.words.length ku4_0)).set (p := ⟨w.heap.size + 1, 0, none⟩) (by simp) (.int .i64 q.setup.band)).set (p := ⟨w.heap.size + 1, 1, none⟩) (by simp) (.slice Au1_0 q.setup.temps.length ku1_0)).set (p := ⟨w.heap.size + 1, 2, none⟩) (by simp) (.int .i64 q.setup.points)).set (p := ⟨w.heap.size + 1, 3, none⟩) (by simp) (.int .i64 q.setup.most)).set (p := ⟨w.heap.size + 1, 4, none⟩) (by simp) (.int .i64 q.setup.pen)).set (p := ⟨w.heap.size + 1, 5, none⟩) (by simp) (.slice Au1_1 q.setup.entries.length ku1_1)).set (p := ⟨w.heap.size + 1, 6, none⟩) (by simp) (.int .i64 q.setup.dflt)).set (p := ⟨w.heap.size + 1, 7, none⟩) (by simp) (.slice Au1_2 q.setup.bigrams.length ku1_2)).set (p := ⟨w.heap.size + 1, 8, none⟩) (by simp) (.int .i64 q.setup.pause)).set (p := ⟨w.heap.size + 1, 9, none⟩) (by simp) (.slice Au2_0 q.strokes.length ku2_0)).set (p := ⟨w.heap.size + 1, 10, none⟩) (by simp) (.slice Au3_0 q.opn.length ku3_0)).set (p := ⟨w.heap.size + 1, 11, none⟩) (by simp) (.int .i64 q.time)).set (p := ⟨w.heap.size + 1, 12, none⟩) (by simp) (.slice Au4_0 q.words.length ku4_0))
  have TF := ((((((((((((((T.far (p := ⟨w.heap.size + 1 + 1, 12, none⟩) (by simp) (.slice Au4_0 q.words.length ku4_0)).set 0 (.int .i64 q.setup.band)).set 1 (.slice Au1_0 q.setup.temps.length ku1_0)).set 2 (.int .i64 q.setup.points)).set 3 (.int .i64 q.setup.most)).set 4 (.int .i64 q.setup.pen)).set 5 (.slice Au1_1 q.setup.entries.length ku1_1)).set 6 (.int .i64 q.setup.dflt)).set 7 (.slice Au1_2 q.setup.bigrams.length ku1_2)).set 8 (.int .i64 q.setup.pause)).set 9 (.slice Au2_0 q.strokes.length ku2_0)).set 10 (.slice Au3_0 q.opn.length ku3_0)).set 11 (.int .i64 q.time)).set 12 (.slice Au4_0 q.words.length ku4_0))
  have e0 := TF.cell' (i := 0) rfl
  have e1 := TF.cell' (i := 1) rfl
  have e2 := TF.cell' (i := 2) rfl
  have e3 := TF.cell' (i := 3) rfl
  have e4 := TF.cell' (i := 4) rfl
  have e5 := TF.cell' (i := 5) rfl
  have e6 := TF.cell' (i := 6) rfl
  have e7 := TF.cell' (i := 7) rfl
  have e8 := TF.cell' (i := 8) rfl
  have e9 := TF.cell' (i := 9) rfl
  have e10 := TF.cell' (i := 10) rfl
  have e11 := TF.cell' (i := 11) rfl
  have e12 := TF.cell' (i := 12) rfl
  clear qr0 qr1 qr2 qr3 qr4 qr5 qr6 qr7 qr8 qr9 qr10 qr11 qr12 qo0 qo1 qo2 qo3 qo4 qo5 qo6 qo7 qo8 qo9 qo10 qo11 qo12 qt0 qt1 qt2 qt3 qt4 qt5 qt6 qt7 qt8 qt9 qt10 qt11 qt12 qof qtf
  replace r1_0 := r1_0.only onE ndr1_0
  replace r1_1 := r1_1.only onE ndr1_1
  replace r1_2 := r1_2.only onE ndr1_2
  replace r2_0 := r2_0.only onE ndr2_0
  replace r3_0 := r3_0.only onE ndr3_0
  replace r4_0 := r4_0.only onE ndr4_0
  have bE := bb.trans (onE.below bb.size (fun x hx => by simp at hx; omega))
  have hres : (.agg #[.int .i64 q.setup.band, .slice Au1_0 q.setup.temps.length ku1_0, .int .i64 q.setup.points, .int .i64 q.setup.most, .int .i64 q.setup.pen, .slice Au1_1 q.setup.entries.length ku1_1, .int .i64 q.setup.dflt, .slice Au1_2 q.setup.bigrams.length ku1_2, .int .i64 q.setup.pause, .slice Au2_0 q.strokes.length ku2_0, .slice Au3_0 q.opn.length ku3_0, .int .i64 q.time, .slice Au4_0 q.words.length ku4_0]) = (.agg #[.int .i64 q.setup.band, .slice Au1_0 q.setup.temps.length ku1_0, .int .i64 q.setup.points, .int .i64 q.setup.most, .int .i64 q.setup.pen, .slice Au1_1 q.setup.entries.length ku1_1, .int .i64 q.setup.dflt, .slice Au1_2 q.setup.bigrams.length ku1_2, .int .i64 q.setup.pause, .slice Au2_0 q.strokes.length ku2_0, .slice Au3_0 q.opn.length ku3_0, .int .i64 q.time, .slice Au4_0 q.words.length ku4_0] : Value) := rfl
  refine bodyPost_ret (v := .agg #[.int .i64 q.setup.band, .slice Au1_0 q.setup.temps.length ku1_0, .int .i64 q.setup.points, .int .i64 q.setup.most, .int .i64 q.setup.pen, .slice Au1_1 q.setup.entries.length ku1_1, .int .i64 q.setup.dflt, .slice Au1_2 q.setup.bigrams.length ku1_2, .int .i64 q.setup.pause, .slice Au2_0 q.strokes.length ku2_0, .slice Au3_0 q.opn.length ku3_0, .int .i64 q.time, .slice Au4_0 q.words.length ku4_0]) (by simp only [results, Try.results12]; go_simp) rfl ⟨_, _, _, _, _, _, G1_0, G1_1, G1_2, G2_0, G3_0, G4_0, rfl, r1_0, r1_1, r1_2, r2_0, r3_0, r4_0, ?_, bE⟩
  simpa only [List.append_assoc] using FR
end Go.Proofs.Ytkkignkoneeieaa

/- Store, Lexicon, Model, Setup, Session: the law's own eq over them. Conditions: none. -/
namespace Go.Proofs.Ytkkignkoneeieaa
open Go Go.RowKit


set_option maxRecDepth 100000 in
set_option maxHeartbeats 4000000 in
theorem eqStore_c {oa ob : Bool} {ea eb pa pb : TypeId} {v u : Value} {F G : List Nat} {n m : Int} {xs ys : List PTemp} (w : World) (h : (pTemps pa ea).rep oa w xs [v] F) (h' : (pTemps pb eb).rep ob w ys [u] G) (hx : xs.length ≤ 1048576) (hy : ys.length ≤ 1048576) (hxe : ∀ l ∈ xs, l.feats.length ≤ 1048576) (hye : ∀ l ∈ ys, l.feats.length ≤ 1048576) :
    Calls Try.prog 28 #[.agg #[.int .i64 n, v], .agg #[.int .i64 m, u]] w fun e w' => e = .returned (.bool (decide (n = m) && decide (xs = ys))) ∧ Below w.heap.size w w' := by
  obtain ⟨Aa, ka, rfl⟩ := slice_len h
  obtain ⟨Ab, kb, rfl⟩ := slice_len h'
  have C1 := Lib.hid (fun w' (q0 : (pTemps pa ea).rep oa w' xs [.slice Aa xs.length ka] F) (q1 : (pTemps pb eb).rep ob w' ys [.slice Ab ys.length kb] G) => eqTemplateS_c w' q0 q1 hx hy hxe hye)
  have g0 : (n != m) = !(decide (n = m)) := by by_cases hh : n = m <;> simp [hh]
  generalize decide (n = m) = d0 at *
  generalize decide (xs = ys) = d1 at *
  have R0 := (Row.new w 39 #[.int .i64 n, .slice Aa xs.length ka]).alloc (.cells #[.int .i64 m, .slice Ab ys.length kb] 39)
  have Q0 := Row.new (w.alloc (.cells #[.int .i64 n, .slice Aa xs.length ka] 39)) 39 #[.int .i64 m, .slice Ab ys.length kb]
  simp only [World.size_alloc] at Q0
  have bb0 : Below w.heap.size w ((w.alloc (.cells #[.int .i64 n, .slice Aa xs.length ka] 39)).alloc (.cells #[.int .i64 m, .slice Ab ys.length kb] 39)) := ((Below.refl _ _).alloc (Nat.le_refl _) _).alloc (by simp) _
  replace h := (h.alloc (.cells #[.int .i64 n, .slice Aa xs.length ka] 39)).alloc (.cells #[.int .i64 m, .slice Ab ys.length kb] 39)
  replace h' := (h'.alloc (.cells #[.int .i64 n, .slice Aa xs.length ka] 39)).alloc (.cells #[.int .i64 m, .slice Ab ys.length kb] 39)
  cases d0
  · go_enter Try.func28, Try.ntmps28
    go_wp2_with fail
    go_ret
    exact ⟨rfl, bb0⟩
  · cases d1
    · go_enter Try.func28, Try.ntmps28
      go_wp2_with fail
      refine (C1.out _ h h').mono ?_
      rintro e w1 ⟨rfl, b1⟩
      replace bb0 := bb0.trans (b1.mono bb0.size)
      go_wp2_with fail
      go_ret
      exact ⟨rfl, bb0⟩
    · go_enter Try.func28, Try.ntmps28
      go_wp2_with fail
      refine (C1.out _ h h').mono ?_
      rintro e w1 ⟨rfl, b1⟩
      replace bb0 := bb0.trans (b1.mono bb0.size)
      replace R0 := R0.later b1
      replace Q0 := Q0.later b1
      replace h := h.below b1
      replace h' := h'.below b1
      have qr0 := R0.cell' (i := 0) rfl
      have qq0 := Q0.cell' (i := 0) rfl
      have qr1 := R0.cell' (i := 1) rfl
      have qq1 := Q0.cell' (i := 1) rfl
      go_wp2_with fail
      go_ret
      exact ⟨rfl, bb0⟩
set_option maxRecDepth 100000 in
set_option maxHeartbeats 4000000 in
theorem eqLexicon_c {oa ob : Bool} {ea eb : TypeId} {v u : Value} {F G : List Nat} {xs ys : List PEntry} (w : World) (h : (pEntrys ea).rep oa w xs [v] F) (h' : (pEntrys eb).rep ob w ys [u] G) (hx : xs.length ≤ 1048576) (hy : ys.length ≤ 1048576) :
    Calls Try.prog 30 #[.agg #[v], .agg #[u]] w fun e w' => e = .returned (.bool (decide (xs = ys))) ∧ Below w.heap.size w w' := by
  obtain ⟨Aa, ka, rfl⟩ := slice_len h
  obtain ⟨Ab, kb, rfl⟩ := slice_len h'
  have C0 := Lib.hid (fun w' (q0 : (pEntrys ea).rep oa w' xs [.slice Aa xs.length ka] F) (q1 : (pEntrys eb).rep ob w' ys [.slice Ab ys.length kb] G) => eqEntryS_c w' q0 q1 hx hy)
  generalize decide (xs = ys) = d0 at *
  have R0 := (Row.new w 43 #[.slice Aa xs.length ka]).alloc (.cells #[.slice Ab ys.length kb] 43)
  have Q0 := Row.new (w.alloc (.cells #[.slice Aa xs.length ka] 43)) 43 #[.slice Ab ys.length kb]
  simp only [World.size_alloc] at Q0
  have bb0 : Below w.heap.size w ((w.alloc (.cells #[.slice Aa xs.length ka] 43)).alloc (.cells #[.slice Ab ys.length kb] 43)) := ((Below.refl _ _).alloc (Nat.le_refl _) _).alloc (by simp) _
  replace h := (h.alloc (.cells #[.slice Aa xs.length ka] 43)).alloc (.cells #[.slice Ab ys.length kb] 43)
  replace h' := (h'.alloc (.cells #[.slice Aa xs.length ka] 43)).alloc (.cells #[.slice Ab ys.length kb] 43)
  cases d0
  · go_enter Try.func30, Try.ntmps30
    go_wp2_with fail
    refine (C0.out _ h h').mono ?_
    rintro e w1 ⟨rfl, b1⟩
    replace bb0 := bb0.trans (b1.mono bb0.size)
    go_wp2_with fail
    go_ret
    exact ⟨rfl, bb0⟩
  · go_enter Try.func30, Try.ntmps30
    go_wp2_with fail
    refine (C0.out _ h h').mono ?_
    rintro e w1 ⟨rfl, b1⟩
    replace bb0 := bb0.trans (b1.mono bb0.size)
    replace R0 := R0.later b1
    replace Q0 := Q0.later b1
    replace h := h.below b1
    replace h' := h'.below b1
    have qr0 := R0.cell' (i := 0) rfl
    have qq0 := Q0.cell' (i := 0) rfl
    go_wp2_with fail
    go_ret
    exact ⟨rfl, bb0⟩
set_option maxRecDepth 100000 in
set_option maxHeartbeats 4000000 in
theorem eqModel_c {oa ob : Bool} {ea eb : TypeId} {v u : Value} {F G : List Nat} {n m : Int} {xs ys : List PBigram} (w : World) (h : (pBigrams ea).rep oa w xs [v] F) (h' : (pBigrams eb).rep ob w ys [u] G) (hx : xs.length ≤ 1048576) (hy : ys.length ≤ 1048576) :
    Calls Try.prog 31 #[.agg #[.int .i64 n, v], .agg #[.int .i64 m, u]] w fun e w' => e = .returned (.bool (decide (n = m) && decide (xs = ys))) ∧ Below w.heap.size w w' := by
  obtain ⟨Aa, ka, rfl⟩ := slice_len h
  obtain ⟨Ab, kb, rfl⟩ := slice_len h'
  have C1 := Lib.hid (fun w' (q0 : (pBigrams ea).rep oa w' xs [.slice Aa xs.length ka] F) (q1 : (pBigrams eb).rep ob w' ys [.slice Ab ys.length kb] G) => eqBigramS_c w' q0 q1 hx hy)
  have g0 : (n != m) = !(decide (n = m)) := by by_cases hh : n = m <;> simp [hh]
  generalize decide (n = m) = d0 at *
  generalize decide (xs = ys) = d1 at *
  have R0 := (Row.new w 46 #[.int .i64 n, .slice Aa xs.length ka]).alloc (.cells #[.int .i64 m, .slice Ab ys.length kb] 46)
  have Q0 := Row.new (w.alloc (.cells #[.int .i64 n, .slice Aa xs.length ka] 46)) 46 #[.int .i64 m, .slice Ab ys.length kb]
  simp only [World.size_alloc] at Q0
  have bb0 : Below w.heap.size w ((w.alloc (.cells #[.int .i64 n, .slice Aa xs.length ka] 46)).alloc (.cells #[.int .i64 m, .slice Ab ys.length kb] 46)) := ((Below.refl _ _).alloc (Nat.le_refl _) _).alloc (by simp) _
  replace h := (h.alloc (.cells #[.int .i64 n, .slice Aa xs.length ka] 46)).alloc (.cells #[.int .i64 m, .slice Ab ys.length kb] 46)
  replace h' := (h'.alloc (.cells #[.int .i64 n, .slice Aa xs.length ka] 46)).alloc (.cells #[.int .i64 m, .slice Ab ys.length kb] 46)
  cases d0
  · go_enter Try.func31, Try.ntmps31
    go_wp2_with fail
    go_ret
    exact ⟨rfl, bb0⟩
  · cases d1
    · go_enter Try.func31, Try.ntmps31
      go_wp2_with fail
      refine (C1.out _ h h').mono ?_
      rintro e w1 ⟨rfl, b1⟩
      replace bb0 := bb0.trans (b1.mono bb0.size)
      go_wp2_with fail
      go_ret
      exact ⟨rfl, bb0⟩
    · go_enter Try.func31, Try.ntmps31
      go_wp2_with fail
      refine (C1.out _ h h').mono ?_
      rintro e w1 ⟨rfl, b1⟩
      replace bb0 := bb0.trans (b1.mono bb0.size)
      replace R0 := R0.later b1
      replace Q0 := Q0.later b1
      replace h := h.below b1
      replace h' := h'.below b1
      have qr0 := R0.cell' (i := 0) rfl
      have qq0 := Q0.cell' (i := 0) rfl
      have qr1 := R0.cell' (i := 1) rfl
      have qq1 := Q0.cell' (i := 1) rfl
      go_wp2_with fail
      go_ret
      exact ⟨rfl, bb0⟩
set_option maxRecDepth 100000 in
set_option maxHeartbeats 4000000 in
theorem eqSetup_c {oa ob : Bool} {ef et ee eb ef' et' ee' eb' : TypeId} {p q : PSetup} {a1 b1 c1 a2 b2 c2 : Value} {F1 F2 F3 G1 G2 G3 : List Nat} (w : World) (h1 : (pTemps ef et).rep oa w p.temps [a1] F1) (h2 : (pEntrys ee).rep oa w p.entries [b1] F2) (h3 : (pBigrams eb).rep oa w p.bigrams [c1] F3) (k1 : (pTemps ef' et').rep ob w q.temps [a2] G1) (k2 : (pEntrys ee').rep ob w q.entries [b2] G2) (k3 : (pBigrams eb').rep ob w q.bigrams [c2] G3) (hp : SeSmall p) (hq : SeSmall q) :
    Calls Try.prog 9 #[.agg #[.int .i64 p.band, a1, .int .i64 p.points, .int .i64 p.most, .int .i64 p.pen, b1, .int .i64 p.dflt, c1, .int .i64 p.pause], .agg #[.int .i64 q.band, a2, .int .i64 q.points, .int .i64 q.most, .int .i64 q.pen, b2, .int .i64 q.dflt, c2, .int .i64 q.pause]] w fun e w' => e = .returned (.bool (sameSetupB p q)) ∧ Below w.heap.size w w' := by
  obtain ⟨Aa1, ka1, rfl⟩ := slice_len h1
  obtain ⟨Ab1, kb1, rfl⟩ := slice_len h2
  obtain ⟨Ac1, kc1, rfl⟩ := slice_len h3
  obtain ⟨Aa2, ka2, rfl⟩ := slice_len k1
  obtain ⟨Ab2, kb2, rfl⟩ := slice_len k2
  obtain ⟨Ac2, kc2, rfl⟩ := slice_len k3
  unfold sameSetupB
  have C0 := Lib.hid (fun w' (q0 : (pTemps ef et).rep oa w' p.temps [.slice Aa1 p.temps.length ka1] F1) (q1 : (pTemps ef' et').rep ob w' q.temps [.slice Aa2 q.temps.length ka2] G1) => eqStore_c (n := p.band) (m := q.band) w' q0 q1 hp.t hq.t hp.f hq.f)
  have C1 := Lib.hid (fun w'  => eqSetting_c ⟨p.points, p.most, p.pen⟩ ⟨q.points, q.most, q.pen⟩ w')
  have C2 := Lib.hid (fun w' (q0 : (pEntrys ee).rep oa w' p.entries [.slice Ab1 p.entries.length kb1] F2) (q1 : (pEntrys ee').rep ob w' q.entries [.slice Ab2 q.entries.length kb2] G2) => eqLexicon_c w' q0 q1 hp.e hq.e)
  have C3 := Lib.hid (fun w' (q0 : (pBigrams eb).rep oa w' p.bigrams [.slice Ac1 p.bigrams.length kc1] F3) (q1 : (pBigrams eb').rep ob w' q.bigrams [.slice Ac2 q.bigrams.length kc2] G3) => eqModel_c (n := p.dflt) (m := q.dflt) w' q0 q1 hp.b hq.b)
  have g4 : (p.pause != q.pause) = !(decide (p.pause = q.pause)) := by by_cases hh : p.pause = q.pause <;> simp [hh]
  generalize (decide (p.band = q.band) && decide (p.temps = q.temps)) = d0 at *
  generalize decide ((⟨p.points, p.most, p.pen⟩ : PSetting) = ⟨q.points, q.most, q.pen⟩) = d1 at *
  generalize decide (p.entries = q.entries) = d2 at *
  generalize (decide (p.dflt = q.dflt) && decide (p.bigrams = q.bigrams)) = d3 at *
  generalize decide (p.pause = q.pause) = d4 at *
  have R0 := (Row.new w 48 #[.int .i64 p.band, .slice Aa1 p.temps.length ka1, .int .i64 p.points, .int .i64 p.most, .int .i64 p.pen, .slice Ab1 p.entries.length kb1, .int .i64 p.dflt, .slice Ac1 p.bigrams.length kc1, .int .i64 p.pause]).alloc (.cells #[.int .i64 q.band, .slice Aa2 q.temps.length ka2, .int .i64 q.points, .int .i64 q.most, .int .i64 q.pen, .slice Ab2 q.entries.length kb2, .int .i64 q.dflt, .slice Ac2 q.bigrams.length kc2, .int .i64 q.pause] 48)
  have Q0 := Row.new (w.alloc (.cells #[.int .i64 p.band, .slice Aa1 p.temps.length ka1, .int .i64 p.points, .int .i64 p.most, .int .i64 p.pen, .slice Ab1 p.entries.length kb1, .int .i64 p.dflt, .slice Ac1 p.bigrams.length kc1, .int .i64 p.pause] 48)) 48 #[.int .i64 q.band, .slice Aa2 q.temps.length ka2, .int .i64 q.points, .int .i64 q.most, .int .i64 q.pen, .slice Ab2 q.entries.length kb2, .int .i64 q.dflt, .slice Ac2 q.bigrams.length kc2, .int .i64 q.pause]
  simp only [World.size_alloc] at Q0
  have bb0 : Below w.heap.size w ((w.alloc (.cells #[.int .i64 p.band, .slice Aa1 p.temps.length ka1, .int .i64 p.points, .int .i64 p.most, .int .i64 p.pen, .slice Ab1 p.entries.length kb1, .int .i64 p.dflt, .slice Ac1 p.bigrams.length kc1, .int .i64 p.pause] 48)).alloc (.cells #[.int .i64 q.band, .slice Aa2 q.temps.length ka2, .int .i64 q.points, .int .i64 q.most, .int .i64 q.pen, .slice Ab2 q.entries.length kb2, .int .i64 q.dflt, .slice Ac2 q.bigrams.length kc2, .int .i64 q.pause] 48)) := ((Below.refl _ _).alloc (Nat.le_refl _) _).alloc (by simp) _
  replace h1 := (h1.alloc (.cells #[.int .i64 p.band, .slice Aa1 p.temps.length ka1, .int .i64 p.points, .int .i64 p.most, .int .i64 p.pen, .slice Ab1 p.entries.length kb1, .int .i64 p.dflt, .slice Ac1 p.bigrams.length kc1, .int .i64 p.pause] 48)).alloc (.cells #[.int .i64 q.band, .slice Aa2 q.temps.length ka2, .int .i64 q.points, .int .i64 q.most, .int .i64 q.pen, .slice Ab2 q.entries.length kb2, .int .i64 q.dflt, .slice Ac2 q.bigrams.length kc2, .int .i64 q.pause] 48)
  replace k1 := (k1.alloc (.cells #[.int .i64 p.band, .slice Aa1 p.temps.length ka1, .int .i64 p.points, .int .i64 p.most, .int .i64 p.pen, .slice Ab1 p.entries.length kb1, .int .i64 p.dflt, .slice Ac1 p.bigrams.length kc1, .int .i64 p.pause] 48)).alloc (.cells #[.int .i64 q.band, .slice Aa2 q.temps.length ka2, .int .i64 q.points, .int .i64 q.most, .int .i64 q.pen, .slice Ab2 q.entries.length kb2, .int .i64 q.dflt, .slice Ac2 q.bigrams.length kc2, .int .i64 q.pause] 48)
  replace h2 := (h2.alloc (.cells #[.int .i64 p.band, .slice Aa1 p.temps.length ka1, .int .i64 p.points, .int .i64 p.most, .int .i64 p.pen, .slice Ab1 p.entries.length kb1, .int .i64 p.dflt, .slice Ac1 p.bigrams.length kc1, .int .i64 p.pause] 48)).alloc (.cells #[.int .i64 q.band, .slice Aa2 q.temps.length ka2, .int .i64 q.points, .int .i64 q.most, .int .i64 q.pen, .slice Ab2 q.entries.length kb2, .int .i64 q.dflt, .slice Ac2 q.bigrams.length kc2, .int .i64 q.pause] 48)
  replace k2 := (k2.alloc (.cells #[.int .i64 p.band, .slice Aa1 p.temps.length ka1, .int .i64 p.points, .int .i64 p.most, .int .i64 p.pen, .slice Ab1 p.entries.length kb1, .int .i64 p.dflt, .slice Ac1 p.bigrams.length kc1, .int .i64 p.pause] 48)).alloc (.cells #[.int .i64 q.band, .slice Aa2 q.temps.length ka2, .int .i64 q.points, .int .i64 q.most, .int .i64 q.pen, .slice Ab2 q.entries.length kb2, .int .i64 q.dflt, .slice Ac2 q.bigrams.length kc2, .int .i64 q.pause] 48)
  replace h3 := (h3.alloc (.cells #[.int .i64 p.band, .slice Aa1 p.temps.length ka1, .int .i64 p.points, .int .i64 p.most, .int .i64 p.pen, .slice Ab1 p.entries.length kb1, .int .i64 p.dflt, .slice Ac1 p.bigrams.length kc1, .int .i64 p.pause] 48)).alloc (.cells #[.int .i64 q.band, .slice Aa2 q.temps.length ka2, .int .i64 q.points, .int .i64 q.most, .int .i64 q.pen, .slice Ab2 q.entries.length kb2, .int .i64 q.dflt, .slice Ac2 q.bigrams.length kc2, .int .i64 q.pause] 48)
  replace k3 := (k3.alloc (.cells #[.int .i64 p.band, .slice Aa1 p.temps.length ka1, .int .i64 p.points, .int .i64 p.most, .int .i64 p.pen, .slice Ab1 p.entries.length kb1, .int .i64 p.dflt, .slice Ac1 p.bigrams.length kc1, .int .i64 p.pause] 48)).alloc (.cells #[.int .i64 q.band, .slice Aa2 q.temps.length ka2, .int .i64 q.points, .int .i64 q.most, .int .i64 q.pen, .slice Ab2 q.entries.length kb2, .int .i64 q.dflt, .slice Ac2 q.bigrams.length kc2, .int .i64 q.pause] 48)
  cases d0
  · go_enter Try.func9, Try.ntmps9
    go_wp2_with fail
    refine (C0.out _ h1 k1).mono ?_
    rintro e w1 ⟨rfl, b1⟩
    replace bb0 := bb0.trans (b1.mono bb0.size)
    go_wp2_with fail
    go_ret
    exact ⟨rfl, bb0⟩
  · cases d1
    · go_enter Try.func9, Try.ntmps9
      go_wp2_with fail
      refine (C0.out _ h1 k1).mono ?_
      rintro e w1 ⟨rfl, b1⟩
      replace bb0 := bb0.trans (b1.mono bb0.size)
      replace R0 := R0.later b1
      replace Q0 := Q0.later b1
      replace h1 := h1.below b1
      replace k1 := k1.below b1
      replace h2 := h2.below b1
      replace k2 := k2.below b1
      replace h3 := h3.below b1
      replace k3 := k3.below b1
      have qr0 := R0.cell' (i := 0) rfl
      have qq0 := Q0.cell' (i := 0) rfl
      have qr1 := R0.cell' (i := 1) rfl
      have qq1 := Q0.cell' (i := 1) rfl
      have qr2 := R0.cell' (i := 2) rfl
      have qq2 := Q0.cell' (i := 2) rfl
      have qr3 := R0.cell' (i := 3) rfl
      have qq3 := Q0.cell' (i := 3) rfl
      have qr4 := R0.cell' (i := 4) rfl
      have qq4 := Q0.cell' (i := 4) rfl
      have qr5 := R0.cell' (i := 5) rfl
      have qq5 := Q0.cell' (i := 5) rfl
      have qr6 := R0.cell' (i := 6) rfl
      have qq6 := Q0.cell' (i := 6) rfl
      have qr7 := R0.cell' (i := 7) rfl
      have qq7 := Q0.cell' (i := 7) rfl
      have qr8 := R0.cell' (i := 8) rfl
      have qq8 := Q0.cell' (i := 8) rfl
      go_wp2_with fail
      refine (C1.out _ ).mono ?_
      rintro e w2 ⟨rfl, b2⟩
      clear qr0 qr1 qr2 qr3 qr4 qr5 qr6 qr7 qr8 qq0 qq1 qq2 qq3 qq4 qq5 qq6 qq7 qq8
      replace bb0 := bb0.trans (b2.mono bb0.size)
      go_wp2_with fail
      go_ret
      exact ⟨rfl, bb0⟩
    · cases d2
      · go_enter Try.func9, Try.ntmps9
        go_wp2_with fail
        refine (C0.out _ h1 k1).mono ?_
        rintro e w1 ⟨rfl, b1⟩
        replace bb0 := bb0.trans (b1.mono bb0.size)
        replace R0 := R0.later b1
        replace Q0 := Q0.later b1
        replace h1 := h1.below b1
        replace k1 := k1.below b1
        replace h2 := h2.below b1
        replace k2 := k2.below b1
        replace h3 := h3.below b1
        replace k3 := k3.below b1
        have qr0 := R0.cell' (i := 0) rfl
        have qq0 := Q0.cell' (i := 0) rfl
        have qr1 := R0.cell' (i := 1) rfl
        have qq1 := Q0.cell' (i := 1) rfl
        have qr2 := R0.cell' (i := 2) rfl
        have qq2 := Q0.cell' (i := 2) rfl
        have qr3 := R0.cell' (i := 3) rfl
        have qq3 := Q0.cell' (i := 3) rfl
        have qr4 := R0.cell' (i := 4) rfl
        have qq4 := Q0.cell' (i := 4) rfl
        have qr5 := R0.cell' (i := 5) rfl
        have qq5 := Q0.cell' (i := 5) rfl
        have qr6 := R0.cell' (i := 6) rfl
        have qq6 := Q0.cell' (i := 6) rfl
        have qr7 := R0.cell' (i := 7) rfl
        have qq7 := Q0.cell' (i := 7) rfl
        have qr8 := R0.cell' (i := 8) rfl
        have qq8 := Q0.cell' (i := 8) rfl
        go_wp2_with fail
        refine (C1.out _ ).mono ?_
        rintro e w2 ⟨rfl, b2⟩
        clear qr0 qr1 qr2 qr3 qr4 qr5 qr6 qr7 qr8 qq0 qq1 qq2 qq3 qq4 qq5 qq6 qq7 qq8
        replace bb0 := bb0.trans (b2.mono bb0.size)
        replace R0 := R0.later b2
        replace Q0 := Q0.later b2
        replace h1 := h1.below b2
        replace k1 := k1.below b2
        replace h2 := h2.below b2
        replace k2 := k2.below b2
        replace h3 := h3.below b2
        replace k3 := k3.below b2
        have qr0 := R0.cell' (i := 0) rfl
        have qq0 := Q0.cell' (i := 0) rfl
        have qr1 := R0.cell' (i := 1) rfl
        have qq1 := Q0.cell' (i := 1) rfl
        have qr2 := R0.cell' (i := 2) rfl
        have qq2 := Q0.cell' (i := 2) rfl
        have qr3 := R0.cell' (i := 3) rfl
        have qq3 := Q0.cell' (i := 3) rfl
        have qr4 := R0.cell' (i := 4) rfl
        have qq4 := Q0.cell' (i := 4) rfl
        have qr5 := R0.cell' (i := 5) rfl
        have qq5 := Q0.cell' (i := 5) rfl
        have qr6 := R0.cell' (i := 6) rfl
        have qq6 := Q0.cell' (i := 6) rfl
        have qr7 := R0.cell' (i := 7) rfl
        have qq7 := Q0.cell' (i := 7) rfl
        have qr8 := R0.cell' (i := 8) rfl
        have qq8 := Q0.cell' (i := 8) rfl
        go_wp2_with fail
        refine (C2.out _ h2 k2).mono ?_
        rintro e w3 ⟨rfl, b3⟩
        clear qr0 qr1 qr2 qr3 qr4 qr5 qr6 qr7 qr8 qq0 qq1 qq2 qq3 qq4 qq5 qq6 qq7 qq8
        replace bb0 := bb0.trans (b3.mono bb0.size)
        go_wp2_with fail
        go_ret
        exact ⟨rfl, bb0⟩
      · cases d3
        · go_enter Try.func9, Try.ntmps9
          go_wp2_with fail
          refine (C0.out _ h1 k1).mono ?_
          rintro e w1 ⟨rfl, b1⟩
          replace bb0 := bb0.trans (b1.mono bb0.size)
          replace R0 := R0.later b1
          replace Q0 := Q0.later b1
          replace h1 := h1.below b1
          replace k1 := k1.below b1
          replace h2 := h2.below b1
          replace k2 := k2.below b1
          replace h3 := h3.below b1
          replace k3 := k3.below b1
          have qr0 := R0.cell' (i := 0) rfl
          have qq0 := Q0.cell' (i := 0) rfl
          have qr1 := R0.cell' (i := 1) rfl
          have qq1 := Q0.cell' (i := 1) rfl
          have qr2 := R0.cell' (i := 2) rfl
          have qq2 := Q0.cell' (i := 2) rfl
          have qr3 := R0.cell' (i := 3) rfl
          have qq3 := Q0.cell' (i := 3) rfl
          have qr4 := R0.cell' (i := 4) rfl
          have qq4 := Q0.cell' (i := 4) rfl
          have qr5 := R0.cell' (i := 5) rfl
          have qq5 := Q0.cell' (i := 5) rfl
          have qr6 := R0.cell' (i := 6) rfl
          have qq6 := Q0.cell' (i := 6) rfl
          have qr7 := R0.cell' (i := 7) rfl
          have qq7 := Q0.cell' (i := 7) rfl
          have qr8 := R0.cell' (i := 8) rfl
          have qq8 := Q0.cell' (i := 8) rfl
          go_wp2_with fail
          refine (C1.out _ ).mono ?_
          rintro e w2 ⟨rfl, b2⟩
          clear qr0 qr1 qr2 qr3 qr4 qr5 qr6 qr7 qr8 qq0 qq1 qq2 qq3 qq4 qq5 qq6 qq7 qq8
          replace bb0 := bb0.trans (b2.mono bb0.size)
          replace R0 := R0.later b2
          replace Q0 := Q0.later b2
          replace h1 := h1.below b2
          replace k1 := k1.below b2
          replace h2 := h2.below b2
          replace k2 := k2.below b2
          replace h3 := h3.below b2
          replace k3 := k3.below b2
          have qr0 := R0.cell' (i := 0) rfl
          have qq0 := Q0.cell' (i := 0) rfl
          have qr1 := R0.cell' (i := 1) rfl
          have qq1 := Q0.cell' (i := 1) rfl
          have qr2 := R0.cell' (i := 2) rfl
          have qq2 := Q0.cell' (i := 2) rfl
          have qr3 := R0.cell' (i := 3) rfl
          have qq3 := Q0.cell' (i := 3) rfl
          have qr4 := R0.cell' (i := 4) rfl
          have qq4 := Q0.cell' (i := 4) rfl
          have qr5 := R0.cell' (i := 5) rfl
          have qq5 := Q0.cell' (i := 5) rfl
          have qr6 := R0.cell' (i := 6) rfl
          have qq6 := Q0.cell' (i := 6) rfl
          have qr7 := R0.cell' (i := 7) rfl
          have qq7 := Q0.cell' (i := 7) rfl
          have qr8 := R0.cell' (i := 8) rfl
          have qq8 := Q0.cell' (i := 8) rfl
          go_wp2_with fail
          refine (C2.out _ h2 k2).mono ?_
          rintro e w3 ⟨rfl, b3⟩
          clear qr0 qr1 qr2 qr3 qr4 qr5 qr6 qr7 qr8 qq0 qq1 qq2 qq3 qq4 qq5 qq6 qq7 qq8
          replace bb0 := bb0.trans (b3.mono bb0.size)
          replace R0 := R0.later b3
          replace Q0 := Q0.later b3
          replace h1 := h1.below b3
          replace k1 := k1.below b3
          replace h2 := h2.below b3
          replace k2 := k2.below b3
          replace h3 := h3.below b3
          replace k3 := k3.below b3
          have qr0 := R0.cell' (i := 0) rfl
          have qq0 := Q0.cell' (i := 0) rfl
          have qr1 := R0.cell' (i := 1) rfl
          have qq1 := Q0.cell' (i := 1) rfl
          have qr2 := R0.cell' (i := 2) rfl
          have qq2 := Q0.cell' (i := 2) rfl
          have qr3 := R0.cell' (i := 3) rfl
          have qq3 := Q0.cell' (i := 3) rfl
          have qr4 := R0.cell' (i := 4) rfl
          have qq4 := Q0.cell' (i := 4) rfl
          have qr5 := R0.cell' (i := 5) rfl
          have qq5 := Q0.cell' (i := 5) rfl
          have qr6 := R0.cell' (i := 6) rfl
          have qq6 := Q0.cell' (i := 6) rfl
          have qr7 := R0.cell' (i := 7) rfl
          have qq7 := Q0.cell' (i := 7) rfl
          have qr8 := R0.cell' (i := 8) rfl
          have qq8 := Q0.cell' (i := 8) rfl
          go_wp2_with fail
          refine (C3.out _ h3 k3).mono ?_
          rintro e w4 ⟨rfl, b4⟩
          clear qr0 qr1 qr2 qr3 qr4 qr5 qr6 qr7 qr8 qq0 qq1 qq2 qq3 qq4 qq5 qq6 qq7 qq8
          replace bb0 := bb0.trans (b4.mono bb0.size)
          go_wp2_with fail
          go_ret
          exact ⟨rfl, bb0⟩
        · cases d4
          · go_enter Try.func9, Try.ntmps9
            go_wp2_with fail
            refine (C0.out _ h1 k1).mono ?_
            rintro e w1 ⟨rfl, b1⟩
            replace bb0 := bb0.trans (b1.mono bb0.size)
            replace R0 := R0.later b1
            replace Q0 := Q0.later b1
            replace h1 := h1.below b1
            replace k1 := k1.below b1
            replace h2 := h2.below b1
            replace k2 := k2.below b1
            replace h3 := h3.below b1
            replace k3 := k3.below b1
            have qr0 := R0.cell' (i := 0) rfl
            have qq0 := Q0.cell' (i := 0) rfl
            have qr1 := R0.cell' (i := 1) rfl
            have qq1 := Q0.cell' (i := 1) rfl
            have qr2 := R0.cell' (i := 2) rfl
            have qq2 := Q0.cell' (i := 2) rfl
            have qr3 := R0.cell' (i := 3) rfl
            have qq3 := Q0.cell' (i := 3) rfl
            have qr4 := R0.cell' (i := 4) rfl
            have qq4 := Q0.cell' (i := 4) rfl
            have qr5 := R0.cell' (i := 5) rfl
            have qq5 := Q0.cell' (i := 5) rfl
            have qr6 := R0.cell' (i := 6) rfl
            have qq6 := Q0.cell' (i := 6) rfl
            have qr7 := R0.cell' (i := 7) rfl
            have qq7 := Q0.cell' (i := 7) rfl
            have qr8 := R0.cell' (i := 8) rfl
            have qq8 := Q0.cell' (i := 8) rfl
            go_wp2_with fail
            refine (C1.out _ ).mono ?_
            rintro e w2 ⟨rfl, b2⟩
            clear qr0 qr1 qr2 qr3 qr4 qr5 qr6 qr7 qr8 qq0 qq1 qq2 qq3 qq4 qq5 qq6 qq7 qq8
            replace bb0 := bb0.trans (b2.mono bb0.size)
            replace R0 := R0.later b2
            replace Q0 := Q0.later b2
            replace h1 := h1.below b2
            replace k1 := k1.below b2
            replace h2 := h2.below b2
            replace k2 := k2.below b2
            replace h3 := h3.below b2
            replace k3 := k3.below b2
            have qr0 := R0.cell' (i := 0) rfl
            have qq0 := Q0.cell' (i := 0) rfl
            have qr1 := R0.cell' (i := 1) rfl
            have qq1 := Q0.cell' (i := 1) rfl
            have qr2 := R0.cell' (i := 2) rfl
            have qq2 := Q0.cell' (i := 2) rfl
            have qr3 := R0.cell' (i := 3) rfl
            have qq3 := Q0.cell' (i := 3) rfl
            have qr4 := R0.cell' (i := 4) rfl
            have qq4 := Q0.cell' (i := 4) rfl
            have qr5 := R0.cell' (i := 5) rfl
            have qq5 := Q0.cell' (i := 5) rfl
            have qr6 := R0.cell' (i := 6) rfl
            have qq6 := Q0.cell' (i := 6) rfl
            have qr7 := R0.cell' (i := 7) rfl
            have qq7 := Q0.cell' (i := 7) rfl
            have qr8 := R0.cell' (i := 8) rfl
            have qq8 := Q0.cell' (i := 8) rfl
            go_wp2_with fail
            refine (C2.out _ h2 k2).mono ?_
            rintro e w3 ⟨rfl, b3⟩
            clear qr0 qr1 qr2 qr3 qr4 qr5 qr6 qr7 qr8 qq0 qq1 qq2 qq3 qq4 qq5 qq6 qq7 qq8
            replace bb0 := bb0.trans (b3.mono bb0.size)
            replace R0 := R0.later b3
            replace Q0 := Q0.later b3
            replace h1 := h1.below b3
            replace k1 := k1.below b3
            replace h2 := h2.below b3
            replace k2 := k2.below b3
            replace h3 := h3.below b3
            replace k3 := k3.below b3
            have qr0 := R0.cell' (i := 0) rfl
            have qq0 := Q0.cell' (i := 0) rfl
            have qr1 := R0.cell' (i := 1) rfl
            have qq1 := Q0.cell' (i := 1) rfl
            have qr2 := R0.cell' (i := 2) rfl
            have qq2 := Q0.cell' (i := 2) rfl
            have qr3 := R0.cell' (i := 3) rfl
            have qq3 := Q0.cell' (i := 3) rfl
            have qr4 := R0.cell' (i := 4) rfl
            have qq4 := Q0.cell' (i := 4) rfl
            have qr5 := R0.cell' (i := 5) rfl
            have qq5 := Q0.cell' (i := 5) rfl
            have qr6 := R0.cell' (i := 6) rfl
            have qq6 := Q0.cell' (i := 6) rfl
            have qr7 := R0.cell' (i := 7) rfl
            have qq7 := Q0.cell' (i := 7) rfl
            have qr8 := R0.cell' (i := 8) rfl
            have qq8 := Q0.cell' (i := 8) rfl
            go_wp2_with fail
            refine (C3.out _ h3 k3).mono ?_
            rintro e w4 ⟨rfl, b4⟩
            clear qr0 qr1 qr2 qr3 qr4 qr5 qr6 qr7 qr8 qq0 qq1 qq2 qq3 qq4 qq5 qq6 qq7 qq8
            replace bb0 := bb0.trans (b4.mono bb0.size)
            replace R0 := R0.later b4
            replace Q0 := Q0.later b4
            replace h1 := h1.below b4
            replace k1 := k1.below b4
            replace h2 := h2.below b4
            replace k2 := k2.below b4
            replace h3 := h3.below b4
            replace k3 := k3.below b4
            have qr0 := R0.cell' (i := 0) rfl
            have qq0 := Q0.cell' (i := 0) rfl
            have qr1 := R0.cell' (i := 1) rfl
            have qq1 := Q0.cell' (i := 1) rfl
            have qr2 := R0.cell' (i := 2) rfl
            have qq2 := Q0.cell' (i := 2) rfl
            have qr3 := R0.cell' (i := 3) rfl
            have qq3 := Q0.cell' (i := 3) rfl
            have qr4 := R0.cell' (i := 4) rfl
            have qq4 := Q0.cell' (i := 4) rfl
            have qr5 := R0.cell' (i := 5) rfl
            have qq5 := Q0.cell' (i := 5) rfl
            have qr6 := R0.cell' (i := 6) rfl
            have qq6 := Q0.cell' (i := 6) rfl
            have qr7 := R0.cell' (i := 7) rfl
            have qq7 := Q0.cell' (i := 7) rfl
            have qr8 := R0.cell' (i := 8) rfl
            have qq8 := Q0.cell' (i := 8) rfl
            go_wp2_with fail
            go_ret
            exact ⟨rfl, bb0⟩
          · go_enter Try.func9, Try.ntmps9
            go_wp2_with fail
            refine (C0.out _ h1 k1).mono ?_
            rintro e w1 ⟨rfl, b1⟩
            replace bb0 := bb0.trans (b1.mono bb0.size)
            replace R0 := R0.later b1
            replace Q0 := Q0.later b1
            replace h1 := h1.below b1
            replace k1 := k1.below b1
            replace h2 := h2.below b1
            replace k2 := k2.below b1
            replace h3 := h3.below b1
            replace k3 := k3.below b1
            have qr0 := R0.cell' (i := 0) rfl
            have qq0 := Q0.cell' (i := 0) rfl
            have qr1 := R0.cell' (i := 1) rfl
            have qq1 := Q0.cell' (i := 1) rfl
            have qr2 := R0.cell' (i := 2) rfl
            have qq2 := Q0.cell' (i := 2) rfl
            have qr3 := R0.cell' (i := 3) rfl
            have qq3 := Q0.cell' (i := 3) rfl
            have qr4 := R0.cell' (i := 4) rfl
            have qq4 := Q0.cell' (i := 4) rfl
            have qr5 := R0.cell' (i := 5) rfl
            have qq5 := Q0.cell' (i := 5) rfl
            have qr6 := R0.cell' (i := 6) rfl
            have qq6 := Q0.cell' (i := 6) rfl
            have qr7 := R0.cell' (i := 7) rfl
            have qq7 := Q0.cell' (i := 7) rfl
            have qr8 := R0.cell' (i := 8) rfl
            have qq8 := Q0.cell' (i := 8) rfl
            go_wp2_with fail
            refine (C1.out _ ).mono ?_
            rintro e w2 ⟨rfl, b2⟩
            clear qr0 qr1 qr2 qr3 qr4 qr5 qr6 qr7 qr8 qq0 qq1 qq2 qq3 qq4 qq5 qq6 qq7 qq8
            replace bb0 := bb0.trans (b2.mono bb0.size)
            replace R0 := R0.later b2
            replace Q0 := Q0.later b2
            replace h1 := h1.below b2
            replace k1 := k1.below b2
            replace h2 := h2.below b2
            replace k2 := k2.below b2
            replace h3 := h3.below b2
            replace k3 := k3.below b2
            have qr0 := R0.cell' (i := 0) rfl
            have qq0 := Q0.cell' (i := 0) rfl
            have qr1 := R0.cell' (i := 1) rfl
            have qq1 := Q0.cell' (i := 1) rfl
            have qr2 := R0.cell' (i := 2) rfl
            have qq2 := Q0.cell' (i := 2) rfl
            have qr3 := R0.cell' (i := 3) rfl
            have qq3 := Q0.cell' (i := 3) rfl
            have qr4 := R0.cell' (i := 4) rfl
            have qq4 := Q0.cell' (i := 4) rfl
            have qr5 := R0.cell' (i := 5) rfl
            have qq5 := Q0.cell' (i := 5) rfl
            have qr6 := R0.cell' (i := 6) rfl
            have qq6 := Q0.cell' (i := 6) rfl
            have qr7 := R0.cell' (i := 7) rfl
            have qq7 := Q0.cell' (i := 7) rfl
            have qr8 := R0.cell' (i := 8) rfl
            have qq8 := Q0.cell' (i := 8) rfl
            go_wp2_with fail
            refine (C2.out _ h2 k2).mono ?_
            rintro e w3 ⟨rfl, b3⟩
            clear qr0 qr1 qr2 qr3 qr4 qr5 qr6 qr7 qr8 qq0 qq1 qq2 qq3 qq4 qq5 qq6 qq7 qq8
            replace bb0 := bb0.trans (b3.mono bb0.size)
            replace R0 := R0.later b3
            replace Q0 := Q0.later b3
            replace h1 := h1.below b3
            replace k1 := k1.below b3
            replace h2 := h2.below b3
            replace k2 := k2.below b3
            replace h3 := h3.below b3
            replace k3 := k3.below b3
            have qr0 := R0.cell' (i := 0) rfl
            have qq0 := Q0.cell' (i := 0) rfl
            have qr1 := R0.cell' (i := 1) rfl
            have qq1 := Q0.cell' (i := 1) rfl
            have qr2 := R0.cell' (i := 2) rfl
            have qq2 := Q0.cell' (i := 2) rfl
            have qr3 := R0.cell' (i := 3) rfl
            have qq3 := Q0.cell' (i := 3) rfl
            have qr4 := R0.cell' (i := 4) rfl
            have qq4 := Q0.cell' (i := 4) rfl
            have qr5 := R0.cell' (i := 5) rfl
            have qq5 := Q0.cell' (i := 5) rfl
            have qr6 := R0.cell' (i := 6) rfl
            have qq6 := Q0.cell' (i := 6) rfl
            have qr7 := R0.cell' (i := 7) rfl
            have qq7 := Q0.cell' (i := 7) rfl
            have qr8 := R0.cell' (i := 8) rfl
            have qq8 := Q0.cell' (i := 8) rfl
            go_wp2_with fail
            refine (C3.out _ h3 k3).mono ?_
            rintro e w4 ⟨rfl, b4⟩
            clear qr0 qr1 qr2 qr3 qr4 qr5 qr6 qr7 qr8 qq0 qq1 qq2 qq3 qq4 qq5 qq6 qq7 qq8
            replace bb0 := bb0.trans (b4.mono bb0.size)
            replace R0 := R0.later b4
            replace Q0 := Q0.later b4
            replace h1 := h1.below b4
            replace k1 := k1.below b4
            replace h2 := h2.below b4
            replace k2 := k2.below b4
            replace h3 := h3.below b4
            replace k3 := k3.below b4
            have qr0 := R0.cell' (i := 0) rfl
            have qq0 := Q0.cell' (i := 0) rfl
            have qr1 := R0.cell' (i := 1) rfl
            have qq1 := Q0.cell' (i := 1) rfl
            have qr2 := R0.cell' (i := 2) rfl
            have qq2 := Q0.cell' (i := 2) rfl
            have qr3 := R0.cell' (i := 3) rfl
            have qq3 := Q0.cell' (i := 3) rfl
            have qr4 := R0.cell' (i := 4) rfl
            have qq4 := Q0.cell' (i := 4) rfl
            have qr5 := R0.cell' (i := 5) rfl
            have qq5 := Q0.cell' (i := 5) rfl
            have qr6 := R0.cell' (i := 6) rfl
            have qq6 := Q0.cell' (i := 6) rfl
            have qr7 := R0.cell' (i := 7) rfl
            have qq7 := Q0.cell' (i := 7) rfl
            have qr8 := R0.cell' (i := 8) rfl
            have qq8 := Q0.cell' (i := 8) rfl
            go_wp2_with fail
            go_ret
            exact ⟨rfl, bb0⟩
set_option maxRecDepth 100000 in
set_option maxHeartbeats 4000000 in
theorem eqSession_c {oa ob : Bool} {ef et ee eb pe es ep ef' et' ee' eb' pe' es' ep' : TypeId} {p q : PSess} {a1 b1 c1 d1 g1 x1 a2 b2 c2 d2 g2 x2 : Value} {F1 F2 F3 F4 F5 F6 G1 G2 G3 G4 G5 G6 : List Nat} (w : World) (h1 : (pTemps ef et).rep oa w p.setup.temps [a1] F1) (h2 : (pEntrys ee).rep oa w p.setup.entries [b1] F2) (h3 : (pBigrams eb).rep oa w p.setup.bigrams [c1] F3) (h4 : (pStrokes pe es).rep oa w p.strokes [d1] F4) (h5 : (pPoints ep).rep oa w p.opn [g1] F5) (h6 : (strs 9).rep oa w p.words [x1] F6) (k1 : (pTemps ef' et').rep ob w q.setup.temps [a2] G1) (k2 : (pEntrys ee').rep ob w q.setup.entries [b2] G2) (k3 : (pBigrams eb').rep ob w q.setup.bigrams [c2] G3) (k4 : (pStrokes pe' es').rep ob w q.strokes [d2] G4) (k5 : (pPoints ep').rep ob w q.opn [g2] G5) (k6 : (strs 9).rep ob w q.words [x2] G6) (hp : SsSmall p) (hq : SsSmall q) :
    Calls Try.prog 14 #[.agg #[.int .i64 p.setup.band, a1, .int .i64 p.setup.points, .int .i64 p.setup.most, .int .i64 p.setup.pen, b1, .int .i64 p.setup.dflt, c1, .int .i64 p.setup.pause, d1, g1, .int .i64 p.time, x1], .agg #[.int .i64 q.setup.band, a2, .int .i64 q.setup.points, .int .i64 q.setup.most, .int .i64 q.setup.pen, b2, .int .i64 q.setup.dflt, c2, .int .i64 q.setup.pause, d2, g2, .int .i64 q.time, x2]] w fun e w' => e = .returned (.bool (sameSessB p q)) ∧ Below w.heap.size w w' := by
  obtain ⟨Aa1, ka1, rfl⟩ := slice_len h1
  obtain ⟨Ab1, kb1, rfl⟩ := slice_len h2
  obtain ⟨Ac1, kc1, rfl⟩ := slice_len h3
  obtain ⟨Ad1, kd1, rfl⟩ := slice_len h4
  obtain ⟨Ag1, kg1, rfl⟩ := slice_len h5
  obtain ⟨Ax1, kx1, rfl⟩ := slice_len h6
  obtain ⟨Aa2, ka2, rfl⟩ := slice_len k1
  obtain ⟨Ab2, kb2, rfl⟩ := slice_len k2
  obtain ⟨Ac2, kc2, rfl⟩ := slice_len k3
  obtain ⟨Ad2, kd2, rfl⟩ := slice_len k4
  obtain ⟨Ag2, kg2, rfl⟩ := slice_len k5
  obtain ⟨Ax2, kx2, rfl⟩ := slice_len k6
  unfold sameSessB
  have C0 := Lib.hid (fun w' (q0 : (pTemps ef et).rep oa w' p.setup.temps [.slice Aa1 p.setup.temps.length ka1] F1) (q1 : (pEntrys ee).rep oa w' p.setup.entries [.slice Ab1 p.setup.entries.length kb1] F2) (q2 : (pBigrams eb).rep oa w' p.setup.bigrams [.slice Ac1 p.setup.bigrams.length kc1] F3) (q3 : (pTemps ef' et').rep ob w' q.setup.temps [.slice Aa2 q.setup.temps.length ka2] G1) (q4 : (pEntrys ee').rep ob w' q.setup.entries [.slice Ab2 q.setup.entries.length kb2] G2) (q5 : (pBigrams eb').rep ob w' q.setup.bigrams [.slice Ac2 q.setup.bigrams.length kc2] G3) => eqSetup_c (p := p.setup) (q := q.setup) w' q0 q1 q2 q3 q4 q5 hp.s hq.s)
  have C1 := Lib.hid (fun w' (q0 : (pStrokes pe es).rep oa w' p.strokes [.slice Ad1 p.strokes.length kd1] F4) (q1 : (pStrokes pe' es').rep ob w' q.strokes [.slice Ad2 q.strokes.length kd2] G4) => eqInk_c w' q0 q1 hp.i hq.i hp.j hq.j)
  have C2 := Lib.hid (fun w' (q0 : (pPoints ep).rep oa w' p.opn [.slice Ag1 p.opn.length kg1] F5) (q1 : (pPoints ep').rep ob w' q.opn [.slice Ag2 q.opn.length kg2] G5) => eqPointS_c w' q0 q1 hp.o hq.o)
  have C4 := Lib.hid (fun w' (q0 : (strs 9).rep oa w' p.words [.slice Ax1 p.words.length kx1] F6) (q1 : (strs 9).rep ob w' q.words [.slice Ax2 q.words.length kx2] G6) => eqStringS_c w' q0 q1 hp.w hq.w)
  have g3 : (p.time != q.time) = !(decide (p.time = q.time)) := by by_cases hh : p.time = q.time <;> simp [hh]
  generalize sameSetupB p.setup q.setup = d0 at *
  generalize decide (p.strokes = q.strokes) = d1 at *
  generalize decide (p.opn = q.opn) = d2 at *
  generalize decide (p.time = q.time) = d3 at *
  generalize decide (p.words = q.words) = d4 at *
  have R0 := (Row.new w 66 #[.int .i64 p.setup.band, .slice Aa1 p.setup.temps.length ka1, .int .i64 p.setup.points, .int .i64 p.setup.most, .int .i64 p.setup.pen, .slice Ab1 p.setup.entries.length kb1, .int .i64 p.setup.dflt, .slice Ac1 p.setup.bigrams.length kc1, .int .i64 p.setup.pause, .slice Ad1 p.strokes.length kd1, .slice Ag1 p.opn.length kg1, .int .i64 p.time, .slice Ax1 p.words.length kx1]).alloc (.cells #[.int .i64 q.setup.band, .slice Aa2 q.setup.temps.length ka2, .int .i64 q.setup.points, .int .i64 q.setup.most, .int .i64 q.setup.pen, .slice Ab2 q.setup.entries.length kb2, .int .i64 q.setup.dflt, .slice Ac2 q.setup.bigrams.length kc2, .int .i64 q.setup.pause, .slice Ad2 q.strokes.length kd2, .slice Ag2 q.opn.length kg2, .int .i64 q.time, .slice Ax2 q.words.length kx2] 66)
  have Q0 := Row.new (w.alloc (.cells #[.int .i64 p.setup.band, .slice Aa1 p.setup.temps.length ka1, .int .i64 p.setup.points, .int .i64 p.setup.most, .int .i64 p.setup.pen, .slice Ab1 p.setup.entries.length kb1, .int .i64 p.setup.dflt, .slice Ac1 p.setup.bigrams.length kc1, .int .i64 p.setup.pause, .slice Ad1 p.strokes.length kd1, .slice Ag1 p.opn.length kg1, .int .i64 p.time, .slice Ax1 p.words.length kx1] 66)) 66 #[.int .i64 q.setup.band, .slice Aa2 q.setup.temps.length ka2, .int .i64 q.setup.points, .int .i64 q.setup.most, .int .i64 q.setup.pen, .slice Ab2 q.setup.entries.length kb2, .int .i64 q.setup.dflt, .slice Ac2 q.setup.bigrams.length kc2, .int .i64 q.setup.pause, .slice Ad2 q.strokes.length kd2, .slice Ag2 q.opn.length kg2, .int .i64 q.time, .slice Ax2 q.words.length kx2]
  simp only [World.size_alloc] at Q0
  have bb0 : Below w.heap.size w ((w.alloc (.cells #[.int .i64 p.setup.band, .slice Aa1 p.setup.temps.length ka1, .int .i64 p.setup.points, .int .i64 p.setup.most, .int .i64 p.setup.pen, .slice Ab1 p.setup.entries.length kb1, .int .i64 p.setup.dflt, .slice Ac1 p.setup.bigrams.length kc1, .int .i64 p.setup.pause, .slice Ad1 p.strokes.length kd1, .slice Ag1 p.opn.length kg1, .int .i64 p.time, .slice Ax1 p.words.length kx1] 66)).alloc (.cells #[.int .i64 q.setup.band, .slice Aa2 q.setup.temps.length ka2, .int .i64 q.setup.points, .int .i64 q.setup.most, .int .i64 q.setup.pen, .slice Ab2 q.setup.entries.length kb2, .int .i64 q.setup.dflt, .slice Ac2 q.setup.bigrams.length kc2, .int .i64 q.setup.pause, .slice Ad2 q.strokes.length kd2, .slice Ag2 q.opn.length kg2, .int .i64 q.time, .slice Ax2 q.words.length kx2] 66)) := ((Below.refl _ _).alloc (Nat.le_refl _) _).alloc (by simp) _
  replace h1 := (h1.alloc (.cells #[.int .i64 p.setup.band, .slice Aa1 p.setup.temps.length ka1, .int .i64 p.setup.points, .int .i64 p.setup.most, .int .i64 p.setup.pen, .slice Ab1 p.setup.entries.length kb1, .int .i64 p.setup.dflt, .slice Ac1 p.setup.bigrams.length kc1, .int .i64 p.setup.pause, .slice Ad1 p.strokes.length kd1, .slice Ag1 p.opn.length kg1, .int .i64 p.time, .slice Ax1 p.words.length kx1] 66)).alloc (.cells #[.int .i64 q.setup.band, .slice Aa2 q.setup.temps.length ka2, .int .i64 q.setup.points, .int .i64 q.setup.most, .int .i64 q.setup.pen, .slice Ab2 q.setup.entries.length kb2, .int .i64 q.setup.dflt, .slice Ac2 q.setup.bigrams.length kc2, .int .i64 q.setup.pause, .slice Ad2 q.strokes.length kd2, .slice Ag2 q.opn.length kg2, .int .i64 q.time, .slice Ax2 q.words.length kx2] 66)
  replace h2 := (h2.alloc (.cells #[.int .i64 p.setup.band, .slice Aa1 p.setup.temps.length ka1, .int .i64 p.setup.points, .int .i64 p.setup.most, .int .i64 p.setup.pen, .slice Ab1 p.setup.entries.length kb1, .int .i64 p.setup.dflt, .slice Ac1 p.setup.bigrams.length kc1, .int .i64 p.setup.pause, .slice Ad1 p.strokes.length kd1, .slice Ag1 p.opn.length kg1, .int .i64 p.time, .slice Ax1 p.words.length kx1] 66)).alloc (.cells #[.int .i64 q.setup.band, .slice Aa2 q.setup.temps.length ka2, .int .i64 q.setup.points, .int .i64 q.setup.most, .int .i64 q.setup.pen, .slice Ab2 q.setup.entries.length kb2, .int .i64 q.setup.dflt, .slice Ac2 q.setup.bigrams.length kc2, .int .i64 q.setup.pause, .slice Ad2 q.strokes.length kd2, .slice Ag2 q.opn.length kg2, .int .i64 q.time, .slice Ax2 q.words.length kx2] 66)
  replace h3 := (h3.alloc (.cells #[.int .i64 p.setup.band, .slice Aa1 p.setup.temps.length ka1, .int .i64 p.setup.points, .int .i64 p.setup.most, .int .i64 p.setup.pen, .slice Ab1 p.setup.entries.length kb1, .int .i64 p.setup.dflt, .slice Ac1 p.setup.bigrams.length kc1, .int .i64 p.setup.pause, .slice Ad1 p.strokes.length kd1, .slice Ag1 p.opn.length kg1, .int .i64 p.time, .slice Ax1 p.words.length kx1] 66)).alloc (.cells #[.int .i64 q.setup.band, .slice Aa2 q.setup.temps.length ka2, .int .i64 q.setup.points, .int .i64 q.setup.most, .int .i64 q.setup.pen, .slice Ab2 q.setup.entries.length kb2, .int .i64 q.setup.dflt, .slice Ac2 q.setup.bigrams.length kc2, .int .i64 q.setup.pause, .slice Ad2 q.strokes.length kd2, .slice Ag2 q.opn.length kg2, .int .i64 q.time, .slice Ax2 q.words.length kx2] 66)
  replace k1 := (k1.alloc (.cells #[.int .i64 p.setup.band, .slice Aa1 p.setup.temps.length ka1, .int .i64 p.setup.points, .int .i64 p.setup.most, .int .i64 p.setup.pen, .slice Ab1 p.setup.entries.length kb1, .int .i64 p.setup.dflt, .slice Ac1 p.setup.bigrams.length kc1, .int .i64 p.setup.pause, .slice Ad1 p.strokes.length kd1, .slice Ag1 p.opn.length kg1, .int .i64 p.time, .slice Ax1 p.words.length kx1] 66)).alloc (.cells #[.int .i64 q.setup.band, .slice Aa2 q.setup.temps.length ka2, .int .i64 q.setup.points, .int .i64 q.setup.most, .int .i64 q.setup.pen, .slice Ab2 q.setup.entries.length kb2, .int .i64 q.setup.dflt, .slice Ac2 q.setup.bigrams.length kc2, .int .i64 q.setup.pause, .slice Ad2 q.strokes.length kd2, .slice Ag2 q.opn.length kg2, .int .i64 q.time, .slice Ax2 q.words.length kx2] 66)
  replace k2 := (k2.alloc (.cells #[.int .i64 p.setup.band, .slice Aa1 p.setup.temps.length ka1, .int .i64 p.setup.points, .int .i64 p.setup.most, .int .i64 p.setup.pen, .slice Ab1 p.setup.entries.length kb1, .int .i64 p.setup.dflt, .slice Ac1 p.setup.bigrams.length kc1, .int .i64 p.setup.pause, .slice Ad1 p.strokes.length kd1, .slice Ag1 p.opn.length kg1, .int .i64 p.time, .slice Ax1 p.words.length kx1] 66)).alloc (.cells #[.int .i64 q.setup.band, .slice Aa2 q.setup.temps.length ka2, .int .i64 q.setup.points, .int .i64 q.setup.most, .int .i64 q.setup.pen, .slice Ab2 q.setup.entries.length kb2, .int .i64 q.setup.dflt, .slice Ac2 q.setup.bigrams.length kc2, .int .i64 q.setup.pause, .slice Ad2 q.strokes.length kd2, .slice Ag2 q.opn.length kg2, .int .i64 q.time, .slice Ax2 q.words.length kx2] 66)
  replace k3 := (k3.alloc (.cells #[.int .i64 p.setup.band, .slice Aa1 p.setup.temps.length ka1, .int .i64 p.setup.points, .int .i64 p.setup.most, .int .i64 p.setup.pen, .slice Ab1 p.setup.entries.length kb1, .int .i64 p.setup.dflt, .slice Ac1 p.setup.bigrams.length kc1, .int .i64 p.setup.pause, .slice Ad1 p.strokes.length kd1, .slice Ag1 p.opn.length kg1, .int .i64 p.time, .slice Ax1 p.words.length kx1] 66)).alloc (.cells #[.int .i64 q.setup.band, .slice Aa2 q.setup.temps.length ka2, .int .i64 q.setup.points, .int .i64 q.setup.most, .int .i64 q.setup.pen, .slice Ab2 q.setup.entries.length kb2, .int .i64 q.setup.dflt, .slice Ac2 q.setup.bigrams.length kc2, .int .i64 q.setup.pause, .slice Ad2 q.strokes.length kd2, .slice Ag2 q.opn.length kg2, .int .i64 q.time, .slice Ax2 q.words.length kx2] 66)
  replace h4 := (h4.alloc (.cells #[.int .i64 p.setup.band, .slice Aa1 p.setup.temps.length ka1, .int .i64 p.setup.points, .int .i64 p.setup.most, .int .i64 p.setup.pen, .slice Ab1 p.setup.entries.length kb1, .int .i64 p.setup.dflt, .slice Ac1 p.setup.bigrams.length kc1, .int .i64 p.setup.pause, .slice Ad1 p.strokes.length kd1, .slice Ag1 p.opn.length kg1, .int .i64 p.time, .slice Ax1 p.words.length kx1] 66)).alloc (.cells #[.int .i64 q.setup.band, .slice Aa2 q.setup.temps.length ka2, .int .i64 q.setup.points, .int .i64 q.setup.most, .int .i64 q.setup.pen, .slice Ab2 q.setup.entries.length kb2, .int .i64 q.setup.dflt, .slice Ac2 q.setup.bigrams.length kc2, .int .i64 q.setup.pause, .slice Ad2 q.strokes.length kd2, .slice Ag2 q.opn.length kg2, .int .i64 q.time, .slice Ax2 q.words.length kx2] 66)
  replace k4 := (k4.alloc (.cells #[.int .i64 p.setup.band, .slice Aa1 p.setup.temps.length ka1, .int .i64 p.setup.points, .int .i64 p.setup.most, .int .i64 p.setup.pen, .slice Ab1 p.setup.entries.length kb1, .int .i64 p.setup.dflt, .slice Ac1 p.setup.bigrams.length kc1, .int .i64 p.setup.pause, .slice Ad1 p.strokes.length kd1, .slice Ag1 p.opn.length kg1, .int .i64 p.time, .slice Ax1 p.words.length kx1] 66)).alloc (.cells #[.int .i64 q.setup.band, .slice Aa2 q.setup.temps.length ka2, .int .i64 q.setup.points, .int .i64 q.setup.most, .int .i64 q.setup.pen, .slice Ab2 q.setup.entries.length kb2, .int .i64 q.setup.dflt, .slice Ac2 q.setup.bigrams.length kc2, .int .i64 q.setup.pause, .slice Ad2 q.strokes.length kd2, .slice Ag2 q.opn.length kg2, .int .i64 q.time, .slice Ax2 q.words.length kx2] 66)
  replace h5 := (h5.alloc (.cells #[.int .i64 p.setup.band, .slice Aa1 p.setup.temps.length ka1, .int .i64 p.setup.points, .int .i64 p.setup.most, .int .i64 p.setup.pen, .slice Ab1 p.setup.entries.length kb1, .int .i64 p.setup.dflt, .slice Ac1 p.setup.bigrams.length kc1, .int .i64 p.setup.pause, .slice Ad1 p.strokes.length kd1, .slice Ag1 p.opn.length kg1, .int .i64 p.time, .slice Ax1 p.words.length kx1] 66)).alloc (.cells #[.int .i64 q.setup.band, .slice Aa2 q.setup.temps.length ka2, .int .i64 q.setup.points, .int .i64 q.setup.most, .int .i64 q.setup.pen, .slice Ab2 q.setup.entries.length kb2, .int .i64 q.setup.dflt, .slice Ac2 q.setup.bigrams.length kc2, .int .i64 q.setup.pause, .slice Ad2 q.strokes.length kd2, .slice Ag2 q.opn.length kg2, .int .i64 q.time, .slice Ax2 q.words.length kx2] 66)
  replace k5 := (k5.alloc (.cells #[.int .i64 p.setup.band, .slice Aa1 p.setup.temps.length ka1, .int .i64 p.setup.points, .int .i64 p.setup.most, .int .i64 p.setup.pen, .slice Ab1 p.setup.entries.length kb1, .int .i64 p.setup.dflt, .slice Ac1 p.setup.bigrams.length kc1, .int .i64 p.setup.pause, .slice Ad1 p.strokes.length kd1, .slice Ag1 p.opn.length kg1, .int .i64 p.time, .slice Ax1 p.words.length kx1] 66)).alloc (.cells #[.int .i64 q.setup.band, .slice Aa2 q.setup.temps.length ka2, .int .i64 q.setup.points, .int .i64 q.setup.most, .int .i64 q.setup.pen, .slice Ab2 q.setup.entries.length kb2, .int .i64 q.setup.dflt, .slice Ac2 q.setup.bigrams.length kc2, .int .i64 q.setup.pause, .slice Ad2 q.strokes.length kd2, .slice Ag2 q.opn.length kg2, .int .i64 q.time, .slice Ax2 q.words.length kx2] 66)
  replace h6 := (h6.alloc (.cells #[.int .i64 p.setup.band, .slice Aa1 p.setup.temps.length ka1, .int .i64 p.setup.points, .int .i64 p.setup.most, .int .i64 p.setup.pen, .slice Ab1 p.setup.entries.length kb1, .int .i64 p.setup.dflt, .slice Ac1 p.setup.bigrams.length kc1, .int .i64 p.setup.pause, .slice Ad1 p.strokes.length kd1, .slice Ag1 p.opn.length kg1, .int .i64 p.time, .slice Ax1 p.words.length kx1] 66)).alloc (.cells #[.int .i64 q.setup.band, .slice Aa2 q.setup.temps.length ka2, .int .i64 q.setup.points, .int .i64 q.setup.most, .int .i64 q.setup.pen, .slice Ab2 q.setup.entries.length kb2, .int .i64 q.setup.dflt, .slice Ac2 q.setup.bigrams.length kc2, .int .i64 q.setup.pause, .slice Ad2 q.strokes.length kd2, .slice Ag2 q.opn.length kg2, .int .i64 q.time, .slice Ax2 q.words.length kx2] 66)
  replace k6 := (k6.alloc (.cells #[.int .i64 p.setup.band, .slice Aa1 p.setup.temps.length ka1, .int .i64 p.setup.points, .int .i64 p.setup.most, .int .i64 p.setup.pen, .slice Ab1 p.setup.entries.length kb1, .int .i64 p.setup.dflt, .slice Ac1 p.setup.bigrams.length kc1, .int .i64 p.setup.pause, .slice Ad1 p.strokes.length kd1, .slice Ag1 p.opn.length kg1, .int .i64 p.time, .slice Ax1 p.words.length kx1] 66)).alloc (.cells #[.int .i64 q.setup.band, .slice Aa2 q.setup.temps.length ka2, .int .i64 q.setup.points, .int .i64 q.setup.most, .int .i64 q.setup.pen, .slice Ab2 q.setup.entries.length kb2, .int .i64 q.setup.dflt, .slice Ac2 q.setup.bigrams.length kc2, .int .i64 q.setup.pause, .slice Ad2 q.strokes.length kd2, .slice Ag2 q.opn.length kg2, .int .i64 q.time, .slice Ax2 q.words.length kx2] 66)
  cases d0
  · go_enter Try.func14, Try.ntmps14
    go_wp2_with fail
    refine (C0.out _ h1 h2 h3 k1 k2 k3).mono ?_
    rintro e w1 ⟨rfl, b1⟩
    replace bb0 := bb0.trans (b1.mono bb0.size)
    go_wp2_with fail
    go_ret
    exact ⟨rfl, bb0⟩
  · cases d1
    · go_enter Try.func14, Try.ntmps14
      go_wp2_with fail
      refine (C0.out _ h1 h2 h3 k1 k2 k3).mono ?_
      rintro e w1 ⟨rfl, b1⟩
      replace bb0 := bb0.trans (b1.mono bb0.size)
      replace R0 := R0.later b1
      replace Q0 := Q0.later b1
      replace h1 := h1.below b1
      replace h2 := h2.below b1
      replace h3 := h3.below b1
      replace k1 := k1.below b1
      replace k2 := k2.below b1
      replace k3 := k3.below b1
      replace h4 := h4.below b1
      replace k4 := k4.below b1
      replace h5 := h5.below b1
      replace k5 := k5.below b1
      replace h6 := h6.below b1
      replace k6 := k6.below b1
      have qr0 := R0.cell' (i := 0) rfl
      have qq0 := Q0.cell' (i := 0) rfl
      have qr1 := R0.cell' (i := 1) rfl
      have qq1 := Q0.cell' (i := 1) rfl
      have qr2 := R0.cell' (i := 2) rfl
      have qq2 := Q0.cell' (i := 2) rfl
      have qr3 := R0.cell' (i := 3) rfl
      have qq3 := Q0.cell' (i := 3) rfl
      have qr4 := R0.cell' (i := 4) rfl
      have qq4 := Q0.cell' (i := 4) rfl
      have qr5 := R0.cell' (i := 5) rfl
      have qq5 := Q0.cell' (i := 5) rfl
      have qr6 := R0.cell' (i := 6) rfl
      have qq6 := Q0.cell' (i := 6) rfl
      have qr7 := R0.cell' (i := 7) rfl
      have qq7 := Q0.cell' (i := 7) rfl
      have qr8 := R0.cell' (i := 8) rfl
      have qq8 := Q0.cell' (i := 8) rfl
      have qr9 := R0.cell' (i := 9) rfl
      have qq9 := Q0.cell' (i := 9) rfl
      have qr10 := R0.cell' (i := 10) rfl
      have qq10 := Q0.cell' (i := 10) rfl
      have qr11 := R0.cell' (i := 11) rfl
      have qq11 := Q0.cell' (i := 11) rfl
      have qr12 := R0.cell' (i := 12) rfl
      have qq12 := Q0.cell' (i := 12) rfl
      go_wp2_with fail
      refine (C1.out _ h4 k4).mono ?_
      rintro e w2 ⟨rfl, b2⟩
      clear qr0 qr1 qr2 qr3 qr4 qr5 qr6 qr7 qr8 qr9 qr10 qr11 qr12 qq0 qq1 qq2 qq3 qq4 qq5 qq6 qq7 qq8 qq9 qq10 qq11 qq12
      replace bb0 := bb0.trans (b2.mono bb0.size)
      go_wp2_with fail
      go_ret
      exact ⟨rfl, bb0⟩
    · cases d2
      · go_enter Try.func14, Try.ntmps14
        go_wp2_with fail
        refine (C0.out _ h1 h2 h3 k1 k2 k3).mono ?_
        rintro e w1 ⟨rfl, b1⟩
        replace bb0 := bb0.trans (b1.mono bb0.size)
        replace R0 := R0.later b1
        replace Q0 := Q0.later b1
        replace h1 := h1.below b1
        replace h2 := h2.below b1
        replace h3 := h3.below b1
        replace k1 := k1.below b1
        replace k2 := k2.below b1
        replace k3 := k3.below b1
        replace h4 := h4.below b1
        replace k4 := k4.below b1
        replace h5 := h5.below b1
        replace k5 := k5.below b1
        replace h6 := h6.below b1
        replace k6 := k6.below b1
        have qr0 := R0.cell' (i := 0) rfl
        have qq0 := Q0.cell' (i := 0) rfl
        have qr1 := R0.cell' (i := 1) rfl
        have qq1 := Q0.cell' (i := 1) rfl
        have qr2 := R0.cell' (i := 2) rfl
        have qq2 := Q0.cell' (i := 2) rfl
        have qr3 := R0.cell' (i := 3) rfl
        have qq3 := Q0.cell' (i := 3) rfl
        have qr4 := R0.cell' (i := 4) rfl
        have qq4 := Q0.cell' (i := 4) rfl
        have qr5 := R0.cell' (i := 5) rfl
        have qq5 := Q0.cell' (i := 5) rfl
        have qr6 := R0.cell' (i := 6) rfl
        have qq6 := Q0.cell' (i := 6) rfl
        have qr7 := R0.cell' (i := 7) rfl
        have qq7 := Q0.cell' (i := 7) rfl
        have qr8 := R0.cell' (i := 8) rfl
        have qq8 := Q0.cell' (i := 8) rfl
        have qr9 := R0.cell' (i := 9) rfl
        have qq9 := Q0.cell' (i := 9) rfl
        have qr10 := R0.cell' (i := 10) rfl
        have qq10 := Q0.cell' (i := 10) rfl
        have qr11 := R0.cell' (i := 11) rfl
        have qq11 := Q0.cell' (i := 11) rfl
        have qr12 := R0.cell' (i := 12) rfl
        have qq12 := Q0.cell' (i := 12) rfl
        go_wp2_with fail
        refine (C1.out _ h4 k4).mono ?_
        rintro e w2 ⟨rfl, b2⟩
        clear qr0 qr1 qr2 qr3 qr4 qr5 qr6 qr7 qr8 qr9 qr10 qr11 qr12 qq0 qq1 qq2 qq3 qq4 qq5 qq6 qq7 qq8 qq9 qq10 qq11 qq12
        replace bb0 := bb0.trans (b2.mono bb0.size)
        replace R0 := R0.later b2
        replace Q0 := Q0.later b2
        replace h1 := h1.below b2
        replace h2 := h2.below b2
        replace h3 := h3.below b2
        replace k1 := k1.below b2
        replace k2 := k2.below b2
        replace k3 := k3.below b2
        replace h4 := h4.below b2
        replace k4 := k4.below b2
        replace h5 := h5.below b2
        replace k5 := k5.below b2
        replace h6 := h6.below b2
        replace k6 := k6.below b2
        have qr0 := R0.cell' (i := 0) rfl
        have qq0 := Q0.cell' (i := 0) rfl
        have qr1 := R0.cell' (i := 1) rfl
        have qq1 := Q0.cell' (i := 1) rfl
        have qr2 := R0.cell' (i := 2) rfl
        have qq2 := Q0.cell' (i := 2) rfl
        have qr3 := R0.cell' (i := 3) rfl
        have qq3 := Q0.cell' (i := 3) rfl
        have qr4 := R0.cell' (i := 4) rfl
        have qq4 := Q0.cell' (i := 4) rfl
        have qr5 := R0.cell' (i := 5) rfl
        have qq5 := Q0.cell' (i := 5) rfl
        have qr6 := R0.cell' (i := 6) rfl
        have qq6 := Q0.cell' (i := 6) rfl
        have qr7 := R0.cell' (i := 7) rfl
        have qq7 := Q0.cell' (i := 7) rfl
        have qr8 := R0.cell' (i := 8) rfl
        have qq8 := Q0.cell' (i := 8) rfl
        have qr9 := R0.cell' (i := 9) rfl
        have qq9 := Q0.cell' (i := 9) rfl
        have qr10 := R0.cell' (i := 10) rfl
        have qq10 := Q0.cell' (i := 10) rfl
        have qr11 := R0.cell' (i := 11) rfl
        have qq11 := Q0.cell' (i := 11) rfl
        have qr12 := R0.cell' (i := 12) rfl
        have qq12 := Q0.cell' (i := 12) rfl
        go_wp2_with fail
        refine (C2.out _ h5 k5).mono ?_
        rintro e w3 ⟨rfl, b3⟩
        clear qr0 qr1 qr2 qr3 qr4 qr5 qr6 qr7 qr8 qr9 qr10 qr11 qr12 qq0 qq1 qq2 qq3 qq4 qq5 qq6 qq7 qq8 qq9 qq10 qq11 qq12
        replace bb0 := bb0.trans (b3.mono bb0.size)
        go_wp2_with fail
        go_ret
        exact ⟨rfl, bb0⟩
      · cases d3
        · go_enter Try.func14, Try.ntmps14
          go_wp2_with fail
          refine (C0.out _ h1 h2 h3 k1 k2 k3).mono ?_
          rintro e w1 ⟨rfl, b1⟩
          replace bb0 := bb0.trans (b1.mono bb0.size)
          replace R0 := R0.later b1
          replace Q0 := Q0.later b1
          replace h1 := h1.below b1
          replace h2 := h2.below b1
          replace h3 := h3.below b1
          replace k1 := k1.below b1
          replace k2 := k2.below b1
          replace k3 := k3.below b1
          replace h4 := h4.below b1
          replace k4 := k4.below b1
          replace h5 := h5.below b1
          replace k5 := k5.below b1
          replace h6 := h6.below b1
          replace k6 := k6.below b1
          have qr0 := R0.cell' (i := 0) rfl
          have qq0 := Q0.cell' (i := 0) rfl
          have qr1 := R0.cell' (i := 1) rfl
          have qq1 := Q0.cell' (i := 1) rfl
          have qr2 := R0.cell' (i := 2) rfl
          have qq2 := Q0.cell' (i := 2) rfl
          have qr3 := R0.cell' (i := 3) rfl
          have qq3 := Q0.cell' (i := 3) rfl
          have qr4 := R0.cell' (i := 4) rfl
          have qq4 := Q0.cell' (i := 4) rfl
          have qr5 := R0.cell' (i := 5) rfl
          have qq5 := Q0.cell' (i := 5) rfl
          have qr6 := R0.cell' (i := 6) rfl
          have qq6 := Q0.cell' (i := 6) rfl
          have qr7 := R0.cell' (i := 7) rfl
          have qq7 := Q0.cell' (i := 7) rfl
          have qr8 := R0.cell' (i := 8) rfl
          have qq8 := Q0.cell' (i := 8) rfl
          have qr9 := R0.cell' (i := 9) rfl
          have qq9 := Q0.cell' (i := 9) rfl
          have qr10 := R0.cell' (i := 10) rfl
          have qq10 := Q0.cell' (i := 10) rfl
          have qr11 := R0.cell' (i := 11) rfl
          have qq11 := Q0.cell' (i := 11) rfl
          have qr12 := R0.cell' (i := 12) rfl
          have qq12 := Q0.cell' (i := 12) rfl
          go_wp2_with fail
          refine (C1.out _ h4 k4).mono ?_
          rintro e w2 ⟨rfl, b2⟩
          clear qr0 qr1 qr2 qr3 qr4 qr5 qr6 qr7 qr8 qr9 qr10 qr11 qr12 qq0 qq1 qq2 qq3 qq4 qq5 qq6 qq7 qq8 qq9 qq10 qq11 qq12
          replace bb0 := bb0.trans (b2.mono bb0.size)
          replace R0 := R0.later b2
          replace Q0 := Q0.later b2
          replace h1 := h1.below b2
          replace h2 := h2.below b2
          replace h3 := h3.below b2
          replace k1 := k1.below b2
          replace k2 := k2.below b2
          replace k3 := k3.below b2
          replace h4 := h4.below b2
          replace k4 := k4.below b2
          replace h5 := h5.below b2
          replace k5 := k5.below b2
          replace h6 := h6.below b2
          replace k6 := k6.below b2
          have qr0 := R0.cell' (i := 0) rfl
          have qq0 := Q0.cell' (i := 0) rfl
          have qr1 := R0.cell' (i := 1) rfl
          have qq1 := Q0.cell' (i := 1) rfl
          have qr2 := R0.cell' (i := 2) rfl
          have qq2 := Q0.cell' (i := 2) rfl
          have qr3 := R0.cell' (i := 3) rfl
          have qq3 := Q0.cell' (i := 3) rfl
          have qr4 := R0.cell' (i := 4) rfl
          have qq4 := Q0.cell' (i := 4) rfl
          have qr5 := R0.cell' (i := 5) rfl
          have qq5 := Q0.cell' (i := 5) rfl
          have qr6 := R0.cell' (i := 6) rfl
          have qq6 := Q0.cell' (i := 6) rfl
          have qr7 := R0.cell' (i := 7) rfl
          have qq7 := Q0.cell' (i := 7) rfl
          have qr8 := R0.cell' (i := 8) rfl
          have qq8 := Q0.cell' (i := 8) rfl
          have qr9 := R0.cell' (i := 9) rfl
          have qq9 := Q0.cell' (i := 9) rfl
          have qr10 := R0.cell' (i := 10) rfl
          have qq10 := Q0.cell' (i := 10) rfl
          have qr11 := R0.cell' (i := 11) rfl
          have qq11 := Q0.cell' (i := 11) rfl
          have qr12 := R0.cell' (i := 12) rfl
          have qq12 := Q0.cell' (i := 12) rfl
          go_wp2_with fail
          refine (C2.out _ h5 k5).mono ?_
          rintro e w3 ⟨rfl, b3⟩
          clear qr0 qr1 qr2 qr3 qr4 qr5 qr6 qr7 qr8 qr9 qr10 qr11 qr12 qq0 qq1 qq2 qq3 qq4 qq5 qq6 qq7 qq8 qq9 qq10 qq11 qq12
          replace bb0 := bb0.trans (b3.mono bb0.size)
          replace R0 := R0.later b3
          replace Q0 := Q0.later b3
          replace h1 := h1.below b3
          replace h2 := h2.below b3
          replace h3 := h3.below b3
          replace k1 := k1.below b3
          replace k2 := k2.below b3
          replace k3 := k3.below b3
          replace h4 := h4.below b3
          replace k4 := k4.below b3
          replace h5 := h5.below b3
          replace k5 := k5.below b3
          replace h6 := h6.below b3
          replace k6 := k6.below b3
          have qr0 := R0.cell' (i := 0) rfl
          have qq0 := Q0.cell' (i := 0) rfl
          have qr1 := R0.cell' (i := 1) rfl
          have qq1 := Q0.cell' (i := 1) rfl
          have qr2 := R0.cell' (i := 2) rfl
          have qq2 := Q0.cell' (i := 2) rfl
          have qr3 := R0.cell' (i := 3) rfl
          have qq3 := Q0.cell' (i := 3) rfl
          have qr4 := R0.cell' (i := 4) rfl
          have qq4 := Q0.cell' (i := 4) rfl
          have qr5 := R0.cell' (i := 5) rfl
          have qq5 := Q0.cell' (i := 5) rfl
          have qr6 := R0.cell' (i := 6) rfl
          have qq6 := Q0.cell' (i := 6) rfl
          have qr7 := R0.cell' (i := 7) rfl
          have qq7 := Q0.cell' (i := 7) rfl
          have qr8 := R0.cell' (i := 8) rfl
          have qq8 := Q0.cell' (i := 8) rfl
          have qr9 := R0.cell' (i := 9) rfl
          have qq9 := Q0.cell' (i := 9) rfl
          have qr10 := R0.cell' (i := 10) rfl
          have qq10 := Q0.cell' (i := 10) rfl
          have qr11 := R0.cell' (i := 11) rfl
          have qq11 := Q0.cell' (i := 11) rfl
          have qr12 := R0.cell' (i := 12) rfl
          have qq12 := Q0.cell' (i := 12) rfl
          go_wp2_with fail
          go_ret
          exact ⟨rfl, bb0⟩
        · cases d4
          · go_enter Try.func14, Try.ntmps14
            go_wp2_with fail
            refine (C0.out _ h1 h2 h3 k1 k2 k3).mono ?_
            rintro e w1 ⟨rfl, b1⟩
            replace bb0 := bb0.trans (b1.mono bb0.size)
            replace R0 := R0.later b1
            replace Q0 := Q0.later b1
            replace h1 := h1.below b1
            replace h2 := h2.below b1
            replace h3 := h3.below b1
            replace k1 := k1.below b1
            replace k2 := k2.below b1
            replace k3 := k3.below b1
            replace h4 := h4.below b1
            replace k4 := k4.below b1
            replace h5 := h5.below b1
            replace k5 := k5.below b1
            replace h6 := h6.below b1
            replace k6 := k6.below b1
            have qr0 := R0.cell' (i := 0) rfl
            have qq0 := Q0.cell' (i := 0) rfl
            have qr1 := R0.cell' (i := 1) rfl
            have qq1 := Q0.cell' (i := 1) rfl
            have qr2 := R0.cell' (i := 2) rfl
            have qq2 := Q0.cell' (i := 2) rfl
            have qr3 := R0.cell' (i := 3) rfl
            have qq3 := Q0.cell' (i := 3) rfl
            have qr4 := R0.cell' (i := 4) rfl
            have qq4 := Q0.cell' (i := 4) rfl
            have qr5 := R0.cell' (i := 5) rfl
            have qq5 := Q0.cell' (i := 5) rfl
            have qr6 := R0.cell' (i := 6) rfl
            have qq6 := Q0.cell' (i := 6) rfl
            have qr7 := R0.cell' (i := 7) rfl
            have qq7 := Q0.cell' (i := 7) rfl
            have qr8 := R0.cell' (i := 8) rfl
            have qq8 := Q0.cell' (i := 8) rfl
            have qr9 := R0.cell' (i := 9) rfl
            have qq9 := Q0.cell' (i := 9) rfl
            have qr10 := R0.cell' (i := 10) rfl
            have qq10 := Q0.cell' (i := 10) rfl
            have qr11 := R0.cell' (i := 11) rfl
            have qq11 := Q0.cell' (i := 11) rfl
            have qr12 := R0.cell' (i := 12) rfl
            have qq12 := Q0.cell' (i := 12) rfl
            go_wp2_with fail
            refine (C1.out _ h4 k4).mono ?_
            rintro e w2 ⟨rfl, b2⟩
            clear qr0 qr1 qr2 qr3 qr4 qr5 qr6 qr7 qr8 qr9 qr10 qr11 qr12 qq0 qq1 qq2 qq3 qq4 qq5 qq6 qq7 qq8 qq9 qq10 qq11 qq12
            replace bb0 := bb0.trans (b2.mono bb0.size)
            replace R0 := R0.later b2
            replace Q0 := Q0.later b2
            replace h1 := h1.below b2
            replace h2 := h2.below b2
            replace h3 := h3.below b2
            replace k1 := k1.below b2
            replace k2 := k2.below b2
            replace k3 := k3.below b2
            replace h4 := h4.below b2
            replace k4 := k4.below b2
            replace h5 := h5.below b2
            replace k5 := k5.below b2
            replace h6 := h6.below b2
            replace k6 := k6.below b2
            have qr0 := R0.cell' (i := 0) rfl
            have qq0 := Q0.cell' (i := 0) rfl
            have qr1 := R0.cell' (i := 1) rfl
            have qq1 := Q0.cell' (i := 1) rfl
            have qr2 := R0.cell' (i := 2) rfl
            have qq2 := Q0.cell' (i := 2) rfl
            have qr3 := R0.cell' (i := 3) rfl
            have qq3 := Q0.cell' (i := 3) rfl
            have qr4 := R0.cell' (i := 4) rfl
            have qq4 := Q0.cell' (i := 4) rfl
            have qr5 := R0.cell' (i := 5) rfl
            have qq5 := Q0.cell' (i := 5) rfl
            have qr6 := R0.cell' (i := 6) rfl
            have qq6 := Q0.cell' (i := 6) rfl
            have qr7 := R0.cell' (i := 7) rfl
            have qq7 := Q0.cell' (i := 7) rfl
            have qr8 := R0.cell' (i := 8) rfl
            have qq8 := Q0.cell' (i := 8) rfl
            have qr9 := R0.cell' (i := 9) rfl
            have qq9 := Q0.cell' (i := 9) rfl
            have qr10 := R0.cell' (i := 10) rfl
            have qq10 := Q0.cell' (i := 10) rfl
            have qr11 := R0.cell' (i := 11) rfl
            have qq11 := Q0.cell' (i := 11) rfl
            have qr12 := R0.cell' (i := 12) rfl
            have qq12 := Q0.cell' (i := 12) rfl
            go_wp2_with fail
            refine (C2.out _ h5 k5).mono ?_
            rintro e w3 ⟨rfl, b3⟩
            clear qr0 qr1 qr2 qr3 qr4 qr5 qr6 qr7 qr8 qr9 qr10 qr11 qr12 qq0 qq1 qq2 qq3 qq4 qq5 qq6 qq7 qq8 qq9 qq10 qq11 qq12
            replace bb0 := bb0.trans (b3.mono bb0.size)
            replace R0 := R0.later b3
            replace Q0 := Q0.later b3
            replace h1 := h1.below b3
            replace h2 := h2.below b3
            replace h3 := h3.below b3
            replace k1 := k1.below b3
            replace k2 := k2.below b3
            replace k3 := k3.below b3
            replace h4 := h4.below b3
            replace k4 := k4.below b3
            replace h5 := h5.below b3
            replace k5 := k5.below b3
            replace h6 := h6.below b3
            replace k6 := k6.below b3
            have qr0 := R0.cell' (i := 0) rfl
            have qq0 := Q0.cell' (i := 0) rfl
            have qr1 := R0.cell' (i := 1) rfl
            have qq1 := Q0.cell' (i := 1) rfl
            have qr2 := R0.cell' (i := 2) rfl
            have qq2 := Q0.cell' (i := 2) rfl
            have qr3 := R0.cell' (i := 3) rfl
            have qq3 := Q0.cell' (i := 3) rfl
            have qr4 := R0.cell' (i := 4) rfl
            have qq4 := Q0.cell' (i := 4) rfl
            have qr5 := R0.cell' (i := 5) rfl
            have qq5 := Q0.cell' (i := 5) rfl
            have qr6 := R0.cell' (i := 6) rfl
            have qq6 := Q0.cell' (i := 6) rfl
            have qr7 := R0.cell' (i := 7) rfl
            have qq7 := Q0.cell' (i := 7) rfl
            have qr8 := R0.cell' (i := 8) rfl
            have qq8 := Q0.cell' (i := 8) rfl
            have qr9 := R0.cell' (i := 9) rfl
            have qq9 := Q0.cell' (i := 9) rfl
            have qr10 := R0.cell' (i := 10) rfl
            have qq10 := Q0.cell' (i := 10) rfl
            have qr11 := R0.cell' (i := 11) rfl
            have qq11 := Q0.cell' (i := 11) rfl
            have qr12 := R0.cell' (i := 12) rfl
            have qq12 := Q0.cell' (i := 12) rfl
            go_wp2_with fail
            refine (C4.out _ h6 k6).mono ?_
            rintro e w4 ⟨rfl, b4⟩
            clear qr0 qr1 qr2 qr3 qr4 qr5 qr6 qr7 qr8 qr9 qr10 qr11 qr12 qq0 qq1 qq2 qq3 qq4 qq5 qq6 qq7 qq8 qq9 qq10 qq11 qq12
            replace bb0 := bb0.trans (b4.mono bb0.size)
            go_wp2_with fail
            go_ret
            exact ⟨rfl, bb0⟩
          · go_enter Try.func14, Try.ntmps14
            go_wp2_with fail
            refine (C0.out _ h1 h2 h3 k1 k2 k3).mono ?_
            rintro e w1 ⟨rfl, b1⟩
            replace bb0 := bb0.trans (b1.mono bb0.size)
            replace R0 := R0.later b1
            replace Q0 := Q0.later b1
            replace h1 := h1.below b1
            replace h2 := h2.below b1
            replace h3 := h3.below b1
            replace k1 := k1.below b1
            replace k2 := k2.below b1
            replace k3 := k3.below b1
            replace h4 := h4.below b1
            replace k4 := k4.below b1
            replace h5 := h5.below b1
            replace k5 := k5.below b1
            replace h6 := h6.below b1
            replace k6 := k6.below b1
            have qr0 := R0.cell' (i := 0) rfl
            have qq0 := Q0.cell' (i := 0) rfl
            have qr1 := R0.cell' (i := 1) rfl
            have qq1 := Q0.cell' (i := 1) rfl
            have qr2 := R0.cell' (i := 2) rfl
            have qq2 := Q0.cell' (i := 2) rfl
            have qr3 := R0.cell' (i := 3) rfl
            have qq3 := Q0.cell' (i := 3) rfl
            have qr4 := R0.cell' (i := 4) rfl
            have qq4 := Q0.cell' (i := 4) rfl
            have qr5 := R0.cell' (i := 5) rfl
            have qq5 := Q0.cell' (i := 5) rfl
            have qr6 := R0.cell' (i := 6) rfl
            have qq6 := Q0.cell' (i := 6) rfl
            have qr7 := R0.cell' (i := 7) rfl
            have qq7 := Q0.cell' (i := 7) rfl
            have qr8 := R0.cell' (i := 8) rfl
            have qq8 := Q0.cell' (i := 8) rfl
            have qr9 := R0.cell' (i := 9) rfl
            have qq9 := Q0.cell' (i := 9) rfl
            have qr10 := R0.cell' (i := 10) rfl
            have qq10 := Q0.cell' (i := 10) rfl
            have qr11 := R0.cell' (i := 11) rfl
            have qq11 := Q0.cell' (i := 11) rfl
            have qr12 := R0.cell' (i := 12) rfl
            have qq12 := Q0.cell' (i := 12) rfl
            go_wp2_with fail
            refine (C1.out _ h4 k4).mono ?_
            rintro e w2 ⟨rfl, b2⟩
            clear qr0 qr1 qr2 qr3 qr4 qr5 qr6 qr7 qr8 qr9 qr10 qr11 qr12 qq0 qq1 qq2 qq3 qq4 qq5 qq6 qq7 qq8 qq9 qq10 qq11 qq12
            replace bb0 := bb0.trans (b2.mono bb0.size)
            replace R0 := R0.later b2
            replace Q0 := Q0.later b2
            replace h1 := h1.below b2
            replace h2 := h2.below b2
            replace h3 := h3.below b2
            replace k1 := k1.below b2
            replace k2 := k2.below b2
            replace k3 := k3.below b2
            replace h4 := h4.below b2
            replace k4 := k4.below b2
            replace h5 := h5.below b2
            replace k5 := k5.below b2
            replace h6 := h6.below b2
            replace k6 := k6.below b2
            have qr0 := R0.cell' (i := 0) rfl
            have qq0 := Q0.cell' (i := 0) rfl
            have qr1 := R0.cell' (i := 1) rfl
            have qq1 := Q0.cell' (i := 1) rfl
            have qr2 := R0.cell' (i := 2) rfl
            have qq2 := Q0.cell' (i := 2) rfl
            have qr3 := R0.cell' (i := 3) rfl
            have qq3 := Q0.cell' (i := 3) rfl
            have qr4 := R0.cell' (i := 4) rfl
            have qq4 := Q0.cell' (i := 4) rfl
            have qr5 := R0.cell' (i := 5) rfl
            have qq5 := Q0.cell' (i := 5) rfl
            have qr6 := R0.cell' (i := 6) rfl
            have qq6 := Q0.cell' (i := 6) rfl
            have qr7 := R0.cell' (i := 7) rfl
            have qq7 := Q0.cell' (i := 7) rfl
            have qr8 := R0.cell' (i := 8) rfl
            have qq8 := Q0.cell' (i := 8) rfl
            have qr9 := R0.cell' (i := 9) rfl
            have qq9 := Q0.cell' (i := 9) rfl
            have qr10 := R0.cell' (i := 10) rfl
            have qq10 := Q0.cell' (i := 10) rfl
            have qr11 := R0.cell' (i := 11) rfl
            have qq11 := Q0.cell' (i := 11) rfl
            have qr12 := R0.cell' (i := 12) rfl
            have qq12 := Q0.cell' (i := 12) rfl
            go_wp2_with fail
            refine (C2.out _ h5 k5).mono ?_
            rintro e w3 ⟨rfl, b3⟩
            clear qr0 qr1 qr2 qr3 qr4 qr5 qr6 qr7 qr8 qr9 qr10 qr11 qr12 qq0 qq1 qq2 qq3 qq4 qq5 qq6 qq7 qq8 qq9 qq10 qq11 qq12
            replace bb0 := bb0.trans (b3.mono bb0.size)
            replace R0 := R0.later b3
            replace Q0 := Q0.later b3
            replace h1 := h1.below b3
            replace h2 := h2.below b3
            replace h3 := h3.below b3
            replace k1 := k1.below b3
            replace k2 := k2.below b3
            replace k3 := k3.below b3
            replace h4 := h4.below b3
            replace k4 := k4.below b3
            replace h5 := h5.below b3
            replace k5 := k5.below b3
            replace h6 := h6.below b3
            replace k6 := k6.below b3
            have qr0 := R0.cell' (i := 0) rfl
            have qq0 := Q0.cell' (i := 0) rfl
            have qr1 := R0.cell' (i := 1) rfl
            have qq1 := Q0.cell' (i := 1) rfl
            have qr2 := R0.cell' (i := 2) rfl
            have qq2 := Q0.cell' (i := 2) rfl
            have qr3 := R0.cell' (i := 3) rfl
            have qq3 := Q0.cell' (i := 3) rfl
            have qr4 := R0.cell' (i := 4) rfl
            have qq4 := Q0.cell' (i := 4) rfl
            have qr5 := R0.cell' (i := 5) rfl
            have qq5 := Q0.cell' (i := 5) rfl
            have qr6 := R0.cell' (i := 6) rfl
            have qq6 := Q0.cell' (i := 6) rfl
            have qr7 := R0.cell' (i := 7) rfl
            have qq7 := Q0.cell' (i := 7) rfl
            have qr8 := R0.cell' (i := 8) rfl
            have qq8 := Q0.cell' (i := 8) rfl
            have qr9 := R0.cell' (i := 9) rfl
            have qq9 := Q0.cell' (i := 9) rfl
            have qr10 := R0.cell' (i := 10) rfl
            have qq10 := Q0.cell' (i := 10) rfl
            have qr11 := R0.cell' (i := 11) rfl
            have qq11 := Q0.cell' (i := 11) rfl
            have qr12 := R0.cell' (i := 12) rfl
            have qq12 := Q0.cell' (i := 12) rfl
            go_wp2_with fail
            refine (C4.out _ h6 k6).mono ?_
            rintro e w4 ⟨rfl, b4⟩
            clear qr0 qr1 qr2 qr3 qr4 qr5 qr6 qr7 qr8 qr9 qr10 qr11 qr12 qq0 qq1 qq2 qq3 qq4 qq5 qq6 qq7 qq8 qq9 qq10 qq11 qq12
            replace bb0 := bb0.trans (b4.mono bb0.size)
            replace R0 := R0.later b4
            replace Q0 := Q0.later b4
            replace h1 := h1.below b4
            replace h2 := h2.below b4
            replace h3 := h3.below b4
            replace k1 := k1.below b4
            replace k2 := k2.below b4
            replace k3 := k3.below b4
            replace h4 := h4.below b4
            replace k4 := k4.below b4
            replace h5 := h5.below b4
            replace k5 := k5.below b4
            replace h6 := h6.below b4
            replace k6 := k6.below b4
            have qr0 := R0.cell' (i := 0) rfl
            have qq0 := Q0.cell' (i := 0) rfl
            have qr1 := R0.cell' (i := 1) rfl
            have qq1 := Q0.cell' (i := 1) rfl
            have qr2 := R0.cell' (i := 2) rfl
            have qq2 := Q0.cell' (i := 2) rfl
            have qr3 := R0.cell' (i := 3) rfl
            have qq3 := Q0.cell' (i := 3) rfl
            have qr4 := R0.cell' (i := 4) rfl
            have qq4 := Q0.cell' (i := 4) rfl
            have qr5 := R0.cell' (i := 5) rfl
            have qq5 := Q0.cell' (i := 5) rfl
            have qr6 := R0.cell' (i := 6) rfl
            have qq6 := Q0.cell' (i := 6) rfl
            have qr7 := R0.cell' (i := 7) rfl
            have qq7 := Q0.cell' (i := 7) rfl
            have qr8 := R0.cell' (i := 8) rfl
            have qq8 := Q0.cell' (i := 8) rfl
            have qr9 := R0.cell' (i := 9) rfl
            have qq9 := Q0.cell' (i := 9) rfl
            have qr10 := R0.cell' (i := 10) rfl
            have qq10 := Q0.cell' (i := 10) rfl
            have qr11 := R0.cell' (i := 11) rfl
            have qq11 := Q0.cell' (i := 11) rfl
            have qr12 := R0.cell' (i := 12) rfl
            have qq12 := Q0.cell' (i := 12) rfl
            go_wp2_with fail
            go_ret
            exact ⟨rfl, bb0⟩
end Go.Proofs.Ytkkignkoneeieaa

/- Store, Lexicon, Model, Setup, Session: the law's own sz over them. Conditions: none. -/
namespace Go.Proofs.Ytkkignkoneeieaa
open Go Go.RowKit


set_option maxRecDepth 100000 in
set_option maxHeartbeats 1000000 in
theorem szStore_c {o : Bool} {pe e : TypeId} {n : Int} {xs : List PTemp} {v : Value} {F : List Nat} (w : World) (h : (pTemps pe e).rep o w xs [v] F) (left : Int) (hl : 0 ≤ left ∧ left ≤ 1048576) :
    Calls Try.prog 15 #[.agg #[.int .i64 n, v], .int .i64 left] w fun e w' => (∃ r : Int, e = .returned (.int .i64 r) ∧ r ≤ left ∧ (0 ≤ r → r + (szTemps xs : Nat) ≤ left)) ∧ Below w.heap.size w w' := by
  obtain ⟨Aa, ka, rfl⟩ := slice_len h
  go_enter Try.func15, Try.ntmps15
  have R := Row.new w 24 #[.int .i64 n, .slice Aa xs.length ka]
  have bb : Below w.heap.size w (w.alloc (.cells #[.int .i64 n, .slice Aa xs.length ka] 24)) := (Below.refl _ _).alloc (Nat.le_refl _) _
  replace h := h.alloc (.cells #[.int .i64 n, .slice Aa xs.length ka] 24)
  go_wp2_with fail
  refine (szTemplateS_c _ h left (by omega)).mono ?_
  rintro e w0 ⟨⟨l0, rfl, a0, c0⟩, b0⟩
  replace bb := bb.trans (b0.mono bb.size)
  replace R := R.later b0
  replace h := h.below b0
  by_cases n0 : l0 < 0
  · go_wp2_with fail
    go_ret
    exact ⟨⟨-1, rfl, by omega, by omega⟩, bb⟩
  go_wp2_with fail
  go_ret
  exact ⟨⟨l0, rfl, by omega, by omega⟩, bb⟩
set_option maxRecDepth 100000 in
set_option maxHeartbeats 1000000 in
theorem szLexicon_c {o : Bool} {e : TypeId} {xs : List PEntry} {v : Value} {F : List Nat} (w : World) (h : (pEntrys e).rep o w xs [v] F) (left : Int) (hl : 0 ≤ left ∧ left ≤ 1048576) :
    Calls Try.prog 16 #[.agg #[v], .int .i64 left] w fun e w' => (∃ r : Int, e = .returned (.int .i64 r) ∧ r ≤ left ∧ (0 ≤ r → r + (szpEntry xs : Nat) ≤ left)) ∧ Below w.heap.size w w' := by
  obtain ⟨Aa, ka, rfl⟩ := slice_len h
  go_enter Try.func16, Try.ntmps16
  have R := Row.new w 29 #[.slice Aa xs.length ka]
  have bb : Below w.heap.size w (w.alloc (.cells #[.slice Aa xs.length ka] 29)) := (Below.refl _ _).alloc (Nat.le_refl _) _
  replace h := h.alloc (.cells #[.slice Aa xs.length ka] 29)
  go_wp2_with fail
  refine (szEntryS_c _ h left (by omega)).mono ?_
  rintro e w0 ⟨⟨l0, rfl, a0, c0⟩, b0⟩
  replace bb := bb.trans (b0.mono bb.size)
  replace R := R.later b0
  replace h := h.below b0
  by_cases n0 : l0 < 0
  · go_wp2_with fail
    go_ret
    exact ⟨⟨-1, rfl, by omega, by omega⟩, bb⟩
  go_wp2_with fail
  go_ret
  exact ⟨⟨l0, rfl, by omega, by omega⟩, bb⟩
set_option maxRecDepth 100000 in
set_option maxHeartbeats 1000000 in
theorem szModel_c {o : Bool} {e : TypeId} {n : Int} {xs : List PBigram} {v : Value} {F : List Nat} (w : World) (h : (pBigrams e).rep o w xs [v] F) (left : Int) (hl : 0 ≤ left ∧ left ≤ 1048576) :
    Calls Try.prog 17 #[.agg #[.int .i64 n, v], .int .i64 left] w fun e w' => (∃ r : Int, e = .returned (.int .i64 r) ∧ r ≤ left ∧ (0 ≤ r → r + (szpBigram xs : Nat) ≤ left)) ∧ Below w.heap.size w w' := by
  obtain ⟨Aa, ka, rfl⟩ := slice_len h
  go_enter Try.func17, Try.ntmps17
  have R := Row.new w 32 #[.int .i64 n, .slice Aa xs.length ka]
  have bb : Below w.heap.size w (w.alloc (.cells #[.int .i64 n, .slice Aa xs.length ka] 32)) := (Below.refl _ _).alloc (Nat.le_refl _) _
  replace h := h.alloc (.cells #[.int .i64 n, .slice Aa xs.length ka] 32)
  go_wp2_with fail
  refine (szBigramS_c _ h left (by omega)).mono ?_
  rintro e w0 ⟨⟨l0, rfl, a0, c0⟩, b0⟩
  replace bb := bb.trans (b0.mono bb.size)
  replace R := R.later b0
  replace h := h.below b0
  by_cases n0 : l0 < 0
  · go_wp2_with fail
    go_ret
    exact ⟨⟨-1, rfl, by omega, by omega⟩, bb⟩
  go_wp2_with fail
  go_ret
  exact ⟨⟨l0, rfl, by omega, by omega⟩, bb⟩
set_option maxRecDepth 100000 in
set_option maxHeartbeats 1000000 in
theorem szSetup_c {o : Bool} {ef et ee eb : TypeId} {p : PSetup} {a b c : Value} {F1 F2 F3 : List Nat} (w : World) (h1 : (pTemps ef et).rep o w p.temps [a] F1) (h2 : (pEntrys ee).rep o w p.entries [b] F2) (h3 : (pBigrams eb).rep o w p.bigrams [c] F3) (left : Int) (hl : 0 ≤ left ∧ left ≤ 1048576) :
    Calls Try.prog 5 #[.agg #[.int .i64 p.band, a, .int .i64 p.points, .int .i64 p.most, .int .i64 p.pen, b, .int .i64 p.dflt, c, .int .i64 p.pause], .int .i64 left] w fun e w' => (∃ r : Int, e = .returned (.int .i64 r) ∧ r ≤ left ∧ (0 ≤ r → r + (szSe p : Nat) ≤ left)) ∧ Below w.heap.size w w' := by
  obtain ⟨Aa, ka, rfl⟩ := slice_len h1
  obtain ⟨Ab, kb, rfl⟩ := slice_len h2
  obtain ⟨Ac, kc, rfl⟩ := slice_len h3
  unfold szSe
  go_enter Try.func5, Try.ntmps5
  have R := Row.new w 34 #[.int .i64 p.band, .slice Aa p.temps.length ka, .int .i64 p.points, .int .i64 p.most, .int .i64 p.pen, .slice Ab p.entries.length kb, .int .i64 p.dflt, .slice Ac p.bigrams.length kc, .int .i64 p.pause]
  have bb : Below w.heap.size w (w.alloc (.cells #[.int .i64 p.band, .slice Aa p.temps.length ka, .int .i64 p.points, .int .i64 p.most, .int .i64 p.pen, .slice Ab p.entries.length kb, .int .i64 p.dflt, .slice Ac p.bigrams.length kc, .int .i64 p.pause] 34)) := (Below.refl _ _).alloc (Nat.le_refl _) _
  replace h1 := h1.alloc (.cells #[.int .i64 p.band, .slice Aa p.temps.length ka, .int .i64 p.points, .int .i64 p.most, .int .i64 p.pen, .slice Ab p.entries.length kb, .int .i64 p.dflt, .slice Ac p.bigrams.length kc, .int .i64 p.pause] 34)
  replace h2 := h2.alloc (.cells #[.int .i64 p.band, .slice Aa p.temps.length ka, .int .i64 p.points, .int .i64 p.most, .int .i64 p.pen, .slice Ab p.entries.length kb, .int .i64 p.dflt, .slice Ac p.bigrams.length kc, .int .i64 p.pause] 34)
  replace h3 := h3.alloc (.cells #[.int .i64 p.band, .slice Aa p.temps.length ka, .int .i64 p.points, .int .i64 p.most, .int .i64 p.pen, .slice Ab p.entries.length kb, .int .i64 p.dflt, .slice Ac p.bigrams.length kc, .int .i64 p.pause] 34)
  go_wp2_with fail
  refine (szStore_c (n := p.band) _ h1 left (by omega)).mono ?_
  rintro e w0 ⟨⟨l0, rfl, a0, c0⟩, b0⟩
  replace bb := bb.trans (b0.mono bb.size)
  replace R := R.later b0
  replace h1 := h1.below b0
  replace h2 := h2.below b0
  replace h3 := h3.below b0
  by_cases n0 : l0 < 0
  · go_wp2_with fail
    go_ret
    exact ⟨⟨-1, rfl, by omega, by omega⟩, bb⟩
  have q0 := R.cell' (i := 0) rfl
  have q1 := R.cell' (i := 1) rfl
  have q2 := R.cell' (i := 2) rfl
  have q3 := R.cell' (i := 3) rfl
  have q4 := R.cell' (i := 4) rfl
  have q5 := R.cell' (i := 5) rfl
  have q6 := R.cell' (i := 6) rfl
  have q7 := R.cell' (i := 7) rfl
  have q8 := R.cell' (i := 8) rfl
  go_wp2_with fail
  refine (szLexicon_c _ h2 l0 (by omega)).mono ?_
  rintro e w1 ⟨⟨l1, rfl, a1, c1⟩, b1⟩
  clear q0 q1 q2 q3 q4 q5 q6 q7 q8
  replace bb := bb.trans (b1.mono bb.size)
  replace R := R.later b1
  replace h1 := h1.below b1
  replace h2 := h2.below b1
  replace h3 := h3.below b1
  by_cases n1 : l1 < 0
  · go_wp2_with fail
    go_ret
    exact ⟨⟨-1, rfl, by omega, by omega⟩, bb⟩
  have q0 := R.cell' (i := 0) rfl
  have q1 := R.cell' (i := 1) rfl
  have q2 := R.cell' (i := 2) rfl
  have q3 := R.cell' (i := 3) rfl
  have q4 := R.cell' (i := 4) rfl
  have q5 := R.cell' (i := 5) rfl
  have q6 := R.cell' (i := 6) rfl
  have q7 := R.cell' (i := 7) rfl
  have q8 := R.cell' (i := 8) rfl
  go_wp2_with fail
  refine (szModel_c (n := p.dflt) _ h3 l1 (by omega)).mono ?_
  rintro e w2 ⟨⟨l2, rfl, a2, c2⟩, b2⟩
  clear q0 q1 q2 q3 q4 q5 q6 q7 q8
  replace bb := bb.trans (b2.mono bb.size)
  replace R := R.later b2
  replace h1 := h1.below b2
  replace h2 := h2.below b2
  replace h3 := h3.below b2
  by_cases n2 : l2 < 0
  · go_wp2_with fail
    go_ret
    exact ⟨⟨-1, rfl, by omega, by omega⟩, bb⟩
  go_wp2_with fail
  go_ret
  exact ⟨⟨l2, rfl, by omega, by omega⟩, bb⟩
set_option maxRecDepth 100000 in
set_option maxHeartbeats 1000000 in
theorem szSession_c {o : Bool} {ef et ee eb pe es ep : TypeId} {q : PSess} {a b c d g x : Value} {F1 F2 F3 F4 F5 F6 : List Nat} (w : World) (h1 : (pTemps ef et).rep o w q.setup.temps [a] F1) (h2 : (pEntrys ee).rep o w q.setup.entries [b] F2) (h3 : (pBigrams eb).rep o w q.setup.bigrams [c] F3) (h4 : (pStrokes pe es).rep o w q.strokes [d] F4) (h5 : (pPoints ep).rep o w q.opn [g] F5) (h6 : (strs 9).rep o w q.words [x] F6) (left : Int) (hl : 0 ≤ left ∧ left ≤ 1048576) :
    Calls Try.prog 10 #[.agg #[.int .i64 q.setup.band, a, .int .i64 q.setup.points, .int .i64 q.setup.most, .int .i64 q.setup.pen, b, .int .i64 q.setup.dflt, c, .int .i64 q.setup.pause, d, g, .int .i64 q.time, x], .int .i64 left] w fun e w' => (∃ r : Int, e = .returned (.int .i64 r) ∧ r ≤ left ∧ (0 ≤ r → r + (szSs q : Nat) ≤ left)) ∧ Below w.heap.size w w' := by
  obtain ⟨Aa, ka, rfl⟩ := slice_len h1
  obtain ⟨Ab, kb, rfl⟩ := slice_len h2
  obtain ⟨Ac, kc, rfl⟩ := slice_len h3
  obtain ⟨Ad, kd, rfl⟩ := slice_len h4
  obtain ⟨Ag, kg, rfl⟩ := slice_len h5
  obtain ⟨Ax, kx, rfl⟩ := slice_len h6
  unfold szSs
  go_enter Try.func10, Try.ntmps10
  have R := Row.new w 58 #[.int .i64 q.setup.band, .slice Aa q.setup.temps.length ka, .int .i64 q.setup.points, .int .i64 q.setup.most, .int .i64 q.setup.pen, .slice Ab q.setup.entries.length kb, .int .i64 q.setup.dflt, .slice Ac q.setup.bigrams.length kc, .int .i64 q.setup.pause, .slice Ad q.strokes.length kd, .slice Ag q.opn.length kg, .int .i64 q.time, .slice Ax q.words.length kx]
  have bb : Below w.heap.size w (w.alloc (.cells #[.int .i64 q.setup.band, .slice Aa q.setup.temps.length ka, .int .i64 q.setup.points, .int .i64 q.setup.most, .int .i64 q.setup.pen, .slice Ab q.setup.entries.length kb, .int .i64 q.setup.dflt, .slice Ac q.setup.bigrams.length kc, .int .i64 q.setup.pause, .slice Ad q.strokes.length kd, .slice Ag q.opn.length kg, .int .i64 q.time, .slice Ax q.words.length kx] 58)) := (Below.refl _ _).alloc (Nat.le_refl _) _
  replace h1 := h1.alloc (.cells #[.int .i64 q.setup.band, .slice Aa q.setup.temps.length ka, .int .i64 q.setup.points, .int .i64 q.setup.most, .int .i64 q.setup.pen, .slice Ab q.setup.entries.length kb, .int .i64 q.setup.dflt, .slice Ac q.setup.bigrams.length kc, .int .i64 q.setup.pause, .slice Ad q.strokes.length kd, .slice Ag q.opn.length kg, .int .i64 q.time, .slice Ax q.words.length kx] 58)
  replace h2 := h2.alloc (.cells #[.int .i64 q.setup.band, .slice Aa q.setup.temps.length ka, .int .i64 q.setup.points, .int .i64 q.setup.most, .int .i64 q.setup.pen, .slice Ab q.setup.entries.length kb, .int .i64 q.setup.dflt, .slice Ac q.setup.bigrams.length kc, .int .i64 q.setup.pause, .slice Ad q.strokes.length kd, .slice Ag q.opn.length kg, .int .i64 q.time, .slice Ax q.words.length kx] 58)
  replace h3 := h3.alloc (.cells #[.int .i64 q.setup.band, .slice Aa q.setup.temps.length ka, .int .i64 q.setup.points, .int .i64 q.setup.most, .int .i64 q.setup.pen, .slice Ab q.setup.entries.length kb, .int .i64 q.setup.dflt, .slice Ac q.setup.bigrams.length kc, .int .i64 q.setup.pause, .slice Ad q.strokes.length kd, .slice Ag q.opn.length kg, .int .i64 q.time, .slice Ax q.words.length kx] 58)
  replace h4 := h4.alloc (.cells #[.int .i64 q.setup.band, .slice Aa q.setup.temps.length ka, .int .i64 q.setup.points, .int .i64 q.setup.most, .int .i64 q.setup.pen, .slice Ab q.setup.entries.length kb, .int .i64 q.setup.dflt, .slice Ac q.setup.bigrams.length kc, .int .i64 q.setup.pause, .slice Ad q.strokes.length kd, .slice Ag q.opn.length kg, .int .i64 q.time, .slice Ax q.words.length kx] 58)
  replace h5 := h5.alloc (.cells #[.int .i64 q.setup.band, .slice Aa q.setup.temps.length ka, .int .i64 q.setup.points, .int .i64 q.setup.most, .int .i64 q.setup.pen, .slice Ab q.setup.entries.length kb, .int .i64 q.setup.dflt, .slice Ac q.setup.bigrams.length kc, .int .i64 q.setup.pause, .slice Ad q.strokes.length kd, .slice Ag q.opn.length kg, .int .i64 q.time, .slice Ax q.words.length kx] 58)
  replace h6 := h6.alloc (.cells #[.int .i64 q.setup.band, .slice Aa q.setup.temps.length ka, .int .i64 q.setup.points, .int .i64 q.setup.most, .int .i64 q.setup.pen, .slice Ab q.setup.entries.length kb, .int .i64 q.setup.dflt, .slice Ac q.setup.bigrams.length kc, .int .i64 q.setup.pause, .slice Ad q.strokes.length kd, .slice Ag q.opn.length kg, .int .i64 q.time, .slice Ax q.words.length kx] 58)
  go_wp2_with fail
  refine (szSetup_c (p := q.setup) _ h1 h2 h3 left (by omega)).mono ?_
  rintro e w0 ⟨⟨l0, rfl, a0, c0⟩, b0⟩
  replace bb := bb.trans (b0.mono bb.size)
  replace R := R.later b0
  replace h1 := h1.below b0
  replace h2 := h2.below b0
  replace h3 := h3.below b0
  replace h4 := h4.below b0
  replace h5 := h5.below b0
  replace h6 := h6.below b0
  by_cases n0 : l0 < 0
  · go_wp2_with fail
    go_ret
    exact ⟨⟨-1, rfl, by omega, by omega⟩, bb⟩
  have q0 := R.cell' (i := 0) rfl
  have q1 := R.cell' (i := 1) rfl
  have q2 := R.cell' (i := 2) rfl
  have q3 := R.cell' (i := 3) rfl
  have q4 := R.cell' (i := 4) rfl
  have q5 := R.cell' (i := 5) rfl
  have q6 := R.cell' (i := 6) rfl
  have q7 := R.cell' (i := 7) rfl
  have q8 := R.cell' (i := 8) rfl
  have q9 := R.cell' (i := 9) rfl
  have q10 := R.cell' (i := 10) rfl
  have q11 := R.cell' (i := 11) rfl
  have q12 := R.cell' (i := 12) rfl
  go_wp2_with fail
  refine (szInk_c _ h4 l0 (by omega)).mono ?_
  rintro e w1 ⟨⟨l1, rfl, a1, c1⟩, b1⟩
  clear q0 q1 q2 q3 q4 q5 q6 q7 q8 q9 q10 q11 q12
  replace bb := bb.trans (b1.mono bb.size)
  replace R := R.later b1
  replace h1 := h1.below b1
  replace h2 := h2.below b1
  replace h3 := h3.below b1
  replace h4 := h4.below b1
  replace h5 := h5.below b1
  replace h6 := h6.below b1
  by_cases n1 : l1 < 0
  · go_wp2_with fail
    go_ret
    exact ⟨⟨-1, rfl, by omega, by omega⟩, bb⟩
  have q0 := R.cell' (i := 0) rfl
  have q1 := R.cell' (i := 1) rfl
  have q2 := R.cell' (i := 2) rfl
  have q3 := R.cell' (i := 3) rfl
  have q4 := R.cell' (i := 4) rfl
  have q5 := R.cell' (i := 5) rfl
  have q6 := R.cell' (i := 6) rfl
  have q7 := R.cell' (i := 7) rfl
  have q8 := R.cell' (i := 8) rfl
  have q9 := R.cell' (i := 9) rfl
  have q10 := R.cell' (i := 10) rfl
  have q11 := R.cell' (i := 11) rfl
  have q12 := R.cell' (i := 12) rfl
  go_wp2_with fail
  refine (szPointS_c _ h5 l1 (by omega)).mono ?_
  rintro e w2 ⟨⟨l2, rfl, _, a2, c2⟩, b2⟩
  clear q0 q1 q2 q3 q4 q5 q6 q7 q8 q9 q10 q11 q12
  replace bb := bb.trans (b2.mono bb.size)
  replace R := R.later b2
  replace h1 := h1.below b2
  replace h2 := h2.below b2
  replace h3 := h3.below b2
  replace h4 := h4.below b2
  replace h5 := h5.below b2
  replace h6 := h6.below b2
  by_cases n2 : l2 < 0
  · go_wp2_with fail
    go_ret
    exact ⟨⟨-1, rfl, by omega, by omega⟩, bb⟩
  have q0 := R.cell' (i := 0) rfl
  have q1 := R.cell' (i := 1) rfl
  have q2 := R.cell' (i := 2) rfl
  have q3 := R.cell' (i := 3) rfl
  have q4 := R.cell' (i := 4) rfl
  have q5 := R.cell' (i := 5) rfl
  have q6 := R.cell' (i := 6) rfl
  have q7 := R.cell' (i := 7) rfl
  have q8 := R.cell' (i := 8) rfl
  have q9 := R.cell' (i := 9) rfl
  have q10 := R.cell' (i := 10) rfl
  have q11 := R.cell' (i := 11) rfl
  have q12 := R.cell' (i := 12) rfl
  go_wp2_with fail
  refine (szStringS_b _ h6 l2 (by omega)).mono ?_
  rintro e w3 ⟨⟨l3, rfl, a3, c3⟩, b3⟩
  clear q0 q1 q2 q3 q4 q5 q6 q7 q8 q9 q10 q11 q12
  replace bb := bb.trans (b3.mono bb.size)
  replace R := R.later b3
  replace h1 := h1.below b3
  replace h2 := h2.below b3
  replace h3 := h3.below b3
  replace h4 := h4.below b3
  replace h5 := h5.below b3
  replace h6 := h6.below b3
  by_cases n3 : l3 < 0
  · go_wp2_with fail
    go_ret
    exact ⟨⟨-1, rfl, by omega, by omega⟩, bb⟩
  go_wp2_with fail
  go_ret
  exact ⟨⟨l3, rfl, by omega, by omega⟩, bb⟩
end Go.Proofs.Ytkkignkoneeieaa

/- A setup's and a session's value in memory, as one predicate. Conditions: none. -/
namespace Go.Proofs.Ytkkignkoneeieaa
open Go Go.RowKit

/-- The types of the elements: the law's or the program's. -/
structure Ids where
  ft : TypeId
  tm : TypeId
  en : TypeId
  bg : TypeId
  pt : TypeId
  st : TypeId
abbrev idsI : Ids := ⟨146, 117, 120, 124, 98, 135⟩
theorem kb {w2 w3 : World} {b o : Nat} {u : Value} (o3 : Below w2.heap.size w2 w3) (hb : b < w2.heap.size) (hu : w2.cell? ⟨b, o, none⟩ = some u) : w3.cell? ⟨b, o, none⟩ = some u := (o3.cell (p := ⟨b, o, none⟩) hb).trans hu

/-- A Setup's value. -/
def SetupIs (I : Ids) (o : Bool) (w : World) (p : PSetup) (v : Value) (F : List Nat) : Prop :=
  ∃ a0 a1 a2 F0 F1 F2, v = .agg #[.int .i64 p.band, a0, .int .i64 p.points, .int .i64 p.most, .int .i64 p.pen, a1, .int .i64 p.dflt, a2, .int .i64 p.pause] ∧ F = F0 ++ (F1 ++ F2) ∧ (pTemps I.ft I.tm).rep o w p.temps [a0] F0 ∧ (pEntrys I.en).rep o w p.entries [a1] F1 ∧ (pBigrams I.bg).rep o w p.bigrams [a2] F2
section
variable {I : Ids} {o : Bool} {w w' : World} {p : PSetup} {v : Value} {F G : List Nat}
theorem SetupIs.below (h : SetupIs I o w p v F) (hb : Below w.heap.size w w') : SetupIs I o w' p v F := by
  obtain ⟨a0, a1, a2, F0, F1, F2, rfl, rfl, h0, h1, h2⟩ := h
  exact ⟨a0, a1, a2, F0, F1, F2, rfl, rfl, h0.below hb, h1.below hb, h2.below hb⟩
theorem SetupIs.alloc (h : SetupIs I o w p v F) (x : Obj) : SetupIs I o (w.alloc x) p v F := by
  obtain ⟨a0, a1, a2, F0, F1, F2, rfl, rfl, h0, h1, h2⟩ := h
  exact ⟨a0, a1, a2, F0, F1, F2, rfl, rfl, h0.alloc x, h1.alloc x, h2.alloc x⟩
theorem SetupIs.drew (h : SetupIs I o w p v F) : SetupIs I o w.drew p v F := by
  obtain ⟨a0, a1, a2, F0, F1, F2, rfl, rfl, h0, h1, h2⟩ := h
  exact ⟨a0, a1, a2, F0, F1, F2, rfl, rfl, h0.drew, h1.drew, h2.drew⟩
theorem SetupIs.drewN (h : SetupIs I o w p v F) (n : Nat) : SetupIs I o (w.drewN n) p v F := by
  obtain ⟨a0, a1, a2, F0, F1, F2, rfl, rfl, h0, h1, h2⟩ := h
  exact ⟨a0, a1, a2, F0, F1, F2, rfl, rfl, h0.drewN n, h1.drewN n, h2.drewN n⟩
theorem SetupIs.only (h : SetupIs I o w p v F) (hb : Only G w w') (hd : ∀ x ∈ F, x ∉ G) : SetupIs I o w' p v F := by
  obtain ⟨a0, a1, a2, F0, F1, F2, rfl, rfl, h0, h1, h2⟩ := h
  exact ⟨a0, a1, a2, F0, F1, F2, rfl, rfl, h0.only hb (fun x hx => hd x (by simp [hx])), h1.only hb (fun x hx => hd x (by simp [hx])), h2.only hb (fun x hx => hd x (by simp [hx]))⟩
theorem SetupIs.blocks (h : SetupIs I o w p v F) : ∀ x ∈ F, x < w.heap.size := by
  obtain ⟨a0, a1, a2, F0, F1, F2, rfl, rfl, h0, h1, h2⟩ := h
  intro x hx
  repeat' (rcases List.mem_append.1 hx with hx | hx)
  all_goals first | exact h0.blocks x hx | exact h1.blocks x hx | exact h2.blocks x hx
theorem SetupIs.shape (h : SetupIs I o w p v F) : ∃ A0 k0 A1 k1 A2 k2, v = .agg #[.int .i64 p.band, .slice A0 p.temps.length k0, .int .i64 p.points, .int .i64 p.most, .int .i64 p.pen, .slice A1 p.entries.length k1, .int .i64 p.dflt, .slice A2 p.bigrams.length k2, .int .i64 p.pause] := by
  obtain ⟨a0, a1, a2, F0, F1, F2, rfl, rfl, h0, h1, h2⟩ := h
  obtain ⟨A0, k0, rfl⟩ := slice_len h0
  obtain ⟨A1, k1, rfl⟩ := slice_len h1
  obtain ⟨A2, k2, rfl⟩ := slice_len h2
  exact ⟨A0, k0, A1, k1, A2, k2, rfl⟩
theorem SetupIs.parts (h : SetupIs I o w p v F) : ∃ a0 a1 a2 F0 F1 F2, v = .agg #[.int .i64 p.band, a0, .int .i64 p.points, .int .i64 p.most, .int .i64 p.pen, a1, .int .i64 p.dflt, a2, .int .i64 p.pause] ∧ F = F0 ++ (F1 ++ F2) ∧ (pTemps I.ft I.tm).rep o w p.temps [a0] F0 ∧ (pEntrys I.en).rep o w p.entries [a1] F1 ∧ (pBigrams I.bg).rep o w p.bigrams [a2] F2 := h
end
/-- A Session's value. -/
def SessIs (I : Ids) (o : Bool) (w : World) (p : PSess) (v : Value) (F : List Nat) : Prop :=
  ∃ a0 a1 a2 a3 a4 a5 F0 F1 F2 F3 F4 F5, v = .agg #[.int .i64 p.setup.band, a0, .int .i64 p.setup.points, .int .i64 p.setup.most, .int .i64 p.setup.pen, a1, .int .i64 p.setup.dflt, a2, .int .i64 p.setup.pause, a3, a4, .int .i64 p.time, a5] ∧ F = F0 ++ (F1 ++ (F2 ++ (F3 ++ (F4 ++ F5)))) ∧ (pTemps I.ft I.tm).rep o w p.setup.temps [a0] F0 ∧ (pEntrys I.en).rep o w p.setup.entries [a1] F1 ∧ (pBigrams I.bg).rep o w p.setup.bigrams [a2] F2 ∧ (pStrokes I.pt I.st).rep o w p.strokes [a3] F3 ∧ (pPoints I.pt).rep o w p.opn [a4] F4 ∧ (strs 9).rep o w p.words [a5] F5
section
variable {I : Ids} {o : Bool} {w w' : World} {p : PSess} {v : Value} {F G : List Nat}
theorem SessIs.below (h : SessIs I o w p v F) (hb : Below w.heap.size w w') : SessIs I o w' p v F := by
  obtain ⟨a0, a1, a2, a3, a4, a5, F0, F1, F2, F3, F4, F5, rfl, rfl, h0, h1, h2, h3, h4, h5⟩ := h
  exact ⟨a0, a1, a2, a3, a4, a5, F0, F1, F2, F3, F4, F5, rfl, rfl, h0.below hb, h1.below hb, h2.below hb, h3.below hb, h4.below hb, h5.below hb⟩
theorem SessIs.alloc (h : SessIs I o w p v F) (x : Obj) : SessIs I o (w.alloc x) p v F := by
  obtain ⟨a0, a1, a2, a3, a4, a5, F0, F1, F2, F3, F4, F5, rfl, rfl, h0, h1, h2, h3, h4, h5⟩ := h
  exact ⟨a0, a1, a2, a3, a4, a5, F0, F1, F2, F3, F4, F5, rfl, rfl, h0.alloc x, h1.alloc x, h2.alloc x, h3.alloc x, h4.alloc x, h5.alloc x⟩
theorem SessIs.drew (h : SessIs I o w p v F) : SessIs I o w.drew p v F := by
  obtain ⟨a0, a1, a2, a3, a4, a5, F0, F1, F2, F3, F4, F5, rfl, rfl, h0, h1, h2, h3, h4, h5⟩ := h
  exact ⟨a0, a1, a2, a3, a4, a5, F0, F1, F2, F3, F4, F5, rfl, rfl, h0.drew, h1.drew, h2.drew, h3.drew, h4.drew, h5.drew⟩
theorem SessIs.drewN (h : SessIs I o w p v F) (n : Nat) : SessIs I o (w.drewN n) p v F := by
  obtain ⟨a0, a1, a2, a3, a4, a5, F0, F1, F2, F3, F4, F5, rfl, rfl, h0, h1, h2, h3, h4, h5⟩ := h
  exact ⟨a0, a1, a2, a3, a4, a5, F0, F1, F2, F3, F4, F5, rfl, rfl, h0.drewN n, h1.drewN n, h2.drewN n, h3.drewN n, h4.drewN n, h5.drewN n⟩
theorem SessIs.only (h : SessIs I o w p v F) (hb : Only G w w') (hd : ∀ x ∈ F, x ∉ G) : SessIs I o w' p v F := by
  obtain ⟨a0, a1, a2, a3, a4, a5, F0, F1, F2, F3, F4, F5, rfl, rfl, h0, h1, h2, h3, h4, h5⟩ := h
  exact ⟨a0, a1, a2, a3, a4, a5, F0, F1, F2, F3, F4, F5, rfl, rfl, h0.only hb (fun x hx => hd x (by simp [hx])), h1.only hb (fun x hx => hd x (by simp [hx])), h2.only hb (fun x hx => hd x (by simp [hx])), h3.only hb (fun x hx => hd x (by simp [hx])), h4.only hb (fun x hx => hd x (by simp [hx])), h5.only hb (fun x hx => hd x (by simp [hx]))⟩
theorem SessIs.blocks (h : SessIs I o w p v F) : ∀ x ∈ F, x < w.heap.size := by
  obtain ⟨a0, a1, a2, a3, a4, a5, F0, F1, F2, F3, F4, F5, rfl, rfl, h0, h1, h2, h3, h4, h5⟩ := h
  intro x hx
  repeat' (rcases List.mem_append.1 hx with hx | hx)
  all_goals first | exact h0.blocks x hx | exact h1.blocks x hx | exact h2.blocks x hx | exact h3.blocks x hx | exact h4.blocks x hx | exact h5.blocks x hx
theorem SessIs.shape (h : SessIs I o w p v F) : ∃ A0 k0 A1 k1 A2 k2 A3 k3 A4 k4 A5 k5, v = .agg #[.int .i64 p.setup.band, .slice A0 p.setup.temps.length k0, .int .i64 p.setup.points, .int .i64 p.setup.most, .int .i64 p.setup.pen, .slice A1 p.setup.entries.length k1, .int .i64 p.setup.dflt, .slice A2 p.setup.bigrams.length k2, .int .i64 p.setup.pause, .slice A3 p.strokes.length k3, .slice A4 p.opn.length k4, .int .i64 p.time, .slice A5 p.words.length k5] := by
  obtain ⟨a0, a1, a2, a3, a4, a5, F0, F1, F2, F3, F4, F5, rfl, rfl, h0, h1, h2, h3, h4, h5⟩ := h
  obtain ⟨A0, k0, rfl⟩ := slice_len h0
  obtain ⟨A1, k1, rfl⟩ := slice_len h1
  obtain ⟨A2, k2, rfl⟩ := slice_len h2
  obtain ⟨A3, k3, rfl⟩ := slice_len h3
  obtain ⟨A4, k4, rfl⟩ := slice_len h4
  obtain ⟨A5, k5, rfl⟩ := slice_len h5
  exact ⟨A0, k0, A1, k1, A2, k2, A3, k3, A4, k4, A5, k5, rfl⟩
theorem SessIs.parts (h : SessIs I o w p v F) : ∃ a0 a1 a2 a3 a4 a5 F0 F1 F2 F3 F4 F5, v = .agg #[.int .i64 p.setup.band, a0, .int .i64 p.setup.points, .int .i64 p.setup.most, .int .i64 p.setup.pen, a1, .int .i64 p.setup.dflt, a2, .int .i64 p.setup.pause, a3, a4, .int .i64 p.time, a5] ∧ F = F0 ++ (F1 ++ (F2 ++ (F3 ++ (F4 ++ F5)))) ∧ (pTemps I.ft I.tm).rep o w p.setup.temps [a0] F0 ∧ (pEntrys I.en).rep o w p.setup.entries [a1] F1 ∧ (pBigrams I.bg).rep o w p.setup.bigrams [a2] F2 ∧ (pStrokes I.pt I.st).rep o w p.strokes [a3] F3 ∧ (pPoints I.pt).rep o w p.opn [a4] F4 ∧ (strs 9).rep o w p.words [a5] F5 := h
end
/-- A Setup in memory of its own. -/
def GivesSetup (p : PSetup) (w : World) (e : Ending) (w' : World) : Prop := ∃ v F, e = .returned v ∧ SetupIs idsI true w' p v F ∧ Fresh w.heap.size F ∧ Below w.heap.size w w'
theorem toSetup_p {I : Ids} {o : Bool} {p : PSetup} {v : Value} {F : List Nat} (w : World) (h : SetupIs I o w p v F) (hp : SeSmall p) : Calls Try.prog 7 #[v] w (GivesSetup p w) := by
  obtain ⟨a0, a1, a2, F0, F1, F2, rfl, rfl, h0, h1, h2⟩ := h
  refine (toSetup_c w h0 h1 h2 hp).mono ?_
  rintro e w' ⟨x0, x1, x2, X0, X1, X2, rfl, r0, r1, r2, f, b⟩
  exact ⟨_, _, rfl, ⟨x0, x1, x2, X0, X1, X2, rfl, rfl, r0, r1, r2⟩, f, b⟩
theorem eqSetup_p {I J : Ids} {oa ob : Bool} {p q : PSetup} {v u : Value} {F G : List Nat} (w : World) (h : SetupIs I oa w p v F) (h' : SetupIs J ob w q u G) (hp : SeSmall p) (hq : SeSmall q) : Calls Try.prog 9 #[v, u] w fun e w' => e = .returned (.bool (sameSetupB p q)) ∧ Below w.heap.size w w' := by
  obtain ⟨a0, a1, a2, F0, F1, F2, rfl, rfl, h0, h1, h2⟩ := h
  obtain ⟨b0, b1, b2, G0, G1, G2, rfl, rfl, k0, k1, k2⟩ := h'
  exact eqSetup_c w h0 h1 h2 k0 k1 k2 hp hq
theorem szSetup_p {I : Ids} {o : Bool} {p : PSetup} {v : Value} {F : List Nat} (w : World) (h : SetupIs I o w p v F) (left : Int) (hl : 0 ≤ left ∧ left ≤ 1048576) : Calls Try.prog 5 #[v, .int .i64 left] w fun e w' => (∃ r : Int, e = .returned (.int .i64 r) ∧ r ≤ left ∧ (0 ≤ r → r + (szSe p : Nat) ≤ left)) ∧ Below w.heap.size w w' := by
  obtain ⟨a0, a1, a2, F0, F1, F2, rfl, rfl, h0, h1, h2⟩ := h
  exact szSetup_c w h0 h1 h2 left hl
/-- A Session in memory of its own. -/
def GivesSession (p : PSess) (w : World) (e : Ending) (w' : World) : Prop := ∃ v F, e = .returned v ∧ SessIs idsI true w' p v F ∧ Fresh w.heap.size F ∧ Below w.heap.size w w'
theorem toSession_p {I : Ids} {o : Bool} {p : PSess} {v : Value} {F : List Nat} (w : World) (h : SessIs I o w p v F) (hp : SsSmall p) : Calls Try.prog 12 #[v] w (GivesSession p w) := by
  obtain ⟨a0, a1, a2, a3, a4, a5, F0, F1, F2, F3, F4, F5, rfl, rfl, h0, h1, h2, h3, h4, h5⟩ := h
  refine (toSession_c w h0 h1 h2 h3 h4 h5 hp).mono ?_
  rintro e w' ⟨x0, x1, x2, x3, x4, x5, X0, X1, X2, X3, X4, X5, rfl, r0, r1, r2, r3, r4, r5, f, b⟩
  exact ⟨_, _, rfl, ⟨x0, x1, x2, x3, x4, x5, X0, X1, X2, X3, X4, X5, rfl, rfl, r0, r1, r2, r3, r4, r5⟩, f, b⟩
theorem eqSession_p {I J : Ids} {oa ob : Bool} {p q : PSess} {v u : Value} {F G : List Nat} (w : World) (h : SessIs I oa w p v F) (h' : SessIs J ob w q u G) (hp : SsSmall p) (hq : SsSmall q) : Calls Try.prog 14 #[v, u] w fun e w' => e = .returned (.bool (sameSessB p q)) ∧ Below w.heap.size w w' := by
  obtain ⟨a0, a1, a2, a3, a4, a5, F0, F1, F2, F3, F4, F5, rfl, rfl, h0, h1, h2, h3, h4, h5⟩ := h
  obtain ⟨b0, b1, b2, b3, b4, b5, G0, G1, G2, G3, G4, G5, rfl, rfl, k0, k1, k2, k3, k4, k5⟩ := h'
  exact eqSession_c w h0 h1 h2 h3 h4 h5 k0 k1 k2 k3 k4 k5 hp hq
theorem szSession_p {I : Ids} {o : Bool} {p : PSess} {v : Value} {F : List Nat} (w : World) (h : SessIs I o w p v F) (left : Int) (hl : 0 ≤ left ∧ left ≤ 1048576) : Calls Try.prog 10 #[v, .int .i64 left] w fun e w' => (∃ r : Int, e = .returned (.int .i64 r) ∧ r ≤ left ∧ (0 ≤ r → r + (szSs p : Nat) ≤ left)) ∧ Below w.heap.size w w' := by
  obtain ⟨a0, a1, a2, a3, a4, a5, F0, F1, F2, F3, F4, F5, rfl, rfl, h0, h1, h2, h3, h4, h5⟩ := h
  exact szSession_c w h0 h1 h2 h3 h4 h5 left hl
end Go.Proofs.Ytkkignkoneeieaa

/- Store, Setting, Lexicon, Model, Setup, Session: the law's own to over them. Conditions: none. -/
import Derived.Test.YtboijogahclekaaGreatDoorTyStrokek
namespace Go.Proofs.YtboijogahclekaaGreatDoor
open Go Go.RowKit
set_option maxRecDepth 100000 in
set_option maxHeartbeats 4000000 in
theorem toStore_c {o : Bool} {pe e : TypeId} {n : Int} {xs : List PTemp} {v : Value} {F : List Nat} (w : World) (h : (pTemps pe e).rep o w xs [v] F) (hx : xs.length ≤ 1048576) (hxe : ∀ l ∈ xs, l.feats.length ≤ 1048576) :
 Calls Tryz.prog 62 #[.agg #[.int .i64 n, v]] w fun e w' => ∃ u G, e = .returned (.agg #[.int .i64 n, u]) ∧ (pTemps 282 239).rep true w' xs [u] G ∧ Fresh w.heap.size G ∧ Below w.heap.size w w' := by
 obtain ⟨Aa, ka, rfl⟩ := slice_len h
 have lb : ∀ x, x < w.heap.size → x ∉ [w.heap.size + 1, w.heap.size + 1 + 1] := fun x hx hin => by simp at hin; omega
 have ndh : ∀ x ∈ _, x ∉ [w.heap.size + 1, w.heap.size + 1 + 1] := fun x hx => lb x (h.blocks x hx)
 go_enter Tryz.func62, Tryz.ntmps62
 go_wp2_with fail
 have on1 := (Only.refl [w.heap.size + 1, w.heap.size + 1 + 1] (((w.alloc (.cells #[.int .i64 n, .slice Aa xs.length ka] 24)).alloc (.cells #[.int .i64 0, .slice none 0 0] 52)).alloc (.cells #[.int .i64 n, .slice none 0 0] 52)))
 replace h := (((h.alloc (.cells #[.int .i64 n, .slice Aa xs.length ka] 24)).alloc (.cells #[.int .i64 0, .slice none 0 0] 52)).alloc (.cells #[.int .i64 n, .slice none 0 0] 52))
 have R := (((Row.new w 24 #[.int .i64 n, .slice Aa xs.length ka]).alloc (.cells #[.int .i64 0, .slice none 0 0] 52)).alloc (.cells #[.int .i64 n, .slice none 0 0] 52))
 have T := ((Row.new (w.alloc (.cells #[.int .i64 n, .slice Aa xs.length ka] 24)) 52 #[.int .i64 0, .slice none 0 0]).alloc (.cells #[.int .i64 n, .slice none 0 0] 52))
 have O := Row.new ((w.alloc (.cells #[.int .i64 n, .slice Aa xs.length ka] 24)).alloc (.cells #[.int .i64 0, .slice none 0 0] 52)) 52 #[.int .i64 n, .slice none 0 0]
 simp only [World.size_alloc] at T O
 have bb : Below w.heap.size w (((w.alloc (.cells #[.int .i64 n, .slice Aa xs.length ka] 24)).alloc (.cells #[.int .i64 0, .slice none 0 0] 52)).alloc (.cells #[.int .i64 n, .slice none 0 0] 52)) := ((((Below.refl _ _).alloc (Nat.le_refl _) _).alloc (by simp) _).alloc (by simp; omega) _)
 have bbs : w.heap.size + 1 + 1 + 1 ≤ ((((w.alloc (.cells #[.int .i64 n, .slice Aa xs.length ka] 24)).alloc (.cells #[.int .i64 0, .slice none 0 0] 52)).alloc (.cells #[.int .i64 n, .slice none 0 0] 52))).heap.size := by simp
 replace h := h.only on1 ndh
 replace R := R.onl on1 (fun hin => by simp at hin <;> omega)
 replace bb := bb.trans (on1.below (by omega) (fun x hx => by simp at hx; omega))
 replace bbs := Nat.le_trans bbs on1.size
 refine (toTemplateS_c _ h hx hxe).mono ?_
 rintro e w1 ⟨u1_0, G1_0, rfl, r1_0, f1, b1⟩
 replace h := h.below b1
 replace R := R.later b1
 replace T := T.later b1
 replace O := O.later b1
 have bz1 := b1.size
 replace bb := bb.trans (b1.mono bb.size)
 obtain ⟨Au1_0, ku1_0, rfl⟩ := slice_len r1_0
 have FR := f1.mono (B' := w.heap.size) (by omega)
 have fl1 : ∀ x ∈ G1_0, w.heap.size + 1 + 1 + 1 ≤ x := fun x hx => Nat.le_trans bbs (f1.2 x hx)
 have ndr1_0 : ∀ x ∈ G1_0, x ∉ [w.heap.size + 1, w.heap.size + 1 + 1] := fun x hx hin => by have := fl1 x (by simp [hx]); simp at hin; omega
 replace bbs := Nat.le_trans bbs bz1
 have sz1 := bbs
 have qr0 := R.c0
 have qr1 := R.c1
 have qo0 := O.c0
 have qo1 := O.c1
 have qof := O.frozen
 have qt0 := T.c0
 have qt1 := T.c1
 have qtf := T.frozen
 go_wp2_with fail
 have onE := ((((Only.refl [w.heap.size + 1, w.heap.size + 1 + 1] w1).set (p := ⟨w.heap.size + 1 + 1, 1, none⟩) (by simp) (.slice Au1_0 xs.length ku1_0)).set (p := ⟨w.heap.size + 1, 0, none⟩) (by simp) (.int .i64 n)).set (p := ⟨w.heap.size + 1, 1, none⟩) (by simp) (.slice Au1_0 xs.length ku1_0))
 have TF := (((T.far (p := ⟨w.heap.size + 1 + 1, 1, none⟩) (by simp) (.slice Au1_0 xs.length ku1_0)).set 0 (.int .i64 n)).set 1 (.slice Au1_0 xs.length ku1_0))
 have e0 := TF.c0
 have e1 := TF.c1
 clear qr0 qr1 qo0 qo1 qt0 qt1 qof qtf
 replace r1_0 := r1_0.only onE ndr1_0
 have bE := bb.trans (onE.below bb.size (fun x hx => by simp at hx; omega))
 have hres : (.agg #[.int .i64 n, .slice Au1_0 xs.length ku1_0]) = (.agg #[.int .i64 n, .slice Au1_0 xs.length ku1_0] : Value) := rfl
 refine bodyPost_ret (v := .agg #[.int .i64 n, .slice Au1_0 xs.length ku1_0]) (by simp only [results, Tryz.results62]; go_simp) rfl ⟨_, G1_0, rfl, r1_0, ?_, bE⟩
 simpa only [List.append_assoc] using FR
set_option maxRecDepth 100000 in
set_option maxHeartbeats 4000000 in
theorem toLexicon_c {o : Bool} {e : TypeId} {xs : List PEntry} {v : Value} {F : List Nat} (w : World) (h : (pEntrys e).rep o w xs [v] F) (hx : xs.length ≤ 1048576) :
 Calls Tryz.prog 64 #[.agg #[v]] w fun e w' => ∃ u G, e = .returned (.agg #[u]) ∧ (pEntrys 241).rep true w' xs [u] G ∧ Fresh w.heap.size G ∧ Below w.heap.size w w' := by
 obtain ⟨Aa, ka, rfl⟩ := slice_len h
 have lb : ∀ x, x < w.heap.size → x ∉ [w.heap.size + 1, w.heap.size + 1 + 1] := fun x hx hin => by simp at hin; omega
 have ndh : ∀ x ∈ _, x ∉ [w.heap.size + 1, w.heap.size + 1 + 1] := fun x hx => lb x (h.blocks x hx)
 go_enter Tryz.func64, Tryz.ntmps64
 go_wp2_with fail
 have on1 := (Only.refl [w.heap.size + 1, w.heap.size + 1 + 1] (((w.alloc (.cells #[.slice Aa xs.length ka] 29)).alloc (.cells #[.slice none 0 0] 56)).alloc (.cells #[.slice none 0 0] 56)))
 replace h := (((h.alloc (.cells #[.slice Aa xs.length ka] 29)).alloc (.cells #[.slice none 0 0] 56)).alloc (.cells #[.slice none 0 0] 56))
 have R := (((Row.new w 29 #[.slice Aa xs.length ka]).alloc (.cells #[.slice none 0 0] 56)).alloc (.cells #[.slice none 0 0] 56))
 have T := ((Row.new (w.alloc (.cells #[.slice Aa xs.length ka] 29)) 56 #[.slice none 0 0]).alloc (.cells #[.slice none 0 0] 56))
 have O := Row.new ((w.alloc (.cells #[.slice Aa xs.length ka] 29)).alloc (.cells #[.slice none 0 0] 56)) 56 #[.slice none 0 0]
 simp only [World.size_alloc] at T O
 have bb : Below w.heap.size w (((w.alloc (.cells #[.slice Aa xs.length ka] 29)).alloc (.cells #[.slice none 0 0] 56)).alloc (.cells #[.slice none 0 0] 56)) := ((((Below.refl _ _).alloc (Nat.le_refl _) _).alloc (by simp) _).alloc (by simp; omega) _)
 have bbs : w.heap.size + 1 + 1 + 1 ≤ ((((w.alloc (.cells #[.slice Aa xs.length ka] 29)).alloc (.cells #[.slice none 0 0] 56)).alloc (.cells #[.slice none 0 0] 56))).heap.size := by simp
 replace h := h.only on1 ndh
 replace R := R.onl on1 (fun hin => by simp at hin <;> omega)
 replace bb := bb.trans (on1.below (by omega) (fun x hx => by simp at hx; omega))
 replace bbs := Nat.le_trans bbs on1.size
 refine (toEntryS_c _ h hx).mono ?_
 rintro e w1 ⟨u1_0, G1_0, rfl, r1_0, f1, b1⟩
 replace h := h.below b1
 replace R := R.later b1
 replace T := T.later b1
 replace O := O.later b1
 have bz1 := b1.size
 replace bb := bb.trans (b1.mono bb.size)
 obtain ⟨Au1_0, ku1_0, rfl⟩ := slice_len r1_0
 have FR := f1.mono (B' := w.heap.size) (by omega)
 have fl1 : ∀ x ∈ G1_0, w.heap.size + 1 + 1 + 1 ≤ x := fun x hx => Nat.le_trans bbs (f1.2 x hx)
 have ndr1_0 : ∀ x ∈ G1_0, x ∉ [w.heap.size + 1, w.heap.size + 1 + 1] := fun x hx hin => by have := fl1 x (by simp [hx]); simp at hin; omega
 replace bbs := Nat.le_trans bbs bz1
 have sz1 := bbs
 have qr0 := R.c0
 have qo0 := O.c0
 have qof := O.frozen
 have qt0 := T.c0
 have qtf := T.frozen
 go_wp2_with fail
 have onE := (((Only.refl [w.heap.size + 1, w.heap.size + 1 + 1] w1).set (p := ⟨w.heap.size + 1 + 1, 0, none⟩) (by simp) (.slice Au1_0 xs.length ku1_0)).set (p := ⟨w.heap.size + 1, 0, none⟩) (by simp) (.slice Au1_0 xs.length ku1_0))
 have TF := ((T.far (p := ⟨w.heap.size + 1 + 1, 0, none⟩) (by simp) (.slice Au1_0 xs.length ku1_0)).set 0 (.slice Au1_0 xs.length ku1_0))
 have e0 := TF.c0
 clear qr0 qo0 qt0 qof qtf
 replace r1_0 := r1_0.only onE ndr1_0
 have bE := bb.trans (onE.below bb.size (fun x hx => by simp at hx; omega))
 have hres : (.agg #[.slice Au1_0 xs.length ku1_0]) = (.agg #[.slice Au1_0 xs.length ku1_0] : Value) := rfl
 refine bodyPost_ret (v := .agg #[.slice Au1_0 xs.length ku1_0]) (by simp only [results, Tryz.results64]; go_simp) rfl ⟨_, G1_0, rfl, r1_0, ?_, bE⟩
 simpa only [List.append_assoc] using FR
set_option maxRecDepth 100000 in
set_option maxHeartbeats 4000000 in
theorem toModel_c {o : Bool} {e : TypeId} {n : Int} {xs : List PBigram} {v : Value} {F : List Nat} (w : World) (h : (pBigrams e).rep o w xs [v] F) (hx : xs.length ≤ 1048576) :
 Calls Tryz.prog 65 #[.agg #[.int .i64 n, v]] w fun e w' => ∃ u G, e = .returned (.agg #[.int .i64 n, u]) ∧ (pBigrams 244).rep true w' xs [u] G ∧ Fresh w.heap.size G ∧ Below w.heap.size w w' := by
 obtain ⟨Aa, ka, rfl⟩ := slice_len h
 have lb : ∀ x, x < w.heap.size → x ∉ [w.heap.size + 1, w.heap.size + 1 + 1] := fun x hx hin => by simp at hin; omega
 have ndh : ∀ x ∈ _, x ∉ [w.heap.size + 1, w.heap.size + 1 + 1] := fun x hx => lb x (h.blocks x hx)
 go_enter Tryz.func65, Tryz.ntmps65
 go_wp2_with fail
 have on1 := (Only.refl [w.heap.size + 1, w.heap.size + 1 + 1] (((w.alloc (.cells #[.int .i64 n, .slice Aa xs.length ka] 32)).alloc (.cells #[.int .i64 0, .slice none 0 0] 59)).alloc (.cells #[.int .i64 n, .slice none 0 0] 59)))
 replace h := (((h.alloc (.cells #[.int .i64 n, .slice Aa xs.length ka] 32)).alloc (.cells #[.int .i64 0, .slice none 0 0] 59)).alloc (.cells #[.int .i64 n, .slice none 0 0] 59))
 have R := (((Row.new w 32 #[.int .i64 n, .slice Aa xs.length ka]).alloc (.cells #[.int .i64 0, .slice none 0 0] 59)).alloc (.cells #[.int .i64 n, .slice none 0 0] 59))
 have T := ((Row.new (w.alloc (.cells #[.int .i64 n, .slice Aa xs.length ka] 32)) 59 #[.int .i64 0, .slice none 0 0]).alloc (.cells #[.int .i64 n, .slice none 0 0] 59))
 have O := Row.new ((w.alloc (.cells #[.int .i64 n, .slice Aa xs.length ka] 32)).alloc (.cells #[.int .i64 0, .slice none 0 0] 59)) 59 #[.int .i64 n, .slice none 0 0]
 simp only [World.size_alloc] at T O
 have bb : Below w.heap.size w (((w.alloc (.cells #[.int .i64 n, .slice Aa xs.length ka] 32)).alloc (.cells #[.int .i64 0, .slice none 0 0] 59)).alloc (.cells #[.int .i64 n, .slice none 0 0] 59)) := ((((Below.refl _ _).alloc (Nat.le_refl _) _).alloc (by simp) _).alloc (by simp; omega) _)
 have bbs : w.heap.size + 1 + 1 + 1 ≤ ((((w.alloc (.cells #[.int .i64 n, .slice Aa xs.length ka] 32)).alloc (.cells #[.int .i64 0, .slice none 0 0] 59)).alloc (.cells #[.int .i64 n, .slice none 0 0] 59))).heap.size := by simp
 replace h := h.only on1 ndh
 replace R := R.onl on1 (fun hin => by simp at hin <;> omega)
 replace bb := bb.trans (on1.below (by omega) (fun x hx => by simp at hx; omega))
 replace bbs := Nat.le_trans bbs on1.size
 refine (toBigramS_c _ h hx).mono ?_
 rintro e w1 ⟨u1_0, G1_0, rfl, r1_0, f1, b1⟩
 replace h := h.below b1
 replace R := R.later b1
 replace T := T.later b1
 replace O := O.later b1
 have bz1 := b1.size
 replace bb := bb.trans (b1.mono bb.size)
 obtain ⟨Au1_0, ku1_0, rfl⟩ := slice_len r1_0
 have FR := f1.mono (B' := w.heap.size) (by omega)
 have fl1 : ∀ x ∈ G1_0, w.heap.size + 1 + 1 + 1 ≤ x := fun x hx => Nat.le_trans bbs (f1.2 x hx)
 have ndr1_0 : ∀ x ∈ G1_0, x ∉ [w.heap.size + 1, w.heap.size + 1 + 1] := fun x hx hin => by have := fl1 x (by simp [hx]); simp at hin; omega
 replace bbs := Nat.le_trans bbs bz1
 have sz1 := bbs
 have qr0 := R.c0
 have qr1 := R.c1
 have qo0 := O.c0
 have qo1 := O.c1
 have qof := O.frozen
 have qt0 := T.c0
 have qt1 := T.c1
 have qtf := T.frozen
 go_wp2_with fail
 have onE := ((((Only.refl [w.heap.size + 1, w.heap.size + 1 + 1] w1).set (p := ⟨w.heap.size + 1 + 1, 1, none⟩) (by simp) (.slice Au1_0 xs.length ku1_0)).set (p := ⟨w.heap.size + 1, 0, none⟩) (by simp) (.int .i64 n)).set (p := ⟨w.heap.size + 1, 1, none⟩) (by simp) (.slice Au1_0 xs.length ku1_0))
 have TF := (((T.far (p := ⟨w.heap.size + 1 + 1, 1, none⟩) (by simp) (.slice Au1_0 xs.length ku1_0)).set 0 (.int .i64 n)).set 1 (.slice Au1_0 xs.length ku1_0))
 have e0 := TF.c0
 have e1 := TF.c1
 clear qr0 qr1 qo0 qo1 qt0 qt1 qof qtf
 replace r1_0 := r1_0.only onE ndr1_0
 have bE := bb.trans (onE.below bb.size (fun x hx => by simp at hx; omega))
 have hres : (.agg #[.int .i64 n, .slice Au1_0 xs.length ku1_0]) = (.agg #[.int .i64 n, .slice Au1_0 xs.length ku1_0] : Value) := rfl
 refine bodyPost_ret (v := .agg #[.int .i64 n, .slice Au1_0 xs.length ku1_0]) (by simp only [results, Tryz.results65]; go_simp) rfl ⟨_, G1_0, rfl, r1_0, ?_, bE⟩
 simpa only [List.append_assoc] using FR
set_option maxRecDepth 100000 in
set_option maxHeartbeats 4000000 in
theorem toSetup_c {o : Bool} {ef et ee eb : TypeId} {p : PSetup} {a b c : Value} {F1 F2 F3 : List Nat} (w : World) (h1 : (pTemps ef et).rep o w p.temps [a] F1) (h2 : (pEntrys ee).rep o w p.entries [b] F2) (h3 : (pBigrams eb).rep o w p.bigrams [c] F3) (hp : SeSmall p) :
 Calls Tryz.prog 29 #[.agg #[.int .i64 p.band, a, .int .i64 p.points, .int .i64 p.most, .int .i64 p.pen, b, .int .i64 p.dflt, c, .int .i64 p.pause]] w fun e w' => ∃ a' b' c' G1 G2 G3, e = .returned (.agg #[.int .i64 p.band, a', .int .i64 p.points, .int .i64 p.most, .int .i64 p.pen, b', .int .i64 p.dflt, c', .int .i64 p.pause]) ∧ (pTemps 282 239).rep true w' p.temps [a'] G1 ∧ (pEntrys 241).rep true w' p.entries [b'] G2 ∧ (pBigrams 244).rep true w' p.bigrams [c'] G3 ∧ Fresh w.heap.size (G1 ++ (G2 ++ G3)) ∧ Below w.heap.size w w' := by
 obtain ⟨Aa, ka, rfl⟩ := slice_len h1
 obtain ⟨Ab, kb, rfl⟩ := slice_len h2
 obtain ⟨Ac, kc, rfl⟩ := slice_len h3
 have lb : ∀ x, x < w.heap.size → x ∉ [w.heap.size + 1, w.heap.size + 1 + 1] := fun x hx hin => by simp at hin; omega
 have ndh1 : ∀ x ∈ _, x ∉ [w.heap.size + 1, w.heap.size + 1 + 1] := fun x hx => lb x (h1.blocks x hx)
 have ndh2 : ∀ x ∈ _, x ∉ [w.heap.size + 1, w.heap.size + 1 + 1] := fun x hx => lb x (h2.blocks x hx)
 have ndh3 : ∀ x ∈ _, x ∉ [w.heap.size + 1, w.heap.size + 1 + 1] := fun x hx => lb x (h3.blocks x hx)
 go_enter Tryz.func29, Tryz.ntmps29
 go_wp2_with fail
 have on1 := (Only.refl [w.heap.size + 1, w.heap.size + 1 + 1] (((w.alloc (.cells #[.int .i64 p.band, .slice Aa p.temps.length ka, .int .i64 p.points, .int .i64 p.most, .int .i64 p.pen, .slice Ab p.entries.length kb, .int .i64 p.dflt, .slice Ac p.bigrams.length kc, .int .i64 p.pause] 34)).alloc (.cells #[.int .i64 0, .slice none 0 0, .int .i64 0, .int .i64 0, .int .i64 0, .slice none 0 0, .int .i64 0, .slice none 0 0, .int .i64 0] 61)).alloc (.cells #[.int .i64 0, .slice none 0 0, .int .i64 0, .int .i64 0, .int .i64 0, .slice none 0 0, .int .i64 0, .slice none 0 0, .int .i64 0] 61)))
 replace h1 := (((h1.alloc (.cells #[.int .i64 p.band, .slice Aa p.temps.length ka, .int .i64 p.points, .int .i64 p.most, .int .i64 p.pen, .slice Ab p.entries.length kb, .int .i64 p.dflt, .slice Ac p.bigrams.length kc, .int .i64 p.pause] 34)).alloc (.cells #[.int .i64 0, .slice none 0 0, .int .i64 0, .int .i64 0, .int .i64 0, .slice none 0 0, .int .i64 0, .slice none 0 0, .int .i64 0] 61)).alloc (.cells #[.int .i64 0, .slice none 0 0, .int .i64 0, .int .i64 0, .int .i64 0, .slice none 0 0, .int .i64 0, .slice none 0 0, .int .i64 0] 61))
 replace h2 := (((h2.alloc (.cells #[.int .i64 p.band, .slice Aa p.temps.length ka, .int .i64 p.points, .int .i64 p.most, .int .i64 p.pen, .slice Ab p.entries.length kb, .int .i64 p.dflt, .slice Ac p.bigrams.length kc, .int .i64 p.pause] 34)).alloc (.cells #[.int .i64 0, .slice none 0 0, .int .i64 0, .int .i64 0, .int .i64 0, .slice none 0 0, .int .i64 0, .slice none 0 0, .int .i64 0] 61)).alloc (.cells #[.int .i64 0, .slice none 0 0, .int .i64 0, .int .i64 0, .int .i64 0, .slice none 0 0, .int .i64 0, .slice none 0 0, .int .i64 0] 61))
 replace h3 := (((h3.alloc (.cells #[.int .i64 p.band, .slice Aa p.temps.length ka, .int .i64 p.points, .int .i64 p.most, .int .i64 p.pen, .slice Ab p.entries.length kb, .int .i64 p.dflt, .slice Ac p.bigrams.length kc, .int .i64 p.pause] 34)).alloc (.cells #[.int .i64 0, .slice none 0 0, .int .i64 0, .int .i64 0, .int .i64 0, .slice none 0 0, .int .i64 0, .slice none 0 0, .int .i64 0] 61)).alloc (.cells #[.int .i64 0, .slice none 0 0, .int .i64 0, .int .i64 0, .int .i64 0, .slice none 0 0, .int .i64 0, .slice none 0 0, .int .i64 0] 61))
 have R := (((Row.new w 34 #[.int .i64 p.band, .slice Aa p.temps.length ka, .int .i64 p.points, .int .i64 p.most, .int .i64 p.pen, .slice Ab p.entries.length kb, .int .i64 p.dflt, .slice Ac p.bigrams.length kc, .int .i64 p.pause]).alloc (.cells #[.int .i64 0, .slice none 0 0, .int .i64 0, .int .i64 0, .int .i64 0, .slice none 0 0, .int .i64 0, .slice none 0 0, .int .i64 0] 61)).alloc (.cells #[.int .i64 0, .slice none 0 0, .int .i64 0, .int .i64 0, .int .i64 0, .slice none 0 0, .int .i64 0, .slice none 0 0, .int .i64 0] 61))
 have T := ((Row.new (w.alloc (.cells #[.int .i64 p.band, .slice Aa p.temps.length ka, .int .i64 p.points, .int .i64 p.most, .int .i64 p.pen, .slice Ab p.entries.length kb, .int .i64 p.dflt, .slice Ac p.bigrams.length kc, .int .i64 p.pause] 34)) 61 #[.int .i64 0, .slice none 0 0, .int .i64 0, .int .i64 0, .int .i64 0, .slice none 0 0, .int .i64 0, .slice none 0 0, .int .i64 0]).alloc (.cells #[.int .i64 0, .slice none 0 0, .int .i64 0, .int .i64 0, .int .i64 0, .slice none 0 0, .int .i64 0, .slice none 0 0, .int .i64 0] 61))
 have O := Row.new ((w.alloc (.cells #[.int .i64 p.band, .slice Aa p.temps.length ka, .int .i64 p.points, .int .i64 p.most, .int .i64 p.pen, .slice Ab p.entries.length kb, .int .i64 p.dflt, .slice Ac p.bigrams.length kc, .int .i64 p.pause] 34)).alloc (.cells #[.int .i64 0, .slice none 0 0, .int .i64 0, .int .i64 0, .int .i64 0, .slice none 0 0, .int .i64 0, .slice none 0 0, .int .i64 0] 61)) 61 #[.int .i64 0, .slice none 0 0, .int .i64 0, .int .i64 0, .int .i64 0, .slice none 0 0, .int .i64 0, .slice none 0 0, .int .i64 0]
 simp only [World.size_alloc] at T O
 have bb : Below w.heap.size w (((w.alloc (.cells #[.int .i64 p.band, .slice Aa p.temps.length ka, .int .i64 p.points, .int .i64 p.most, .int .i64 p.pen, .slice Ab p.entries.length kb, .int .i64 p.dflt, .slice Ac p.bigrams.length kc, .int .i64 p.pause] 34)).alloc (.cells #[.int .i64 0, .slice none 0 0, .int .i64 0, .int .i64 0, .int .i64 0, .slice none 0 0, .int .i64 0, .slice none 0 0, .int .i64 0] 61)).alloc (.cells #[.int .i64 0, .slice none 0 0, .int .i64 0, .int .i64 0, .int .i64 0, .slice none 0 0, .int .i64 0, .slice none 0 0, .int .i64 0] 61)) := ((((Below.refl _ _).alloc (Nat.le_refl _) _).alloc (by simp) _).alloc (by simp; omega) _)
 have bbs : w.heap.size + 1 + 1 + 1 ≤ ((((w.alloc (.cells #[.int .i64 p.band, .slice Aa p.temps.length ka, .int .i64 p.points, .int .i64 p.most, .int .i64 p.pen, .slice Ab p.entries.length kb, .int .i64 p.dflt, .slice Ac p.bigrams.length kc, .int .i64 p.pause] 34)).alloc (.cells #[.int .i64 0, .slice none 0 0, .int .i64 0, .int .i64 0, .int .i64 0, .slice none 0 0, .int .i64 0, .slice none 0 0, .int .i64 0] 61)).alloc (.cells #[.int .i64 0, .slice none 0 0, .int .i64 0, .int .i64 0, .int .i64 0, .slice none 0 0, .int .i64 0, .slice none 0 0, .int .i64 0] 61))).heap.size := by simp
 replace h1 := h1.only on1 ndh1
 replace h2 := h2.only on1 ndh2
 replace h3 := h3.only on1 ndh3
 replace R := R.onl on1 (fun hin => by simp at hin <;> omega)
 replace bb := bb.trans (on1.below (by omega) (fun x hx => by simp at hx; omega))
 replace bbs := Nat.le_trans bbs on1.size
 refine (toStore_c (n := p.band) _ h1 hp.t hp.f).mono ?_
 rintro e w1 ⟨u1_0, G1_0, rfl, r1_0, f1, b1⟩
 replace h1 := h1.below b1
 replace h2 := h2.below b1
 replace h3 := h3.below b1
 replace R := R.later b1
 replace T := T.later b1
 replace O := O.later b1
 have bz1 := b1.size
 replace bb := bb.trans (b1.mono bb.size)
 obtain ⟨Au1_0, ku1_0, rfl⟩ := slice_len r1_0
 have FR := f1.mono (B' := w.heap.size) (by omega)
 have fl1 : ∀ x ∈ G1_0, w.heap.size + 1 + 1 + 1 ≤ x := fun x hx => Nat.le_trans bbs (f1.2 x hx)
 have ndr1_0 : ∀ x ∈ G1_0, x ∉ [w.heap.size + 1, w.heap.size + 1 + 1] := fun x hx hin => by have := fl1 x (by simp [hx]); simp at hin; omega
 replace bbs := Nat.le_trans bbs bz1
 have sz1 := bbs
 have qr0 := R.c0
 have qr1 := R.c1
 have qr2 := R.c2
 have qr3 := R.c3
 have qr4 := R.c4
 have qr5 := R.c5
 have qr6 := R.cell' (i := 6) rfl
 have qr7 := R.cell' (i := 7) rfl
 have qr8 := R.cell' (i := 8) rfl
 have qo0 := O.c0
 have qo1 := O.c1
 have qo2 := O.c2
 have qo3 := O.c3
 have qo4 := O.c4
 have qo5 := O.c5
 have qo6 := O.cell' (i := 6) rfl
 have qo7 := O.cell' (i := 7) rfl
 have qo8 := O.cell' (i := 8) rfl
 have qof := O.frozen
 go_wp2_with fail
 have on2 := (((Only.refl [w.heap.size + 1, w.heap.size + 1 + 1] w1).set (p := ⟨w.heap.size + 1 + 1, 0, none⟩) (by simp) (.int .i64 p.band)).set (p := ⟨w.heap.size + 1 + 1, 1, none⟩) (by simp) (.slice Au1_0 p.temps.length ku1_0))
 replace h1 := h1.only on2 ndh1
 replace h2 := h2.only on2 ndh2
 replace h3 := h3.only on2 ndh3
 replace r1_0 := r1_0.only on2 ndr1_0
 replace R := R.onl on2 (fun hin => by simp at hin <;> omega)
 replace T := T.far (p := ⟨w.heap.size + 1 + 1, 0, none⟩) (by simp) (.int .i64 p.band)
 replace O := O.set 0 (.int .i64 p.band)
 replace T := T.far (p := ⟨w.heap.size + 1 + 1, 1, none⟩) (by simp) (.slice Au1_0 p.temps.length ku1_0)
 replace O := O.set 1 (.slice Au1_0 p.temps.length ku1_0)
 replace bb := bb.trans (on2.below (by omega) (fun x hx => by simp at hx; omega))
 replace bbs := Nat.le_trans bbs on2.size
 refine (toSetting_c ⟨p.points, p.most, p.pen⟩ _).mono ?_
 rintro e w2 ⟨rfl, b2⟩
 clear qr0 qr1 qr2 qr3 qr4 qr5 qr6 qr7 qr8 qo0 qo1 qo2 qo3 qo4 qo5 qo6 qo7 qo8 qof
 replace h1 := h1.below b2
 replace h2 := h2.below b2
 replace h3 := h3.below b2
 replace r1_0 := r1_0.below b2
 replace R := R.later b2
 replace T := T.later b2
 replace O := O.later b2
 have bz2 := b2.size
 replace bb := bb.trans (b2.mono bb.size)
 replace bbs := Nat.le_trans bbs bz2
 have sz2 := bbs
 have qr0 := R.c0
 have qr1 := R.c1
 have qr2 := R.c2
 have qr3 := R.c3
 have qr4 := R.c4
 have qr5 := R.c5
 have qr6 := R.cell' (i := 6) rfl
 have qr7 := R.cell' (i := 7) rfl
 have qr8 := R.cell' (i := 8) rfl
 have qo0 := O.c0
 have qo1 := O.c1
 have qo2 := O.c2
 have qo3 := O.c3
 have qo4 := O.c4
 have qo5 := O.c5
 have qo6 := O.cell' (i := 6) rfl
 have qo7 := O.cell' (i := 7) rfl
 have qo8 := O.cell' (i := 8) rfl
 have qof := O.frozen
 go_wp2_with fail
 have on3 := ((((Only.refl [w.heap.size + 1, w.heap.size + 1 + 1] w2).set (p := ⟨w.heap.size + 1 + 1, 2, none⟩) (by simp) (.int .i64 p.points)).set (p := ⟨w.heap.size + 1 + 1, 3, none⟩) (by simp) (.int .i64 p.most)).set (p := ⟨w.heap.size + 1 + 1, 4, none⟩) (by simp) (.int .i64 p.pen))
 replace h1 := h1.only on3 ndh1
 replace h2 := h2.only on3 ndh2
 replace h3 := h3.only on3 ndh3
 replace r1_0 := r1_0.only on3 ndr1_0
 replace R := R.onl on3 (fun hin => by simp at hin <;> omega)
 replace T := T.far (p := ⟨w.heap.size + 1 + 1, 2, none⟩) (by simp) (.int .i64 p.points)
 replace O := O.set 2 (.int .i64 p.points)
 replace T := T.far (p := ⟨w.heap.size + 1 + 1, 3, none⟩) (by simp) (.int .i64 p.most)
 replace O := O.set 3 (.int .i64 p.most)
 replace T := T.far (p := ⟨w.heap.size + 1 + 1, 4, none⟩) (by simp) (.int .i64 p.pen)
 replace O := O.set 4 (.int .i64 p.pen)
 replace bb := bb.trans (on3.below (by omega) (fun x hx => by simp at hx; omega))
 replace bbs := Nat.le_trans bbs on3.size
 have hl3 : ∀ x ∈ G1_0, x < _ := fun x hx => by
  repeat' (rcases List.mem_append.1 hx with hx | hx)
  all_goals first | exact r1_0.blocks x hx
 refine (toLexicon_c _ h2 hp.e).mono ?_
 rintro e w3 ⟨u3_0, G3_0, rfl, r3_0, f3, b3⟩
 clear qr0 qr1 qr2 qr3 qr4 qr5 qr6 qr7 qr8 qo0 qo1 qo2 qo3 qo4 qo5 qo6 qo7 qo8 qof
 replace h1 := h1.below b3
 replace h2 := h2.below b3
 replace h3 := h3.below b3
 replace r1_0 := r1_0.below b3
 replace R := R.later b3
 replace T := T.later b3
 replace O := O.later b3
 have bz3 := b3.size
 replace bb := bb.trans (b3.mono bb.size)
 obtain ⟨Au3_0, ku3_0, rfl⟩ := slice_len r3_0
 replace FR := fresh_join FR hl3 f3 (by omega)
 have fl3 : ∀ x ∈ G3_0, w.heap.size + 1 + 1 + 1 ≤ x := fun x hx => Nat.le_trans bbs (f3.2 x hx)
 have ndr3_0 : ∀ x ∈ G3_0, x ∉ [w.heap.size + 1, w.heap.size + 1 + 1] := fun x hx hin => by have := fl3 x (by simp [hx]); simp at hin; omega
 replace bbs := Nat.le_trans bbs bz3
 have sz3 := bbs
 have qr0 := R.c0
 have qr1 := R.c1
 have qr2 := R.c2
 have qr3 := R.c3
 have qr4 := R.c4
 have qr5 := R.c5
 have qr6 := R.cell' (i := 6) rfl
 have qr7 := R.cell' (i := 7) rfl
 have qr8 := R.cell' (i := 8) rfl
 have qo0 := O.c0
 have qo1 := O.c1
 have qo2 := O.c2
 have qo3 := O.c3
 have qo4 := O.c4
 have qo5 := O.c5
 have qo6 := O.cell' (i := 6) rfl
 have qo7 := O.cell' (i := 7) rfl
 have qo8 := O.cell' (i := 8) rfl
 have qof := O.frozen
 go_wp2_with fail
 have on4 := ((Only.refl [w.heap.size + 1, w.heap.size + 1 + 1] w3).set (p := ⟨w.heap.size + 1 + 1, 5, none⟩) (by simp) (.slice Au3_0 p.entries.length ku3_0))
 replace h1 := h1.only on4 ndh1
 replace h2 := h2.only on4 ndh2
 replace h3 := h3.only on4 ndh3
 replace r1_0 := r1_0.only on4 ndr1_0
 replace r3_0 := r3_0.only on4 ndr3_0
 replace R := R.onl on4 (fun hin => by simp at hin <;> omega)
 replace T := T.far (p := ⟨w.heap.size + 1 + 1, 5, none⟩) (by simp) (.slice Au3_0 p.entries.length ku3_0)
 replace O := O.set 5 (.slice Au3_0 p.entries.length ku3_0)
 replace bb := bb.trans (on4.below (by omega) (fun x hx => by simp at hx; omega))
 replace bbs := Nat.le_trans bbs on4.size
 have hl4 : ∀ x ∈ (G1_0) ++ (G3_0), x < _ := fun x hx => by
  repeat' (rcases List.mem_append.1 hx with hx | hx)
  all_goals first | exact r1_0.blocks x hx | exact r3_0.blocks x hx
 refine (toModel_c (n := p.dflt) _ h3 hp.b).mono ?_
 rintro e w4 ⟨u4_0, G4_0, rfl, r4_0, f4, b4⟩
 clear qr0 qr1 qr2 qr3 qr4 qr5 qr6 qr7 qr8 qo0 qo1 qo2 qo3 qo4 qo5 qo6 qo7 qo8 qof
 replace h1 := h1.below b4
 replace h2 := h2.below b4
 replace h3 := h3.below b4
 replace r1_0 := r1_0.below b4
 replace r3_0 := r3_0.below b4
 replace R := R.later b4
 replace T := T.later b4
 replace O := O.later b4
 have bz4 := b4.size
 replace bb := bb.trans (b4.mono bb.size)
 obtain ⟨Au4_0, ku4_0, rfl⟩ := slice_len r4_0
 replace FR := fresh_join FR hl4 f4 (by omega)
 have fl4 : ∀ x ∈ G4_0, w.heap.size + 1 + 1 + 1 ≤ x := fun x hx => Nat.le_trans bbs (f4.2 x hx)
 have ndr4_0 : ∀ x ∈ G4_0, x ∉ [w.heap.size + 1, w.heap.size + 1 + 1] := fun x hx hin => by have := fl4 x (by simp [hx]); simp at hin; omega
 replace bbs := Nat.le_trans bbs bz4
 have sz4 := bbs
 have qr0 := R.c0
 have qr1 := R.c1
 have qr2 := R.c2
 have qr3 := R.c3
 have qr4 := R.c4
 have qr5 := R.c5
 have qr6 := R.cell' (i := 6) rfl
 have qr7 := R.cell' (i := 7) rfl
 have qr8 := R.cell' (i := 8) rfl
 have qo0 := O.c0
 have qo1 := O.c1
 have qo2 := O.c2
 have qo3 := O.c3
 have qo4 := O.c4
 have qo5 := O.c5
 have qo6 := O.cell' (i := 6) rfl
 have qo7 := O.cell' (i := 7) rfl
 have qo8 := O.cell' (i := 8) rfl
 have qof := O.frozen
 have qt0 := T.c0
 have qt1 := T.c1
 have qt2 := T.c2
 have qt3 := T.c3
 have qt4 := T.c4
 have qt5 := T.c5
 have qt6 := T.cell' (i := 6) rfl
 have qt7 := T.cell' (i := 7) rfl
 have qt8 := T.cell' (i := 8) rfl
 have qtf := T.frozen
 go_wp2_with fail
 have onE := (((((((((((((Only.refl [w.heap.size + 1, w.heap.size + 1 + 1] w4).set (p := ⟨w.heap.size + 1 + 1, 6, none⟩) (by simp) (.int .i64 p.dflt)).set (p := ⟨w.heap.size + 1 + 1, 7, none⟩) (by simp) (.slice Au4_0 p.bigrams.length ku4_0)).set (p := ⟨w.heap.size + 1 + 1, 8, none⟩) (by simp) (.int .i64 p.pause)).set (p := ⟨w.heap.size + 1, 0, none⟩) (by simp) (.int .i64 p.band)).set (p := ⟨w.heap.size + 1, 1, none⟩) (by simp) (.slice Au1_0 p.temps.length ku1_0)).set (p := ⟨w.heap.size + 1, 2, none⟩) (by simp) (.int .i64 p.points)).set (p := ⟨w.heap.size + 1, 3, none⟩) (by simp) (.int .i64 p.most)).set (p := ⟨w.heap.size + 1, 4, none⟩) (by simp) (.int .i64 p.pen)).set (p := ⟨w.heap.size + 1, 5, none⟩) (by simp) (.slice Au3_0 p.entries.length ku3_0)).set (p := ⟨w.heap.size + 1, 6, none⟩) (by simp) (.int .i64 p.dflt)).set (p := ⟨w.heap.size + 1, 7, none⟩) (by simp) (.slice Au4_0 p.bigrams.length ku4_0)).set (p := ⟨w.heap.size + 1, 8, none⟩) (by simp) (.int .i64 p.pause))
 have TF := ((((((((((((T.far (p := ⟨w.heap.size + 1 + 1, 6, none⟩) (by simp) (.int .i64 p.dflt)).far (p := ⟨w.heap.size + 1 + 1, 7, none⟩) (by simp) (.slice Au4_0 p.bigrams.length ku4_0)).far (p := ⟨w.heap.size + 1 + 1, 8, none⟩) (by simp) (.int .i64 p.pause)).set 0 (.int .i64 p.band)).set 1 (.slice Au1_0 p.temps.length ku1_0)).set 2 (.int .i64 p.points)).set 3 (.int .i64 p.most)).set 4 (.int .i64 p.pen)).set 5 (.slice Au3_0 p.entries.length ku3_0)).set 6 (.int .i64 p.dflt)).set 7 (.slice Au4_0 p.bigrams.length ku4_0)).set 8 (.int .i64 p.pause))
 have e0 := TF.c0
 have e1 := TF.c1
 have e2 := TF.c2
 have e3 := TF.c3
 have e4 := TF.c4
 have e5 := TF.c5
 have e6 := TF.cell' (i := 6) rfl
 have e7 := TF.cell' (i := 7) rfl
 have e8 := TF.cell' (i := 8) rfl
 clear qr0 qr1 qr2 qr3 qr4 qr5 qr6 qr7 qr8 qo0 qo1 qo2 qo3 qo4 qo5 qo6 qo7 qo8 qt0 qt1 qt2 qt3 qt4 qt5 qt6 qt7 qt8 qof qtf
 replace r1_0 := r1_0.only onE ndr1_0
 replace r3_0 := r3_0.only onE ndr3_0
 replace r4_0 := r4_0.only onE ndr4_0
 have bE := bb.trans (onE.below bb.size (fun x hx => by simp at hx; omega))
 have hres : (.agg #[.int .i64 p.band, .slice Au1_0 p.temps.length ku1_0, .int .i64 p.points, .int .i64 p.most, .int .i64 p.pen, .slice Au3_0 p.entries.length ku3_0, .int .i64 p.dflt, .slice Au4_0 p.bigrams.length ku4_0, .int .i64 p.pause]) = (.agg #[.int .i64 p.band, .slice Au1_0 p.temps.length ku1_0, .int .i64 p.points, .int .i64 p.most, .int .i64 p.pen, .slice Au3_0 p.entries.length ku3_0, .int .i64 p.dflt, .slice Au4_0 p.bigrams.length ku4_0, .int .i64 p.pause] : Value) := rfl
 refine bodyPost_ret (v := .agg #[.int .i64 p.band, .slice Au1_0 p.temps.length ku1_0, .int .i64 p.points, .int .i64 p.most, .int .i64 p.pen, .slice Au3_0 p.entries.length ku3_0, .int .i64 p.dflt, .slice Au4_0 p.bigrams.length ku4_0, .int .i64 p.pause]) (by simp only [results, Tryz.results29]; go_simp) rfl ⟨_, _, _, G1_0, G3_0, G4_0, rfl, r1_0, r3_0, r4_0, ?_, bE⟩
 simpa only [List.append_assoc] using FR
set_option maxRecDepth 100000 in
set_option maxHeartbeats 8000000 in
theorem toSession_c {o : Bool} {ef et ee eb pe es ep : TypeId} {q : PSess} {a b c d g x : Value} {F1 F2 F3 F4 F5 F6 : List Nat} (w : World) (h1 : (pTemps ef et).rep o w q.setup.temps [a] F1) (h2 : (pEntrys ee).rep o w q.setup.entries [b] F2) (h3 : (pBigrams eb).rep o w q.setup.bigrams [c] F3) (h4 : (pStrokes pe es).rep o w q.strokes [d] F4) (h5 : (pPoints ep).rep o w q.opn [g] F5) (h6 : (strs 9).rep o w q.words [x] F6) (hp : SsSmall q) :
 Calls Tryz.prog 13 #[.agg #[.int .i64 q.setup.band, a, .int .i64 q.setup.points, .int .i64 q.setup.most, .int .i64 q.setup.pen, b, .int .i64 q.setup.dflt, c, .int .i64 q.setup.pause, d, g, .int .i64 q.time, x]] w fun e w' => ∃ a' b' c' d' g' x' G1 G2 G3 G4 G5 G6, e = .returned (.agg #[.int .i64 q.setup.band, a', .int .i64 q.setup.points, .int .i64 q.setup.most, .int .i64 q.setup.pen, b', .int .i64 q.setup.dflt, c', .int .i64 q.setup.pause, d', g', .int .i64 q.time, x']) ∧ (pTemps 282 239).rep true w' q.setup.temps [a'] G1 ∧ (pEntrys 241).rep true w' q.setup.entries [b'] G2 ∧ (pBigrams 244).rep true w' q.setup.bigrams [c'] G3 ∧ (pStrokes 147 143).rep true w' q.strokes [d'] G4 ∧ (pPoints 147).rep true w' q.opn [g'] G5 ∧ (strs 9).rep true w' q.words [x'] G6 ∧ Fresh w.heap.size (G1 ++ (G2 ++ (G3 ++ (G4 ++ (G5 ++ G6))))) ∧ Below w.heap.size w w' := by
 obtain ⟨Aa, ka, rfl⟩ := slice_len h1
 obtain ⟨Ab, kb, rfl⟩ := slice_len h2
 obtain ⟨Ac, kc, rfl⟩ := slice_len h3
 obtain ⟨Ad, kd, rfl⟩ := slice_len h4
 obtain ⟨Ag, kg, rfl⟩ := slice_len h5
 obtain ⟨Ax, kx, rfl⟩ := slice_len h6
 have lb : ∀ x, x < w.heap.size → x ∉ [w.heap.size + 1, w.heap.size + 1 + 1] := fun x hx hin => by simp at hin; omega
 have ndh1 : ∀ x ∈ _, x ∉ [w.heap.size + 1, w.heap.size + 1 + 1] := fun x hx => lb x (h1.blocks x hx)
 have ndh2 : ∀ x ∈ _, x ∉ [w.heap.size + 1, w.heap.size + 1 + 1] := fun x hx => lb x (h2.blocks x hx)
 have ndh3 : ∀ x ∈ _, x ∉ [w.heap.size + 1, w.heap.size + 1 + 1] := fun x hx => lb x (h3.blocks x hx)
 have ndh4 : ∀ x ∈ _, x ∉ [w.heap.size + 1, w.heap.size + 1 + 1] := fun x hx => lb x (h4.blocks x hx)
 have ndh5 : ∀ x ∈ _, x ∉ [w.heap.size + 1, w.heap.size + 1 + 1] := fun x hx => lb x (h5.blocks x hx)
 have ndh6 : ∀ x ∈ _, x ∉ [w.heap.size + 1, w.heap.size + 1 + 1] := fun x hx => lb x (h6.blocks x hx)
 go_enter Tryz.func13, Tryz.ntmps13
 go_wp2_with fail
 have on1 := (Only.refl [w.heap.size + 1, w.heap.size + 1 + 1] (((w.alloc (.cells #[.int .i64 q.setup.band, .slice Aa q.setup.temps.length ka, .int .i64 q.setup.points, .int .i64 q.setup.most, .int .i64 q.setup.pen, .slice Ab q.setup.entries.length kb, .int .i64 q.setup.dflt, .slice Ac q.setup.bigrams.length kc, .int .i64 q.setup.pause, .slice Ad q.strokes.length kd, .slice Ag q.opn.length kg, .int .i64 q.time, .slice Ax q.words.length kx] 41)).alloc (.cells #[.int .i64 0, .slice none 0 0, .int .i64 0, .int .i64 0, .int .i64 0, .slice none 0 0, .int .i64 0, .slice none 0 0, .int .i64 0, .slice none 0 0, .slice none 0 0, .int .i64 0, .slice none 0 0] 67)).alloc (.cells #[.int .i64 0, .slice none 0 0, .int .i64 0, .int .i64 0, .int .i64 0, .slice none 0 0, .int .i64 0, .slice none 0 0, .int .i64 0, .slice none 0 0, .slice none 0 0, .int .i64 0, .slice none 0 0] 67)))
 replace h1 := (((h1.alloc (.cells #[.int .i64 q.setup.band, .slice Aa q.setup.temps.length ka, .int .i64 q.setup.points, .int .i64 q.setup.most, .int .i64 q.setup.pen, .slice Ab q.setup.entries.length kb, .int .i64 q.setup.dflt, .slice Ac q.setup.bigrams.length kc, .int .i64 q.setup.pause, .slice Ad q.strokes.length kd, .slice Ag q.opn.length kg, .int .i64 q.time, .slice Ax q.words.length kx] 41)).alloc (.cells #[.int .i64 0, .slice none 0 0, .int .i64 0, .int .i64 0, .int .i64 0, .slice none 0 0, .int .i64 0, .slice none 0 0, .int .i64 0, .slice none 0 0, .slice none 0 0, .int .i64 0, .slice none 0 0] 67)).alloc (.cells #[.int .i64 0, .slice none 0 0, .int .i64 0, .int .i64 0, .int .i64 0, .slice none 0 0, .int .i64 0, .slice none 0 0, .int .i64 0, .slice none 0 0, .slice none 0 0, .int .i64 0, .slice none 0 0] 67))
 replace h2 := (((h2.alloc (.cells #[.int .i64 q.setup.band, .slice Aa q.setup.temps.length ka, .int .i64 q.setup.points, .int .i64 q.setup.most, .int .i64 q.setup.pen, .slice Ab q.setup.entries.length kb, .int .i64 q.setup.dflt, .slice Ac q.setup.bigrams.length kc, .int .i64 q.setup.pause, .slice Ad q.strokes.length kd, .slice Ag q.opn.length kg, .int .i64 q.time, .slice Ax q.words.length kx] 41)).alloc (.cells #[.int .i64 0, .slice none 0 0, .int .i64 0, .int .i64 0, .int .i64 0, .slice none 0 0, .int .i64 0, .slice none 0 0, .int .i64 0, .slice none 0 0, .slice none 0 0, .int .i64 0, .slice none 0 0] 67)).alloc (.cells #[.int .i64 0, .slice none 0 0, .int .i64 0, .int .i64 0, .int .i64 0, .slice none 0 0, .int .i64 0, .slice none 0 0, .int .i64 0, .slice none 0 0, .slice none 0 0, .int .i64 0, .slice none 0 0] 67))
 replace h3 := (((h3.alloc (.cells #[.int .i64 q.setup.band, .slice Aa q.setup.temps.length ka, .int .i64 q.setup.points, .int .i64 q.setup.most, .int .i64 q.setup.pen, .slice Ab q.setup.entries.length kb, .int .i64 q.setup.dflt, .slice Ac q.setup.bigrams.length kc, .int .i64 q.setup.pause, .slice Ad q.strokes.length kd, .slice Ag q.opn.length kg, .int .i64 q.time, .slice Ax q.words.length kx] 41)).alloc (.cells #[.int .i64 0, .slice none 0 0, .int .i64 0, .int .i64 0, .int .i64 0, .slice none 0 0, .int .i64 0, .slice none 0 0, .int .i64 0, .slice none 0 0, .slice none 0 0, .int .i64 0, .slice none 0 0] 67)).alloc (.cells #[.int .i64 0, .slice none 0 0, .int .i64 0, .int .i64 0, .int .i64 0, .slice none 0 0, .int .i64 0, .slice none 0 0, .int .i64 0, .slice none 0 0, .slice none 0 0, .int .i64 0, .slice none 0 0] 67))
 replace h4 := (((h4.alloc (.cells #[.int .i64 q.setup.band, .slice Aa q.setup.temps.length ka, .int .i64 q.setup.points, .int .i64 q.setup.most, .int .i64 q.setup.pen, .slice Ab q.setup.entries.length kb, .int .i64 q.setup.dflt, .slice Ac q.setup.bigrams.length kc, .int .i64 q.setup.pause, .slice Ad q.strokes.length kd, .slice Ag q.opn.length kg, .int .i64 q.time, .slice Ax q.words.length kx] 41)).alloc (.cells #[.int .i64 0, .slice none 0 0, .int .i64 0, .int .i64 0, .int .i64 0, .slice none 0 0, .int .i64 0, .slice none 0 0, .int .i64 0, .slice none 0 0, .slice none 0 0, .int .i64 0, .slice none 0 0] 67)).alloc (.cells #[.int .i64 0, .slice none 0 0, .int .i64 0, .int .i64 0, .int .i64 0, .slice none 0 0, .int .i64 0, .slice none 0 0, .int .i64 0, .slice none 0 0, .slice none 0 0, .int .i64 0, .slice none 0 0] 67))
 replace h5 := (((h5.alloc (.cells #[.int .i64 q.setup.band, .slice Aa q.setup.temps.length ka, .int .i64 q.setup.points, .int .i64 q.setup.most, .int .i64 q.setup.pen, .slice Ab q.setup.entries.length kb, .int .i64 q.setup.dflt, .slice Ac q.setup.bigrams.length kc, .int .i64 q.setup.pause, .slice Ad q.strokes.length kd, .slice Ag q.opn.length kg, .int .i64 q.time, .slice Ax q.words.length kx] 41)).alloc (.cells #[.int .i64 0, .slice none 0 0, .int .i64 0, .int .i64 0, .int .i64 0, .slice none 0 0, .int .i64 0, .slice none 0 0, .int .i64 0, .slice none 0 0, .slice none 0 0, .int .i64 0, .slice none 0 0] 67)).alloc (.cells #[.int .i64 0, .slice none 0 0, .int .i64 0, .int .i64 0, .int .i64 0, .slice none 0 0, .int .i64 0, .slice none 0 0, .int .i64 0, .slice none 0 0, .slice none 0 0, .int .i64 0, .slice none 0 0] 67))
 replace h6 := (((h6.alloc (.cells #[.int .i64 q.setup.band, .slice Aa q.setup.temps.length ka, .int .i64 q.setup.points, .int .i64 q.setup.most, .int .i64 q.setup.pen, .slice Ab q.setup.entries.length kb, .int .i64 q.setup.dflt, .slice Ac q.setup.bigrams.length kc, .int .i64 q.setup.pause, .slice Ad q.strokes.length kd, .slice Ag q.opn.length kg, .int .i64 q.time, .slice Ax q.words.length kx] 41)).alloc (.cells #[.int .i64 0, .slice none 0 0, .int .i64 0, .int .i64 0, .int .i64 0, .slice none 0 0, .int .i64 0, .slice none 0 0, .int .i64 0, .slice none 0 0, .slice none 0 0, .int .i64 0, .slice none 0 0] 67)).alloc (.cells #[.int .i64 0, .slice none 0 0, .int .i64 0, .int .i64 0, .int .i64 0, .slice none 0 0, .int .i64 0, .slice none 0 0, .int .i64 0, .slice none 0 0, .slice none 0 0, .int .i64 0, .slice none 0 0] 67))
 have R := (((Row.new w 41 #[.int .i64 q.setup.band, .slice Aa q.setup.temps.length ka, .int .i64 q.setup.points, .int .i64 q.setup.most, .int .i64 q.setup.pen, .slice Ab q.setup.entries.length kb, .int .i64 q.setup.dflt, .slice Ac q.setup.bigrams.length kc, .int .i64 q.setup.pause, .slice Ad q.strokes.length kd, .slice Ag q.opn.length kg, .int .i64 q.time, .slice Ax q.words.length kx]).alloc (.cells #[.int .i64 0, .slice none 0 0, .int .i64 0, .int .i64 0, .int .i64 0, .slice none 0 0, .int .i64 0, .slice none 0 0, .int .i64 0, .slice none 0 0, .slice none 0 0, .int .i64 0, .slice none 0 0] 67)).alloc (.cells #[.int .i64 0, .slice none 0 0, .int .i64 0, .int .i64 0, .int .i64 0, .slice none 0 0, .int .i64 0, .slice none 0 0, .int .i64 0, .slice none 0 0, .slice none 0 0, .int .i64 0, .slice none 0 0] 67))
 have T := ((Row.new (w.alloc (.cells #[.int .i64 q.setup.band, .slice Aa q.setup.temps.length ka, .int .i64 q.setup.points, .int .i64 q.setup.most, .int .i64 q.setup.pen, .slice Ab q.setup.entries.length kb, .int .i64 q.setup.dflt, .slice Ac q.setup.bigrams.length kc, .int .i64 q.setup.pause, .slice Ad q.strokes.length kd, .slice Ag q.opn.length kg, .int .i64 q.time, .slice Ax q.words.length kx] 41)) 67 #[.int .i64 0, .slice none 0 0, .int .i64 0, .int .i64 0, .int .i64 0, .slice none 0 0, .int .i64 0, .slice none 0 0, .int .i64 0, .slice none 0 0, .slice none 0 0, .int .i64 0, .slice none 0 0]).alloc (.cells #[.int .i64 0, .slice none 0 0, .int .i64 0, .int .i64 0, .int .i64 0, .slice none 0 0, .int .i64 0, .slice none 0 0, .int .i64 0, .slice none 0 0, .slice none 0 0, .int .i64 0, .slice none 0 0] 67))
 have O := Row.new ((w.alloc (.cells #[.int .i64 q.setup.band, .slice Aa q.setup.temps.length ka, .int .i64 q.setup.points, .int .i64 q.setup.most, .int .i64 q.setup.pen, .slice Ab q.setup.entries.length kb, .int .i64 q.setup.dflt, .slice Ac q.setup.bigrams.length kc, .int .i64 q.setup.pause, .slice Ad q.strokes.length kd, .slice Ag q.opn.length kg, .int .i64 q.time, .slice Ax q.words.length kx] 41)).alloc (.cells #[.int .i64 0, .slice none 0 0, .int .i64 0, .int .i64 0, .int .i64 0, .slice none 0 0, .int .i64 0, .slice none 0 0, .int .i64 0, .slice none 0 0, .slice none 0 0, .int .i64 0, .slice none 0 0] 67)) 67 #[.int .i64 0, .slice none 0 0, .int .i64 0, .int .i64 0, .int .i64 0, .slice none 0 0, .int .i64 0, .slice none 0 0, .int .i64 0, .slice none 0 0, .slice none 0 0, .int .i64 0, .slice none 0 0]
 simp only [World.size_alloc] at T O
 have bb : Below w.heap.size w (((w.alloc (.cells #[.int .i64 q.setup.band, .slice Aa q.setup.temps.length ka, .int .i64 q.setup.points, .int .i64 q.setup.most, .int .i64 q.setup.pen, .slice Ab q.setup.entries.length kb, .int .i64 q.setup.dflt, .slice Ac q.setup.bigrams.length kc, .int .i64 q.setup.pause, .slice Ad q.strokes.length kd, .slice Ag q.opn.length kg, .int .i64 q.time, .slice Ax q.words.length kx] 41)).alloc (.cells #[.int .i64 0, .slice none 0 0, .int .i64 0, .int .i64 0, .int .i64 0, .slice none 0 0, .int .i64 0, .slice none 0 0, .int .i64 0, .slice none 0 0, .slice none 0 0, .int .i64 0, .slice none 0 0] 67)).alloc (.cells #[.int .i64 0, .slice none 0 0, .int .i64 0, .int .i64 0, .int .i64 0, .slice none 0 0, .int .i64 0, .slice none 0 0, .int .i64 0, .slice none 0 0, .slice none 0 0, .int .i64 0, .slice none 0 0] 67)) := ((((Below.refl _ _).alloc (Nat.le_refl _) _).alloc (by simp) _).alloc (by simp; omega) _)
 have bbs : w.heap.size + 1 + 1 + 1 ≤ ((((w.alloc (.cells #[.int .i64 q.setup.band, .slice Aa q.setup.temps.length ka, .int .i64 q.setup.points, .int .i64 q.setup.most, .int .i64 q.setup.pen, .slice Ab q.setup.entries.length kb, .int .i64 q.setup.dflt, .slice Ac q.setup.bigrams.length kc, .int .i64 q.setup.pause, .slice Ad q.strokes.length kd, .slice Ag q.opn.length kg, .int .i64 q.time, .slice Ax q.words.length kx] 41)).alloc (.cells #[.int .i64 0, .slice none 0 0, .int .i64 0, .int .i64 0, .int .i64 0, .slice none 0 0, .int .i64 0, .slice none 0 0, .int .i64 0, .slice none 0 0, .slice none 0 0, .int .i64 0, .slice none 0 0] 67)).alloc (.cells #[.int .i64 0, .slice none 0 0, .int .i64 0, .int .i64 0, .int .i64 0, .slice none 0 0, .int .i64 0, .slice none 0 0, .int .i64 0, .slice none 0 0, .slice none 0 0, .int .i64 0, .slice none 0 0] 67))).heap.size := by simp
 replace h1 := h1.only on1 ndh1
 replace h2 := h2.only on1 ndh2
 replace h3 := h3.only on1 ndh3
 replace h4 := h4.only on1 ndh4
 replace h5 := h5.only on1 ndh5
 replace h6 := h6.only on1 ndh6
 replace R := R.onl on1 (fun hin => by simp at hin <;> omega)
 replace bb := bb.trans (on1.below (by omega) (fun x hx => by simp at hx; omega))
 replace bbs := Nat.le_trans bbs on1.size
 refine (toSetup_c (p := q.setup) _ h1 h2 h3 hp.s).mono ?_
 rintro e w1 ⟨u1_0, u1_1, u1_2, G1_0, G1_1, G1_2, rfl, r1_0, r1_1, r1_2, f1, b1⟩
 replace h1 := h1.below b1
 replace h2 := h2.below b1
 replace h3 := h3.below b1
 replace h4 := h4.below b1
 replace h5 := h5.below b1
 replace h6 := h6.below b1
 replace R := R.later b1
 replace T := T.later b1
 replace O := O.later b1
 have bz1 := b1.size
 replace bb := bb.trans (b1.mono bb.size)
 obtain ⟨Au1_0, ku1_0, rfl⟩ := slice_len r1_0
 obtain ⟨Au1_1, ku1_1, rfl⟩ := slice_len r1_1
 obtain ⟨Au1_2, ku1_2, rfl⟩ := slice_len r1_2
 have FR := f1.mono (B' := w.heap.size) (by omega)
 have fl1 : ∀ x ∈ G1_0 ++ (G1_1 ++ (G1_2)), w.heap.size + 1 + 1 + 1 ≤ x := fun x hx => Nat.le_trans bbs (f1.2 x hx)
 have ndr1_0 : ∀ x ∈ G1_0, x ∉ [w.heap.size + 1, w.heap.size + 1 + 1] := fun x hx hin => by have := fl1 x (by simp [hx]); simp at hin; omega
 have ndr1_1 : ∀ x ∈ G1_1, x ∉ [w.heap.size + 1, w.heap.size + 1 + 1] := fun x hx hin => by have := fl1 x (by simp [hx]); simp at hin; omega
 have ndr1_2 : ∀ x ∈ G1_2, x ∉ [w.heap.size + 1, w.heap.size + 1 + 1] := fun x hx hin => by have := fl1 x (by simp [hx]); simp at hin; omega
 replace bbs := Nat.le_trans bbs bz1
 have sz1 := bbs
 have qr0 := R.c0
 have qr1 := R.c1
 have qr2 := R.c2
 have qr3 := R.c3
 have qr4 := R.c4
 have qr5 := R.c5
 have qr6 := R.cell' (i := 6) rfl
 have qr7 := R.cell' (i := 7) rfl
 have qr8 := R.cell' (i := 8) rfl
 have qr9 := R.cell' (i := 9) rfl
 have qr10 := R.cell' (i := 10) rfl
 have qr11 := R.cell' (i := 11) rfl
 have qr12 := R.cell' (i := 12) rfl
 have qo0 := O.c0
 have qo1 := O.c1
 have qo2 := O.c2
 have qo3 := O.c3
 have qo4 := O.c4
 have qo5 := O.c5
 have qo6 := O.cell' (i := 6) rfl
 have qo7 := O.cell' (i := 7) rfl
 have qo8 := O.cell' (i := 8) rfl
 have qo9 := O.cell' (i := 9) rfl
 have qo10 := O.cell' (i := 10) rfl
 have qo11 := O.cell' (i := 11) rfl
 have qo12 := O.cell' (i := 12) rfl
 have qof := O.frozen
 go_wp2_with fail
 have on2 := ((((((((((Only.refl [w.heap.size + 1, w.heap.size + 1 + 1] w1).set (p := ⟨w.heap.size + 1 + 1, 0, none⟩) (by simp) (.int .i64 q.setup.band)).set (p := ⟨w.heap.size + 1 + 1, 1, none⟩) (by simp) (.slice Au1_0 q.setup.temps.length ku1_0)).set (p := ⟨w.heap.size + 1 + 1, 2, none⟩) (by simp) (.int .i64 q.setup.points)).set (p := ⟨w.heap.size + 1 + 1, 3, none⟩) (by simp) (.int .i64 q.setup.most)).set (p := ⟨w.heap.size + 1 + 1, 4, none⟩) (by simp) (.int .i64 q.setup.pen)).set (p := ⟨w.heap.size + 1 + 1, 5, none⟩) (by simp) (.slice Au1_1 q.setup.entries.length ku1_1)).set (p := ⟨w.heap.size + 1 + 1, 6, none⟩) (by simp) (.int .i64 q.setup.dflt)).set (p := ⟨w.heap.size + 1 + 1, 7, none⟩) (by simp) (.slice Au1_2 q.setup.bigrams.length ku1_2)).set (p := ⟨w.heap.size + 1 + 1, 8, none⟩) (by simp) (.int .i64 q.setup.pause))
 replace h1 := h1.only on2 ndh1
 replace h2 := h2.only on2 ndh2
 replace h3 := h3.only on2 ndh3
 replace h4 := h4.only on2 ndh4
 replace h5 := h5.only on2 ndh5
 replace h6 := h6.only on2 ndh6
 replace r1_0 := r1_0.only on2 ndr1_0
 replace r1_1 := r1_1.only on2 ndr1_1
 replace r1_2 := r1_2.only on2 ndr1_2
 replace R := R.onl on2 (fun hin => by simp at hin <;> omega)
 replace T := T.far (p := ⟨w.heap.size + 1 + 1, 0, none⟩) (by simp) (.int .i64 q.setup.band)
 replace O := O.set 0 (.int .i64 q.setup.band)
 replace T := T.far (p := ⟨w.heap.size + 1 + 1, 1, none⟩) (by simp) (.slice Au1_0 q.setup.temps.length ku1_0)
 replace O := O.set 1 (.slice Au1_0 q.setup.temps.length ku1_0)
 replace T := T.far (p := ⟨w.heap.size + 1 + 1, 2, none⟩) (by simp) (.int .i64 q.setup.points)
 replace O := O.set 2 (.int .i64 q.setup.points)
 replace T := T.far (p := ⟨w.heap.size + 1 + 1, 3, none⟩) (by simp) (.int .i64 q.setup.most)
 replace O := O.set 3 (.int .i64 q.setup.most)
 replace T := T.far (p := ⟨w.heap.size + 1 + 1, 4, none⟩) (by simp) (.int .i64 q.setup.pen)
 replace O := O.set 4 (.int .i64 q.setup.pen)
 replace T := T.far (p := ⟨w.heap.size + 1 + 1, 5, none⟩) (by simp) (.slice Au1_1 q.setup.entries.length ku1_1)
 replace O := O.set 5 (.slice Au1_1 q.setup.entries.length ku1_1)
 replace T := T.far (p := ⟨w.heap.size + 1 + 1, 6, none⟩) (by simp) (.int .i64 q.setup.dflt)
 replace O := O.set 6 (.int .i64 q.setup.dflt)
 replace T := T.far (p := ⟨w.heap.size + 1 + 1, 7, none⟩) (by simp) (.slice Au1_2 q.setup.bigrams.length ku1_2)
 replace O := O.set 7 (.slice Au1_2 q.setup.bigrams.length ku1_2)
 replace T := T.far (p := ⟨w.heap.size + 1 + 1, 8, none⟩) (by simp) (.int .i64 q.setup.pause)
 replace O := O.set 8 (.int .i64 q.setup.pause)
 replace bb := bb.trans (on2.below (by omega) (fun x hx => by simp at hx; omega))
 replace bbs := Nat.le_trans bbs on2.size
 have hl2 : ∀ x ∈ G1_0 ++ (G1_1 ++ (G1_2)), x < _ := fun x hx => by
  repeat' (rcases List.mem_append.1 hx with hx | hx)
  all_goals first | exact r1_0.blocks x hx | exact r1_1.blocks x hx | exact r1_2.blocks x hx
 refine (toInk_c _ h4 hp.i hp.j).mono ?_
 rintro e w2 ⟨u2_0, G2_0, rfl, r2_0, f2, b2⟩
 clear qr0 qr1 qr2 qr3 qr4 qr5 qr6 qr7 qr8 qr9 qr10 qr11 qr12 qo0 qo1 qo2 qo3 qo4 qo5 qo6 qo7 qo8 qo9 qo10 qo11 qo12 qof
 replace h1 := h1.below b2
 replace h2 := h2.below b2
 replace h3 := h3.below b2
 replace h4 := h4.below b2
 replace h5 := h5.below b2
 replace h6 := h6.below b2
 replace r1_0 := r1_0.below b2
 replace r1_1 := r1_1.below b2
 replace r1_2 := r1_2.below b2
 replace R := R.later b2
 replace T := T.later b2
 replace O := O.later b2
 have bz2 := b2.size
 replace bb := bb.trans (b2.mono bb.size)
 obtain ⟨Au2_0, ku2_0, rfl⟩ := slice_len r2_0
 replace FR := fresh_join FR hl2 f2 (by omega)
 have fl2 : ∀ x ∈ G2_0, w.heap.size + 1 + 1 + 1 ≤ x := fun x hx => Nat.le_trans bbs (f2.2 x hx)
 have ndr2_0 : ∀ x ∈ G2_0, x ∉ [w.heap.size + 1, w.heap.size + 1 + 1] := fun x hx hin => by have := fl2 x (by simp [hx]); simp at hin; omega
 replace bbs := Nat.le_trans bbs bz2
 have sz2 := bbs
 have qr0 := R.c0
 have qr1 := R.c1
 have qr2 := R.c2
 have qr3 := R.c3
 have qr4 := R.c4
 have qr5 := R.c5
 have qr6 := R.cell' (i := 6) rfl
 have qr7 := R.cell' (i := 7) rfl
 have qr8 := R.cell' (i := 8) rfl
 have qr9 := R.cell' (i := 9) rfl
 have qr10 := R.cell' (i := 10) rfl
 have qr11 := R.cell' (i := 11) rfl
 have qr12 := R.cell' (i := 12) rfl
 have qo0 := O.c0
 have qo1 := O.c1
 have qo2 := O.c2
 have qo3 := O.c3
 have qo4 := O.c4
 have qo5 := O.c5
 have qo6 := O.cell' (i := 6) rfl
 have qo7 := O.cell' (i := 7) rfl
 have qo8 := O.cell' (i := 8) rfl
 have qo9 := O.cell' (i := 9) rfl
 have qo10 := O.cell' (i := 10) rfl
 have qo11 := O.cell' (i := 11) rfl
 have qo12 := O.cell' (i := 12) rfl
 have qof := O.frozen
 go_wp2_with fail
 have on3 := ((Only.refl [w.heap.size + 1, w.heap.size + 1 + 1] w2).set (p := ⟨w.heap.size + 1 + 1, 9, none⟩) (by simp) (.slice Au2_0 q.strokes.length ku2_0))
 replace h1 := h1.only on3 ndh1
 replace h2 := h2.only on3 ndh2
 replace h3 := h3.only on3 ndh3
 replace h4 := h4.only on3 ndh4
 replace h5 := h5.only on3 ndh5
 replace h6 := h6.only on3 ndh6
 replace r1_0 := r1_0.only on3 ndr1_0
 replace r1_1 := r1_1.only on3 ndr1_1
 replace r1_2 := r1_2.only on3 ndr1_2
 replace r2_0 := r2_0.only on3 ndr2_0
 replace R := R.onl on3 (fun hin => by simp at hin <;> omega)
 replace T := T.far (p := ⟨w.heap.size + 1 + 1, 9, none⟩) (by simp) (.slice Au2_0 q.strokes.length ku2_0)
 replace O := O.set 9 (.slice Au2_0 q.strokes.length ku2_0)
 replace bb := bb.trans (on3.below (by omega) (fun x hx => by simp at hx; omega))
 replace bbs := Nat.le_trans bbs on3.size
 have hl3 : ∀ x ∈ (G1_0 ++ (G1_1 ++ (G1_2))) ++ (G2_0), x < _ := fun x hx => by
  repeat' (rcases List.mem_append.1 hx with hx | hx)
  all_goals first | exact r1_0.blocks x hx | exact r1_1.blocks x hx | exact r1_2.blocks x hx | exact r2_0.blocks x hx
 refine (toPointS_c _ h5 hp.o).mono ?_
 rintro e w3 ⟨u3_0, G3_0, rfl, r3_0, f3, b3⟩
 clear qr0 qr1 qr2 qr3 qr4 qr5 qr6 qr7 qr8 qr9 qr10 qr11 qr12 qo0 qo1 qo2 qo3 qo4 qo5 qo6 qo7 qo8 qo9 qo10 qo11 qo12 qof
 replace h1 := h1.below b3
 replace h2 := h2.below b3
 replace h3 := h3.below b3
 replace h4 := h4.below b3
 replace h5 := h5.below b3
 replace h6 := h6.below b3
 replace r1_0 := r1_0.below b3
 replace r1_1 := r1_1.below b3
 replace r1_2 := r1_2.below b3
 replace r2_0 := r2_0.below b3
 replace R := R.later b3
 replace T := T.later b3
 replace O := O.later b3
 have bz3 := b3.size
 replace bb := bb.trans (b3.mono bb.size)
 obtain ⟨Au3_0, ku3_0, rfl⟩ := slice_len r3_0
 replace FR := fresh_join FR hl3 f3 (by omega)
 have fl3 : ∀ x ∈ G3_0, w.heap.size + 1 + 1 + 1 ≤ x := fun x hx => Nat.le_trans bbs (f3.2 x hx)
 have ndr3_0 : ∀ x ∈ G3_0, x ∉ [w.heap.size + 1, w.heap.size + 1 + 1] := fun x hx hin => by have := fl3 x (by simp [hx]); simp at hin; omega
 replace bbs := Nat.le_trans bbs bz3
 have sz3 := bbs
 have qr0 := R.c0
 have qr1 := R.c1
 have qr2 := R.c2
 have qr3 := R.c3
 have qr4 := R.c4
 have qr5 := R.c5
 have qr6 := R.cell' (i := 6) rfl
 have qr7 := R.cell' (i := 7) rfl
 have qr8 := R.cell' (i := 8) rfl
 have qr9 := R.cell' (i := 9) rfl
 have qr10 := R.cell' (i := 10) rfl
 have qr11 := R.cell' (i := 11) rfl
 have qr12 := R.cell' (i := 12) rfl
 have qo0 := O.c0
 have qo1 := O.c1
 have qo2 := O.c2
 have qo3 := O.c3
 have qo4 := O.c4
 have qo5 := O.c5
 have qo6 := O.cell' (i := 6) rfl
 have qo7 := O.cell' (i := 7) rfl
 have qo8 := O.cell' (i := 8) rfl
 have qo9 := O.cell' (i := 9) rfl
 have qo10 := O.cell' (i := 10) rfl
 have qo11 := O.cell' (i := 11) rfl
 have qo12 := O.cell' (i := 12) rfl
 have qof := O.frozen
 go_wp2_with fail
 have on4 := (((Only.refl [w.heap.size + 1, w.heap.size + 1 + 1] w3).set (p := ⟨w.heap.size + 1 + 1, 10, none⟩) (by simp) (.slice Au3_0 q.opn.length ku3_0)).set (p := ⟨w.heap.size + 1 + 1, 11, none⟩) (by simp) (.int .i64 q.time))
 replace h1 := h1.only on4 ndh1
 replace h2 := h2.only on4 ndh2
 replace h3 := h3.only on4 ndh3
 replace h4 := h4.only on4 ndh4
 replace h5 := h5.only on4 ndh5
 replace h6 := h6.only on4 ndh6
 replace r1_0 := r1_0.only on4 ndr1_0
 replace r1_1 := r1_1.only on4 ndr1_1
 replace r1_2 := r1_2.only on4 ndr1_2
 replace r2_0 := r2_0.only on4 ndr2_0
 replace r3_0 := r3_0.only on4 ndr3_0
 replace R := R.onl on4 (fun hin => by simp at hin <;> omega)
 replace T := T.far (p := ⟨w.heap.size + 1 + 1, 10, none⟩) (by simp) (.slice Au3_0 q.opn.length ku3_0)
 replace O := O.set 10 (.slice Au3_0 q.opn.length ku3_0)
 replace T := T.far (p := ⟨w.heap.size + 1 + 1, 11, none⟩) (by simp) (.int .i64 q.time)
 replace O := O.set 11 (.int .i64 q.time)
 replace bb := bb.trans (on4.below (by omega) (fun x hx => by simp at hx; omega))
 replace bbs := Nat.le_trans bbs on4.size
 have hl4 : ∀ x ∈ ((G1_0 ++ (G1_1 ++ (G1_2))) ++ (G2_0)) ++ (G3_0), x < _ := fun x hx => by
  repeat' (rcases List.mem_append.1 hx with hx | hx)
  all_goals first | exact r1_0.blocks x hx | exact r1_1.blocks x hx | exact r1_2.blocks x hx | exact r2_0.blocks x hx | exact r3_0.blocks x hx
 refine (toStringS_c _ h6 hp.w).mono ?_
 rintro e w4 ⟨u4_0, G4_0, rfl, r4_0, f4, b4⟩
 clear qr0 qr1 qr2 qr3 qr4 qr5 qr6 qr7 qr8 qr9 qr10 qr11 qr12 qo0 qo1 qo2 qo3 qo4 qo5 qo6 qo7 qo8 qo9 qo10 qo11 qo12 qof
 replace h1 := h1.below b4
 replace h2 := h2.below b4
 replace h3 := h3.below b4
 replace h4 := h4.below b4
 replace h5 := h5.below b4
 replace h6 := h6.below b4
 replace r1_0 := r1_0.below b4
 replace r1_1 := r1_1.below b4
 replace r1_2 := r1_2.below b4
 replace r2_0 := r2_0.below b4
 replace r3_0 := r3_0.below b4
 replace R := R.later b4
 replace T := T.later b4
 replace O := O.later b4
 have bz4 := b4.size
 replace bb := bb.trans (b4.mono bb.size)
 obtain ⟨Au4_0, ku4_0, rfl⟩ := slice_len r4_0
 replace FR := fresh_join FR hl4 f4 (by omega)
 have fl4 : ∀ x ∈ G4_0, w.heap.size + 1 + 1 + 1 ≤ x := fun x hx => Nat.le_trans bbs (f4.2 x hx)
 have ndr4_0 : ∀ x ∈ G4_0, x ∉ [w.heap.size + 1, w.heap.size + 1 + 1] := fun x hx hin => by have := fl4 x (by simp [hx]); simp at hin; omega
 replace bbs := Nat.le_trans bbs bz4
 have sz4 := bbs
 have qr0 := R.c0
 have qr1 := R.c1
 have qr2 := R.c2
 have qr3 := R.c3
 have qr4 := R.c4
 have qr5 := R.c5
 have qr6 := R.cell' (i := 6) rfl
 have qr7 := R.cell' (i := 7) rfl
 have qr8 := R.cell' (i := 8) rfl
 have qr9 := R.cell' (i := 9) rfl
 have qr10 := R.cell' (i := 10) rfl
 have qr11 := R.cell' (i := 11) rfl
 have qr12 := R.cell' (i := 12) rfl
 have qo0 := O.c0
 have qo1 := O.c1
 have qo2 := O.c2
 have qo3 := O.c3
 have qo4 := O.c4
 have qo5 := O.c5
 have qo6 := O.cell' (i := 6) rfl
 have qo7 := O.cell' (i := 7) rfl
 have qo8 := O.cell' (i := 8) rfl
 have qo9 := O.cell' (i := 9) rfl
 have qo10 := O.cell' (i := 10) rfl
 have qo11 := O.cell' (i := 11) rfl
 have qo12 := O.cell' (i := 12) rfl
 have qof := O.frozen
 have qt0 := T.c0
 have qt1 := T.c1
 have qt2 := T.c2
 have qt3 := T.c3
 have qt4 := T.c4
 have qt5 := T.c5
 have qt6 := T.cell' (i := 6) rfl
 have qt7 := T.cell' (i := 7) rfl
 have qt8 := T.cell' (i := 8) rfl
 have qt9 := T.cell' (i := 9) rfl
 have qt10 := T.cell' (i := 10) rfl
 have qt11 := T.cell' (i := 11) rfl
 have qt12 := T.cell' (i := 12) rfl
 have qtf := T.frozen
 go_wp2_with fail
 have onE := (((((((((((((((Only.refl [w.heap.size + 1, w.heap.size + 1 + 1] w4).set (p := ⟨w.heap.size + 1 + 1, 12, none⟩) (by simp) (.slice Au4_0 q.words.length ku4_0)).set (p := ⟨w.heap.size + 1, 0, none⟩) (by simp) (.int .i64 q.setup.band)).set (p := ⟨w.heap.size + 1, 1, none⟩) (by simp) (.slice Au1_0 q.setup.temps.length ku1_0)).set (p := ⟨w.heap.size + 1, 2, none⟩) (by simp) (.int .i64 q.setup.points)).set (p := ⟨w.heap.size + 1, 3, none⟩) (by simp) (.int .i64 q.setup.most)).set (p := ⟨w.heap.size + 1, 4, none⟩) (by simp) (.int .i64 q.setup.pen)).set (p := ⟨w.heap.size + 1, 5, none⟩) (by simp) (.slice Au1_1 q.setup.entries.length ku1_1)).set (p := ⟨w.heap.size + 1, 6, none⟩) (by simp) (.int .i64 q.setup.dflt)).set (p := ⟨w.heap.size + 1, 7, none⟩) (by simp) (.slice Au1_2 q.setup.bigrams.length ku1_2)).set (p := ⟨w.heap.size + 1, 8, none⟩) (by simp) (.int .i64 q.setup.pause)).set (p := ⟨w.heap.size + 1, 9, none⟩) (by simp) (.slice Au2_0 q.strokes.length ku2_0)).set (p := ⟨w.heap.size + 1, 10, none⟩) (by simp) (.slice Au3_0 q.opn.length ku3_0)).set (p := ⟨w.heap.size + 1, 11, none⟩) (by simp) (.int .i64 q.time)).set (p := ⟨w.heap.size + 1, 12, none⟩) (by simp) (.slice Au4_0 q.words.length ku4_0))
 have TF := ((((((((((((((T.far (p := ⟨w.heap.size + 1 + 1, 12, none⟩) (by simp) (.slice Au4_0 q.words.length ku4_0)).set 0 (.int .i64 q.setup.band)).set 1 (.slice Au1_0 q.setup.temps.length ku1_0)).set 2 (.int .i64 q.setup.points)).set 3 (.int .i64 q.setup.most)).set 4 (.int .i64 q.setup.pen)).set 5 (.slice Au1_1 q.setup.entries.length ku1_1)).set 6 (.int .i64 q.setup.dflt)).set 7 (.slice Au1_2 q.setup.bigrams.length ku1_2)).set 8 (.int .i64 q.setup.pause)).set 9 (.slice Au2_0 q.strokes.length ku2_0)).set 10 (.slice Au3_0 q.opn.length ku3_0)).set 11 (.int .i64 q.time)).set 12 (.slice Au4_0 q.words.length ku4_0))
 have e0 := TF.c0
 have e1 := TF.c1
 have e2 := TF.c2
 have e3 := TF.c3
 have e4 := TF.c4
 have e5 := TF.c5
 have e6 := TF.cell' (i := 6) rfl
 have e7 := TF.cell' (i := 7) rfl
 have e8 := TF.cell' (i := 8) rfl
 have e9 := TF.cell' (i := 9) rfl
 have e10 := TF.cell' (i := 10) rfl
 have e11 := TF.cell' (i := 11) rfl
 have e12 := TF.cell' (i := 12) rfl
 clear qr0 qr1 qr2 qr3 qr4 qr5 qr6 qr7 qr8 qr9 qr10 qr11 qr12 qo0 qo1 qo2 qo3 qo4 qo5 qo6 qo7 qo8 qo9 qo10 qo11 qo12 qt0 qt1 qt2 qt3 qt4 qt5 qt6 qt7 qt8 qt9 qt10 qt11 qt12 qof qtf
 replace r1_0 := r1_0.only onE ndr1_0
 replace r1_1 := r1_1.only onE ndr1_1
 replace r1_2 := r1_2.only onE ndr1_2
 replace r2_0 := r2_0.only onE ndr2_0
 replace r3_0 := r3_0.only onE ndr3_0
 replace r4_0 := r4_0.only onE ndr4_0
 have bE := bb.trans (onE.below bb.size (fun x hx => by simp at hx; omega))
 have hres : (.agg #[.int .i64 q.setup.band, .slice Au1_0 q.setup.temps.length ku1_0, .int .i64 q.setup.points, .int .i64 q.setup.most, .int .i64 q.setup.pen, .slice Au1_1 q.setup.entries.length ku1_1, .int .i64 q.setup.dflt, .slice Au1_2 q.setup.bigrams.length ku1_2, .int .i64 q.setup.pause, .slice Au2_0 q.strokes.length ku2_0, .slice Au3_0 q.opn.length ku3_0, .int .i64 q.time, .slice Au4_0 q.words.length ku4_0]) = (.agg #[.int .i64 q.setup.band, .slice Au1_0 q.setup.temps.length ku1_0, .int .i64 q.setup.points, .int .i64 q.setup.most, .int .i64 q.setup.pen, .slice Au1_1 q.setup.entries.length ku1_1, .int .i64 q.setup.dflt, .slice Au1_2 q.setup.bigrams.length ku1_2, .int .i64 q.setup.pause, .slice Au2_0 q.strokes.length ku2_0, .slice Au3_0 q.opn.length ku3_0, .int .i64 q.time, .slice Au4_0 q.words.length ku4_0] : Value) := rfl
 refine bodyPost_ret (v := .agg #[.int .i64 q.setup.band, .slice Au1_0 q.setup.temps.length ku1_0, .int .i64 q.setup.points, .int .i64 q.setup.most, .int .i64 q.setup.pen, .slice Au1_1 q.setup.entries.length ku1_1, .int .i64 q.setup.dflt, .slice Au1_2 q.setup.bigrams.length ku1_2, .int .i64 q.setup.pause, .slice Au2_0 q.strokes.length ku2_0, .slice Au3_0 q.opn.length ku3_0, .int .i64 q.time, .slice Au4_0 q.words.length ku4_0]) (by simp only [results, Tryz.results13]; go_simp) rfl ⟨_, _, _, _, _, _, G1_0, G1_1, G1_2, G2_0, G3_0, G4_0, rfl, r1_0, r1_1, r1_2, r2_0, r3_0, r4_0, ?_, bE⟩
 simpa only [List.append_assoc] using FR
end Go.Proofs.YtboijogahclekaaGreatDoor

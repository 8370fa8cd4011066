/- The law's own mark and held over stores, lexicons, models, setups, sessions. Conditions: none. -/
import Derived.Test.YtkfadfddhbpngaaGreatSeIsv
import Derived.Test.YtkfadfddhbpngaaGreatTyMkv
import Derived.Test.YtkfadfddhbpngaaGreatTyPagev
namespace Go.Proofs.YtkfadfddhbpngaaGreat
open Go Go.RowKit


set_option maxHeartbeats 400000 in
theorem markStore_s {pe e : TypeId} {n : Int} {xs : List PTemp} {v : Value} {F : List Nat} (w : World) (h : (pTemps pe e).rep true w xs [v] F) (hnd : F.Nodup) (hx : xs.length ≤ 1048576) (hxe : ∀ l ∈ xs, l.feats.length ≤ 1048576) (m : Int) (s : Nat) (hm : m = (s : Int)) (hs0 : 0 < s) (hs : s + tempsIn xs ≤ 10000000) :
 Calls Tryz.prog 58 #[.agg #[.int .i64 n, v], .int .i64 m] w fun e' w' => ∃ r : Int, e' = .returned (.int .i64 r) ∧ r = ((s + tempsIn xs : Nat) : Int) ∧ (pTemps pe e).rep true w' (markTemps xs s) [v] F ∧ Only F w w' := by
 subst hm
 have H := Lib.hid (fun w' (q : (pTemps pe e).rep true w' xs [v] F) => markTemplateS_c w' q hnd hx hxe s hs0 hs)
 obtain ⟨A, k, rfl⟩ := slice_len h
 go_enter Tryz.func58, Tryz.ntmps58
 go_wp2_with fail
 refine (H.out _ (h.alloc _)).mono ?_
 rintro e' w1 ⟨rfl, r1, o1⟩
 go_wp2_with fail
 go_ret
 exact ⟨_, rfl, by omega, r1, (Only.of_below ((Below.refl _ _).alloc (Nat.le_refl _) _)).trans o1⟩
set_option maxHeartbeats 400000 in
theorem heldStore_s {o : Bool} {pe e : TypeId} {n : Int} {xs : List PTemp} {v : Value} {F : List Nat} (w : World) (s : Nat) (h : (pTemps pe e).rep o w (markTemps xs s) [v] F) (hx : xs.length ≤ 1048576) (hxe : ∀ l ∈ xs, l.feats.length ≤ 1048576) (m : Int) (hm : m = (s : Int)) (hs0 : 0 < s) (hs : s + tempsIn xs ≤ 10000000) :
 Calls Tryz.prog 134 #[.agg #[.int .i64 n, v], .int .i64 m] w fun e' w' => ∃ r : Int, e' = .returned (.int .i64 r) ∧ r = ((s + tempsIn xs : Nat) : Int) ∧ Below w.heap.size w w' := by
 subst hm
 have H := Lib.hid (fun w' (q : (pTemps pe e).rep o w' (markTemps xs s) [v] F) => heldTemplateS_c w' s q hx hxe hs0 hs)
 obtain ⟨A, k, rfl⟩ := slice_len h
 generalize (markTemps xs s).length = l at *
 go_enter Tryz.func134, Tryz.ntmps134
 go_wp2_with fail
 refine (H.out _ (h.alloc _)).mono ?_
 rintro e' w1 ⟨rfl, b1⟩
 have bb : Below w.heap.size w w1 := ((Below.refl _ _).alloc (Nat.le_refl _) _).trans (b1.mono (by simp))
 have n1 : ¬ (((s + tempsIn xs : Nat) : Int)) < 0 := by omega
 go_wp2_with fail
 go_ret
 exact ⟨_, rfl, by omega, bb⟩
set_option maxHeartbeats 400000 in
theorem markLexicon_s {e : TypeId} {xs : List PEntry} {v : Value} {F : List Nat} (w : World) (h : (pEntrys e).rep true w xs [v] F) (hx : xs.length ≤ 1048576) (m : Int) (s : Nat) (hm : m = (s : Int)) (hs0 : 0 < s) (hs : s + xs.length * 2 ≤ 10000000) :
 Calls Tryz.prog 59 #[.agg #[v], .int .i64 m] w fun e' w' => ∃ r : Int, e' = .returned (.int .i64 r) ∧ r = ((s + xs.length * 2 : Nat) : Int) ∧ (pEntrys e).rep true w' (markPEntry xs.length s) [v] F ∧ Only F w w' := by
 subst hm
 have H := Lib.hid (fun w' (q : (pEntrys e).rep true w' xs [v] F) => markEntryS_c w' q hx s hs0 (by omega))
 obtain ⟨A, k, rfl⟩ := slice_len h
 go_enter Tryz.func59, Tryz.ntmps59
 go_wp2_with fail
 refine (H.out _ (h.alloc _)).mono ?_
 rintro e' w1 ⟨rfl, r1, o1⟩
 go_wp2_with fail
 go_ret
 exact ⟨_, rfl, by omega, r1, (Only.of_below ((Below.refl _ _).alloc (Nat.le_refl _) _)).trans o1⟩
set_option maxHeartbeats 400000 in
theorem heldLexicon_s {o : Bool} {e : TypeId} {xs : List PEntry} {v : Value} {F : List Nat} (w : World) (s : Nat) (h : (pEntrys e).rep o w (markPEntry xs.length s) [v] F) (hx : xs.length ≤ 1048576) (m : Int) (hm : m = (s : Int)) (hs0 : 0 < s) (hs : s + xs.length * 2 ≤ 10000000) :
 Calls Tryz.prog 135 #[.agg #[v], .int .i64 m] w fun e' w' => ∃ r : Int, e' = .returned (.int .i64 r) ∧ r = ((s + xs.length * 2 : Nat) : Int) ∧ Below w.heap.size w w' := by
 subst hm
 have H := Lib.hid (fun w' (q : (pEntrys e).rep o w' (markPEntry xs.length s) [v] F) => heldEntryS_c w' s q hx hs0 (by omega))
 obtain ⟨A, k, rfl⟩ := slice_len h
 generalize (markPEntry xs.length s).length = l at *
 go_enter Tryz.func135, Tryz.ntmps135
 go_wp2_with fail
 refine (H.out _ (h.alloc _)).mono ?_
 rintro e' w1 ⟨rfl, b1⟩
 have bb : Below w.heap.size w w1 := ((Below.refl _ _).alloc (Nat.le_refl _) _).trans (b1.mono (by simp))
 have n1 : ¬ ((s : Int) + (xs.length : Int) * 2) < 0 := by omega
 go_wp2_with fail
 go_ret
 exact ⟨_, rfl, by omega, bb⟩
set_option maxHeartbeats 400000 in
theorem markModel_s {e : TypeId} {n : Int} {xs : List PBigram} {v : Value} {F : List Nat} (w : World) (h : (pBigrams e).rep true w xs [v] F) (hx : xs.length ≤ 1048576) (m : Int) (s : Nat) (hm : m = (s : Int)) (hs0 : 0 < s) (hs : s + xs.length * 3 ≤ 10000000) :
 Calls Tryz.prog 60 #[.agg #[.int .i64 n, v], .int .i64 m] w fun e' w' => ∃ r : Int, e' = .returned (.int .i64 r) ∧ r = ((s + xs.length * 3 : Nat) : Int) ∧ (pBigrams e).rep true w' (markPBigram xs.length s) [v] F ∧ Only F w w' := by
 subst hm
 have H := Lib.hid (fun w' (q : (pBigrams e).rep true w' xs [v] F) => markBigramS_c w' q hx s hs0 (by omega))
 obtain ⟨A, k, rfl⟩ := slice_len h
 go_enter Tryz.func60, Tryz.ntmps60
 go_wp2_with fail
 refine (H.out _ (h.alloc _)).mono ?_
 rintro e' w1 ⟨rfl, r1, o1⟩
 go_wp2_with fail
 go_ret
 exact ⟨_, rfl, by omega, r1, (Only.of_below ((Below.refl _ _).alloc (Nat.le_refl _) _)).trans o1⟩
set_option maxHeartbeats 400000 in
theorem heldModel_s {o : Bool} {e : TypeId} {n : Int} {xs : List PBigram} {v : Value} {F : List Nat} (w : World) (s : Nat) (h : (pBigrams e).rep o w (markPBigram xs.length s) [v] F) (hx : xs.length ≤ 1048576) (m : Int) (hm : m = (s : Int)) (hs0 : 0 < s) (hs : s + xs.length * 3 ≤ 10000000) :
 Calls Tryz.prog 136 #[.agg #[.int .i64 n, v], .int .i64 m] w fun e' w' => ∃ r : Int, e' = .returned (.int .i64 r) ∧ r = ((s + xs.length * 3 : Nat) : Int) ∧ Below w.heap.size w w' := by
 subst hm
 have H := Lib.hid (fun w' (q : (pBigrams e).rep o w' (markPBigram xs.length s) [v] F) => heldBigramS_c w' s q hx hs0 (by omega))
 obtain ⟨A, k, rfl⟩ := slice_len h
 generalize (markPBigram xs.length s).length = l at *
 go_enter Tryz.func136, Tryz.ntmps136
 go_wp2_with fail
 refine (H.out _ (h.alloc _)).mono ?_
 rintro e' w1 ⟨rfl, b1⟩
 have bb : Below w.heap.size w w1 := ((Below.refl _ _).alloc (Nat.le_refl _) _).trans (b1.mono (by simp))
 have n1 : ¬ ((s : Int) + (xs.length : Int) * 3) < 0 := by omega
 go_wp2_with fail
 go_ret
 exact ⟨_, rfl, by omega, bb⟩
theorem markInk_s {pe e : TypeId} {xs : List PStroke} {v : Value} {F : List Nat} (w : World) (h : (pStrokes pe e).rep true w xs [v] F) (hnd : F.Nodup) (hx : xs.length ≤ 1048576) (hxe : ∀ l ∈ xs, l.length ≤ 1048576) (m : Int) (s : Nat) (hm : m = (s : Int)) (hs0 : 0 < s) (hs : s + pointsIn xs ≤ 10000000) :
 Calls Tryz.prog 61 #[.agg #[v], .int .i64 m] w fun e' w' => ∃ r : Int, e' = .returned (.int .i64 r) ∧ r = ((s + pointsIn xs : Nat) : Int) ∧ (pStrokes pe e).rep true w' (markStrokes xs s) [v] F ∧ Only F w w' := by
 subst hm
 exact (markInk_c w h hnd hx hxe s hs0 hs).mono fun _ _ ⟨x1, x2, x3⟩ => ⟨_, x1, rfl, x2, x3⟩
theorem markPointS_s {e : TypeId} {xs : List PPoint} {v : Value} {F : List Nat} (w : World) (h : (pPoints e).rep true w xs [v] F) (hx : xs.length ≤ 1048576) (m : Int) (s : Nat) (hm : m = (s : Int)) (hs0 : 0 < s) (hs : s + xs.length * 3 ≤ 10000000) :
 Calls Tryz.prog 62 #[v, .int .i64 m] w fun e' w' => ∃ r : Int, e' = .returned (.int .i64 r) ∧ r = ((s + xs.length * 3 : Nat) : Int) ∧ (pPoints e).rep true w' (markPPoint xs.length s) [v] F ∧ Only F w w' := by
 subst hm
 exact (markPointS_c w h hx s hs0 (by omega)).mono fun _ _ ⟨x1, x2, x3⟩ => ⟨_, x1, by omega, x2, x3⟩
theorem markStringS_s {e : TypeId} {xs : List ByteArray} {v : Value} {F : List Nat} (w : World) (h : (strs e).rep true w xs [v] F) (hx : xs.length ≤ 1048576) (m : Int) (s : Nat) (hm : m = (s : Int)) (hs0 : 0 < s) (hs : s + xs.length ≤ 10000000) :
 Calls Tryz.prog 63 #[v, .int .i64 m] w fun e' w' => ∃ r : Int, e' = .returned (.int .i64 r) ∧ r = ((s + xs.length : Nat) : Int) ∧ (strs e).rep true w' (markS xs.length s) [v] F ∧ Only F w w' := by
 subst hm
 exact (markStringS_c w h hx s hs0 (by omega)).mono fun _ _ ⟨x1, x2, x3⟩ => ⟨_, x1, by omega, x2, x3⟩
set_option maxHeartbeats 400000 in
theorem heldInk_s {o : Bool} {pe e : TypeId} {xs : List PStroke} {v : Value} {F : List Nat} (w : World) (s : Nat) (h : (pStrokes pe e).rep o w (markStrokes xs s) [v] F) (hx : xs.length ≤ 1048576) (hxe : ∀ l ∈ xs, l.length ≤ 1048576) (m : Int) (hm : m = (s : Int)) (hs0 : 0 < s) (hs : s + pointsIn xs ≤ 10000000) :
 Calls Tryz.prog 65 #[.agg #[v], .int .i64 m] w fun e' w' => ∃ r : Int, e' = .returned (.int .i64 r) ∧ r = ((s + pointsIn xs : Nat) : Int) ∧ Below w.heap.size w w' := by
 subst hm
 have H := Lib.hid (fun w' (q : (pStrokes pe e).rep o w' (markStrokes xs s) [v] F) => heldStrokeS_c w' s q hx hxe hs0 hs)
 obtain ⟨A, k, rfl⟩ := slice_len h
 generalize (markStrokes xs s).length = l at *
 go_enter Tryz.func65, Tryz.ntmps65
 go_wp2_with fail
 refine (H.out _ (h.alloc _)).mono ?_
 rintro e' w1 ⟨rfl, b1⟩
 have bb : Below w.heap.size w w1 := ((Below.refl _ _).alloc (Nat.le_refl _) _).trans (b1.mono (by simp))
 have n1 : ¬ ((s + pointsIn xs : Nat) : Int) < 0 := by omega
 go_wp2_with fail
 go_ret
 exact ⟨_, rfl, rfl, bb⟩
theorem heldPointS_s {o : Bool} {e : TypeId} {xs : List PPoint} {v : Value} {F : List Nat} (w : World) (s : Nat) (h : (pPoints e).rep o w (markPPoint xs.length s) [v] F) (hx : xs.length ≤ 1048576) (m : Int) (hm : m = (s : Int)) (hs0 : 0 < s) (hs : s + xs.length * 3 ≤ 10000000) :
 Calls Tryz.prog 66 #[v, .int .i64 m] w fun e' w' => ∃ r : Int, e' = .returned (.int .i64 r) ∧ r = ((s + xs.length * 3 : Nat) : Int) ∧ Below w.heap.size w w' := by
 subst hm
 exact (heldPointS_c w s h hx hs0 (by omega)).mono fun _ _ ⟨x1, x2⟩ => ⟨_, x1, by omega, x2⟩
theorem heldStringS_s {o : Bool} {e : TypeId} {xs : List ByteArray} {v : Value} {F : List Nat} (w : World) (s : Nat) (h : (strs e).rep o w (markS xs.length s) [v] F) (hx : xs.length ≤ 1048576) (m : Int) (hm : m = (s : Int)) (hs0 : 0 < s) (hs : s + xs.length ≤ 10000000) :
 Calls Tryz.prog 67 #[v, .int .i64 m] w fun e' w' => ∃ r : Int, e' = .returned (.int .i64 r) ∧ r = ((s + xs.length : Nat) : Int) ∧ Below w.heap.size w w' := by
 subst hm
 exact (heldStringS_c w s h hx hs0 (by omega)).mono fun _ _ ⟨x1, x2⟩ => ⟨_, x1, by omega, x2⟩
/-- Marks in place of what a Setup holds. -/
def markSetup (p : PSetup) (s : Nat) : PSetup := { p with temps := markTemps p.temps s, entries := markPEntry p.entries.length (s + tempsIn p.temps), bigrams := markPBigram p.bigrams.length (s + tempsIn p.temps + p.entries.length * 2) }
/-- How many marks it takes. -/
def marksSetup (p : PSetup) : Nat := tempsIn p.temps + p.entries.length * 2 + p.bigrams.length * 3
set_option maxRecDepth 100000 in
set_option maxHeartbeats 4000000 in
theorem markSetup_s {bg en ft tm : TypeId} {p : PSetup} {a0 a1 a2 : Value} {F0 F1 F2 : List Nat} (w : World) (h0 : (pTemps ft tm).rep true w p.temps [a0] F0) (h1 : (pEntrys en).rep true w p.entries [a1] F1) (h2 : (pBigrams bg).rep true w p.bigrams [a2] F2) (hnd : (F0 ++ (F1 ++ F2)).Nodup) (hp : SeSmall p) (n : Int) (s : Nat) (hn : n = (s : Int)) (hs0 : 0 < s) (hs : s + marksSetup p ≤ 10000000) :
 Calls Tryz.prog 22 #[.agg #[.int .i64 p.band, a0, .int .i64 p.points, .int .i64 p.most, .int .i64 p.pen, a1, .int .i64 p.dflt, a2, .int .i64 p.pause], .int .i64 n] w fun e w' => ∃ r : Int, e = .returned (.int .i64 r) ∧ r = ((s + marksSetup p : Nat) : Int) ∧ (pTemps ft tm).rep true w' (markTemps p.temps s) [a0] F0 ∧ (pEntrys en).rep true w' (markPEntry p.entries.length (s + tempsIn p.temps)) [a1] F1 ∧ (pBigrams bg).rep true w' (markPBigram p.bigrams.length (s + tempsIn p.temps + p.entries.length * 2)) [a2] F2 ∧ Only (F0 ++ (F1 ++ F2)) w w' := by
 unfold marksSetup at *
 have N0 := hnd
 have M0 := List.nodup_append.1 N0
 have N1 := M0.2.1
 have M1 := List.nodup_append.1 N1
 have N2 := M1.2.1
 have d0_1 : ∀ x ∈ F0, x ∉ F1 := fun x hx hx2 => M0.2.2 x hx x (by simp [hx2]) rfl
 have d1_0 : ∀ x ∈ F1, x ∉ F0 := fun x hx hx2 => M0.2.2 x hx2 x (by simp [hx]) rfl
 have d0_2 : ∀ x ∈ F0, x ∉ F2 := fun x hx hx2 => M0.2.2 x hx x (by simp [hx2]) rfl
 have d2_0 : ∀ x ∈ F2, x ∉ F0 := fun x hx hx2 => M0.2.2 x hx2 x (by simp [hx]) rfl
 have d1_2 : ∀ x ∈ F1, x ∉ F2 := fun x hx hx2 => M1.2.2 x hx x (by simp [hx2]) rfl
 have d2_1 : ∀ x ∈ F2, x ∉ F1 := fun x hx hx2 => M1.2.2 x hx2 x (by simp [hx]) rfl
 have nd0 : F0.Nodup := M0.1
 have nd1 : F1.Nodup := M1.1
 have nd2 : F2.Nodup := N2
 have o0 : w.heap.size ∉ F0 := fun hx => by have := h0.blocks _ hx; omega
 have o1 : w.heap.size ∉ F1 := fun hx => by have := h1.blocks _ hx; omega
 have o2 : w.heap.size ∉ F2 := fun hx => by have := h2.blocks _ hx; omega
 clear M0 M1 N0 N1 N2
 obtain ⟨A0, Ak0, rfl⟩ := slice_len h0
 obtain ⟨A1, Ak1, rfl⟩ := slice_len h1
 obtain ⟨A2, Ak2, rfl⟩ := slice_len h2
 have R := Row.new w 61 #[.int .i64 p.band, .slice A0 p.temps.length Ak0, .int .i64 p.points, .int .i64 p.most, .int .i64 p.pen, .slice A1 p.entries.length Ak1, .int .i64 p.dflt, .slice A2 p.bigrams.length Ak2, .int .i64 p.pause]
 replace h0 := h0.alloc (.cells #[.int .i64 p.band, .slice A0 p.temps.length Ak0, .int .i64 p.points, .int .i64 p.most, .int .i64 p.pen, .slice A1 p.entries.length Ak1, .int .i64 p.dflt, .slice A2 p.bigrams.length Ak2, .int .i64 p.pause] 61)
 replace h1 := h1.alloc (.cells #[.int .i64 p.band, .slice A0 p.temps.length Ak0, .int .i64 p.points, .int .i64 p.most, .int .i64 p.pen, .slice A1 p.entries.length Ak1, .int .i64 p.dflt, .slice A2 p.bigrams.length Ak2, .int .i64 p.pause] 61)
 replace h2 := h2.alloc (.cells #[.int .i64 p.band, .slice A0 p.temps.length Ak0, .int .i64 p.points, .int .i64 p.most, .int .i64 p.pen, .slice A1 p.entries.length Ak1, .int .i64 p.dflt, .slice A2 p.bigrams.length Ak2, .int .i64 p.pause] 61)
 have bb : Only (F0 ++ (F1 ++ F2)) w (w.alloc (.cells #[.int .i64 p.band, .slice A0 p.temps.length Ak0, .int .i64 p.points, .int .i64 p.most, .int .i64 p.pen, .slice A1 p.entries.length Ak1, .int .i64 p.dflt, .slice A2 p.bigrams.length Ak2, .int .i64 p.pause] 61)) := Only.of_below ((Below.refl _ _).alloc (Nat.le_refl _) _)
 subst hn
 go_enter Tryz.func22, Tryz.ntmps22
 go_wp2_with fail
 refine (markStore_s (n := p.band) _ h0 nd0 hp.t hp.f _ (s) rfl (by omega) (by omega)).mono ?_
 rintro e w0 ⟨m0, rfl, e0, r0, q0⟩
 have E0 := Lib.hid e0
 clear e0
 replace R := R.onl q0 (o0)
 replace h1 := h1.only q0 (d1_0)
 replace h2 := h2.only q0 (d2_0)
 clear h0
 have h0 := r0
 replace bb := bb.trans (q0.mono (by intro x hx; simp [hx]))
 have c0 := R.cell' (i := 0) rfl
 have c1 := R.cell' (i := 1) rfl
 have c2 := R.cell' (i := 2) rfl
 have c3 := R.cell' (i := 3) rfl
 have c4 := R.cell' (i := 4) rfl
 have c5 := R.cell' (i := 5) rfl
 have c6 := R.cell' (i := 6) rfl
 have c7 := R.cell' (i := 7) rfl
 have c8 := R.cell' (i := 8) rfl
 go_wp2_with fail
 refine (markLexicon_s _ h1 hp.e _ (s + tempsIn p.temps) E0.out (by omega) (by omega)).mono ?_
 rintro e w1 ⟨m1, rfl, e1, r1, q1⟩
 have E1 := Lib.hid e1
 clear e1
 clear c0 c1 c2 c3 c4 c5 c6 c7 c8
 replace R := R.onl q1 (o1)
 replace h0 := h0.only q1 (d0_1)
 replace h2 := h2.only q1 (d2_1)
 clear h1
 have h1 := r1
 replace bb := bb.trans (q1.mono (by intro x hx; simp [hx]))
 have c0 := R.cell' (i := 0) rfl
 have c1 := R.cell' (i := 1) rfl
 have c2 := R.cell' (i := 2) rfl
 have c3 := R.cell' (i := 3) rfl
 have c4 := R.cell' (i := 4) rfl
 have c5 := R.cell' (i := 5) rfl
 have c6 := R.cell' (i := 6) rfl
 have c7 := R.cell' (i := 7) rfl
 have c8 := R.cell' (i := 8) rfl
 go_wp2_with fail
 refine (markModel_s (n := p.dflt) _ h2 hp.b _ (s + tempsIn p.temps + p.entries.length * 2) E1.out (by omega) (by omega)).mono ?_
 rintro e w2 ⟨m2, rfl, e2, r2, q2⟩
 have E2 := Lib.hid e2
 clear e2
 clear c0 c1 c2 c3 c4 c5 c6 c7 c8
 replace R := R.onl q2 (o2)
 replace h0 := h0.only q2 (d0_2)
 replace h1 := h1.only q2 (d1_2)
 clear h2
 have h2 := r2
 replace bb := bb.trans (q2.mono (by intro x hx; simp [hx]))
 go_wp2_with fail
 go_ret
 exact ⟨m2, rfl, by have := E2.out; omega, h0, h1, h2, bb⟩
set_option maxRecDepth 100000 in
set_option maxHeartbeats 4000000 in
theorem heldSetup_s {o : Bool} {bg en ft tm : TypeId} {p : PSetup} {a0 a1 a2 : Value} {F0 F1 F2 : List Nat} (w : World) (s : Nat) (h0 : (pTemps ft tm).rep o w (markTemps p.temps s) [a0] F0) (h1 : (pEntrys en).rep o w (markPEntry p.entries.length (s + tempsIn p.temps)) [a1] F1) (h2 : (pBigrams bg).rep o w (markPBigram p.bigrams.length (s + tempsIn p.temps + p.entries.length * 2)) [a2] F2) (hp : SeSmall p) (n : Int) (hn : n = (s : Int)) (hs0 : 0 < s) (hs : s + marksSetup p ≤ 10000000) :
 Calls Tryz.prog 64 #[.agg #[.int .i64 p.band, a0, .int .i64 p.points, .int .i64 p.most, .int .i64 p.pen, a1, .int .i64 p.dflt, a2, .int .i64 p.pause], .int .i64 n] w fun e w' => ∃ r : Int, e = .returned (.int .i64 r) ∧ r = ((s + marksSetup p : Nat) : Int) ∧ Below w.heap.size w w' := by
 unfold marksSetup at *
 obtain ⟨A0, Ak0, rfl⟩ := slice_len h0
 obtain ⟨A1, Ak1, rfl⟩ := slice_len h1
 obtain ⟨A2, Ak2, rfl⟩ := slice_len h2
 generalize hl0 : (markTemps p.temps s).length = l0 at *
 generalize hl1 : (markPEntry p.entries.length (s + tempsIn p.temps)).length = l1 at *
 generalize hl2 : (markPBigram p.bigrams.length (s + tempsIn p.temps + p.entries.length * 2)).length = l2 at *
 have R := Row.new w 61 #[.int .i64 p.band, .slice A0 l0 Ak0, .int .i64 p.points, .int .i64 p.most, .int .i64 p.pen, .slice A1 l1 Ak1, .int .i64 p.dflt, .slice A2 l2 Ak2, .int .i64 p.pause]
 replace h0 := h0.alloc (.cells #[.int .i64 p.band, .slice A0 l0 Ak0, .int .i64 p.points, .int .i64 p.most, .int .i64 p.pen, .slice A1 l1 Ak1, .int .i64 p.dflt, .slice A2 l2 Ak2, .int .i64 p.pause] 61)
 replace h1 := h1.alloc (.cells #[.int .i64 p.band, .slice A0 l0 Ak0, .int .i64 p.points, .int .i64 p.most, .int .i64 p.pen, .slice A1 l1 Ak1, .int .i64 p.dflt, .slice A2 l2 Ak2, .int .i64 p.pause] 61)
 replace h2 := h2.alloc (.cells #[.int .i64 p.band, .slice A0 l0 Ak0, .int .i64 p.points, .int .i64 p.most, .int .i64 p.pen, .slice A1 l1 Ak1, .int .i64 p.dflt, .slice A2 l2 Ak2, .int .i64 p.pause] 61)
 have bb : Below w.heap.size w (w.alloc (.cells #[.int .i64 p.band, .slice A0 l0 Ak0, .int .i64 p.points, .int .i64 p.most, .int .i64 p.pen, .slice A1 l1 Ak1, .int .i64 p.dflt, .slice A2 l2 Ak2, .int .i64 p.pause] 61)) := (Below.refl _ _).alloc (Nat.le_refl _) _
 subst hn
 clear hl0 hl1 hl2
 go_enter Tryz.func64, Tryz.ntmps64
 go_wp2_with fail
 refine (heldStore_s (n := p.band) (xs := p.temps) _ (s) h0 hp.t hp.f _ rfl (by omega) (by omega)).mono ?_
 rintro e w0 ⟨m0, rfl, e0, b0⟩
 replace R := R.later b0
 replace h0 := h0.below b0
 replace h1 := h1.below b0
 replace h2 := h2.below b0
 replace bb := bt bb b0
 have n0 : ¬ m0 < 0 := by omega
 have E0 := Lib.hid e0
 clear e0
 have c0 := R.cell' (i := 0) rfl
 have c1 := R.cell' (i := 1) rfl
 have c2 := R.cell' (i := 2) rfl
 have c3 := R.cell' (i := 3) rfl
 have c4 := R.cell' (i := 4) rfl
 have c5 := R.cell' (i := 5) rfl
 have c6 := R.cell' (i := 6) rfl
 have c7 := R.cell' (i := 7) rfl
 have c8 := R.cell' (i := 8) rfl
 go_wp2_with fail
 refine (heldLexicon_s (xs := p.entries) _ (s + tempsIn p.temps) h1 hp.e _ E0.out (by omega) (by omega)).mono ?_
 rintro e w1 ⟨m1, rfl, e1, b1⟩
 clear c0 c1 c2 c3 c4 c5 c6 c7 c8
 replace R := R.later b1
 replace h0 := h0.below b1
 replace h1 := h1.below b1
 replace h2 := h2.below b1
 replace bb := bt bb b1
 have n1 : ¬ m1 < 0 := by omega
 have E1 := Lib.hid e1
 clear e1
 have c0 := R.cell' (i := 0) rfl
 have c1 := R.cell' (i := 1) rfl
 have c2 := R.cell' (i := 2) rfl
 have c3 := R.cell' (i := 3) rfl
 have c4 := R.cell' (i := 4) rfl
 have c5 := R.cell' (i := 5) rfl
 have c6 := R.cell' (i := 6) rfl
 have c7 := R.cell' (i := 7) rfl
 have c8 := R.cell' (i := 8) rfl
 go_wp2_with fail
 refine (heldModel_s (n := p.dflt) (xs := p.bigrams) _ (s + tempsIn p.temps + p.entries.length * 2) h2 hp.b _ E1.out (by omega) (by omega)).mono ?_
 rintro e w2 ⟨m2, rfl, e2, b2⟩
 clear c0 c1 c2 c3 c4 c5 c6 c7 c8
 replace R := R.later b2
 replace h0 := h0.below b2
 replace h1 := h1.below b2
 replace h2 := h2.below b2
 replace bb := bt bb b2
 have n2 : ¬ m2 < 0 := by omega
 have E2 := Lib.hid e2
 clear e2
 go_wp2_with fail
 go_ret
 exact ⟨m2, rfl, by have := E2.out; omega, bb⟩
/-- Marks in place of what a Session holds. -/
def markSession (q : PSess) (s : Nat) : PSess := { q with setup := markSetup q.setup s, strokes := markStrokes q.strokes (s + marksSetup q.setup), opn := markPPoint q.opn.length (s + marksSetup q.setup + pointsIn q.strokes), words := markS q.words.length (s + marksSetup q.setup + pointsIn q.strokes + q.opn.length * 3) }
/-- How many marks it takes. -/
def marksSession (q : PSess) : Nat := marksSetup q.setup + pointsIn q.strokes + q.opn.length * 3 + q.words.length
set_option maxRecDepth 100000 in
set_option maxHeartbeats 4000000 in
theorem markSession_s {bg en ft op pt st tm : TypeId} {q : PSess} {a0 a1 a2 a3 a4 a5 : Value} {F0 F1 F2 F3 F4 F5 : List Nat} (w : World) (h0 : (pTemps ft tm).rep true w q.setup.temps [a0] F0) (h1 : (pEntrys en).rep true w q.setup.entries [a1] F1) (h2 : (pBigrams bg).rep true w q.setup.bigrams [a2] F2) (h3 : (pStrokes pt st).rep true w q.strokes [a3] F3) (h4 : (pPoints op).rep true w q.opn [a4] F4) (h5 : (strs 9).rep true w q.words [a5] F5) (hnd : (F0 ++ (F1 ++ (F2 ++ (F3 ++ (F4 ++ F5))))).Nodup) (hp : SsSmall q) (n : Int) (s : Nat) (hn : n = (s : Int)) (hs0 : 0 < s) (hs : s + marksSession q ≤ 10000000) :
 Calls Tryz.prog 23 #[.agg #[.int .i64 q.setup.band, a0, .int .i64 q.setup.points, .int .i64 q.setup.most, .int .i64 q.setup.pen, a1, .int .i64 q.setup.dflt, a2, .int .i64 q.setup.pause, a3, a4, .int .i64 q.time, a5], .int .i64 n] w fun e w' => ∃ r : Int, e = .returned (.int .i64 r) ∧ r = ((s + marksSession q : Nat) : Int) ∧ (pTemps ft tm).rep true w' (markTemps q.setup.temps s) [a0] F0 ∧ (pEntrys en).rep true w' (markPEntry q.setup.entries.length (s + tempsIn q.setup.temps)) [a1] F1 ∧ (pBigrams bg).rep true w' (markPBigram q.setup.bigrams.length (s + tempsIn q.setup.temps + q.setup.entries.length * 2)) [a2] F2 ∧ (pStrokes pt st).rep true w' (markStrokes q.strokes (s + marksSetup q.setup)) [a3] F3 ∧ (pPoints op).rep true w' (markPPoint q.opn.length (s + marksSetup q.setup + pointsIn q.strokes)) [a4] F4 ∧ (strs 9).rep true w' (markS q.words.length (s + marksSetup q.setup + pointsIn q.strokes + q.opn.length * 3)) [a5] F5 ∧ Only (F0 ++ (F1 ++ (F2 ++ (F3 ++ (F4 ++ F5))))) w w' := by
 unfold marksSession at *
 have N0 := hnd
 have M0 := List.nodup_append.1 N0
 have N1 := M0.2.1
 have M1 := List.nodup_append.1 N1
 have N2 := M1.2.1
 have M2 := List.nodup_append.1 N2
 have N3 := M2.2.1
 have M3 := List.nodup_append.1 N3
 have N4 := M3.2.1
 have M4 := List.nodup_append.1 N4
 have N5 := M4.2.1
 have d0_1 : ∀ x ∈ F0, x ∉ F1 := fun x hx hx2 => M0.2.2 x hx x (by simp [hx2]) rfl
 have d1_0 : ∀ x ∈ F1, x ∉ F0 := fun x hx hx2 => M0.2.2 x hx2 x (by simp [hx]) rfl
 have d0_2 : ∀ x ∈ F0, x ∉ F2 := fun x hx hx2 => M0.2.2 x hx x (by simp [hx2]) rfl
 have d2_0 : ∀ x ∈ F2, x ∉ F0 := fun x hx hx2 => M0.2.2 x hx2 x (by simp [hx]) rfl
 have d0_3 : ∀ x ∈ F0, x ∉ F3 := fun x hx hx2 => M0.2.2 x hx x (by simp [hx2]) rfl
 have d3_0 : ∀ x ∈ F3, x ∉ F0 := fun x hx hx2 => M0.2.2 x hx2 x (by simp [hx]) rfl
 have d0_4 : ∀ x ∈ F0, x ∉ F4 := fun x hx hx2 => M0.2.2 x hx x (by simp [hx2]) rfl
 have d4_0 : ∀ x ∈ F4, x ∉ F0 := fun x hx hx2 => M0.2.2 x hx2 x (by simp [hx]) rfl
 have d0_5 : ∀ x ∈ F0, x ∉ F5 := fun x hx hx2 => M0.2.2 x hx x (by simp [hx2]) rfl
 have d5_0 : ∀ x ∈ F5, x ∉ F0 := fun x hx hx2 => M0.2.2 x hx2 x (by simp [hx]) rfl
 have d1_2 : ∀ x ∈ F1, x ∉ F2 := fun x hx hx2 => M1.2.2 x hx x (by simp [hx2]) rfl
 have d2_1 : ∀ x ∈ F2, x ∉ F1 := fun x hx hx2 => M1.2.2 x hx2 x (by simp [hx]) rfl
 have d1_3 : ∀ x ∈ F1, x ∉ F3 := fun x hx hx2 => M1.2.2 x hx x (by simp [hx2]) rfl
 have d3_1 : ∀ x ∈ F3, x ∉ F1 := fun x hx hx2 => M1.2.2 x hx2 x (by simp [hx]) rfl
 have d1_4 : ∀ x ∈ F1, x ∉ F4 := fun x hx hx2 => M1.2.2 x hx x (by simp [hx2]) rfl
 have d4_1 : ∀ x ∈ F4, x ∉ F1 := fun x hx hx2 => M1.2.2 x hx2 x (by simp [hx]) rfl
 have d1_5 : ∀ x ∈ F1, x ∉ F5 := fun x hx hx2 => M1.2.2 x hx x (by simp [hx2]) rfl
 have d5_1 : ∀ x ∈ F5, x ∉ F1 := fun x hx hx2 => M1.2.2 x hx2 x (by simp [hx]) rfl
 have d2_3 : ∀ x ∈ F2, x ∉ F3 := fun x hx hx2 => M2.2.2 x hx x (by simp [hx2]) rfl
 have d3_2 : ∀ x ∈ F3, x ∉ F2 := fun x hx hx2 => M2.2.2 x hx2 x (by simp [hx]) rfl
 have d2_4 : ∀ x ∈ F2, x ∉ F4 := fun x hx hx2 => M2.2.2 x hx x (by simp [hx2]) rfl
 have d4_2 : ∀ x ∈ F4, x ∉ F2 := fun x hx hx2 => M2.2.2 x hx2 x (by simp [hx]) rfl
 have d2_5 : ∀ x ∈ F2, x ∉ F5 := fun x hx hx2 => M2.2.2 x hx x (by simp [hx2]) rfl
 have d5_2 : ∀ x ∈ F5, x ∉ F2 := fun x hx hx2 => M2.2.2 x hx2 x (by simp [hx]) rfl
 have d3_4 : ∀ x ∈ F3, x ∉ F4 := fun x hx hx2 => M3.2.2 x hx x (by simp [hx2]) rfl
 have d4_3 : ∀ x ∈ F4, x ∉ F3 := fun x hx hx2 => M3.2.2 x hx2 x (by simp [hx]) rfl
 have d3_5 : ∀ x ∈ F3, x ∉ F5 := fun x hx hx2 => M3.2.2 x hx x (by simp [hx2]) rfl
 have d5_3 : ∀ x ∈ F5, x ∉ F3 := fun x hx hx2 => M3.2.2 x hx2 x (by simp [hx]) rfl
 have d4_5 : ∀ x ∈ F4, x ∉ F5 := fun x hx hx2 => M4.2.2 x hx x (by simp [hx2]) rfl
 have d5_4 : ∀ x ∈ F5, x ∉ F4 := fun x hx hx2 => M4.2.2 x hx2 x (by simp [hx]) rfl
 have nd0 : F0.Nodup := M0.1
 have nd1 : F1.Nodup := M1.1
 have nd2 : F2.Nodup := M2.1
 have nd3 : F3.Nodup := M3.1
 have nd4 : F4.Nodup := M4.1
 have nd5 : F5.Nodup := N5
 have o0 : w.heap.size ∉ F0 := fun hx => by have := h0.blocks _ hx; omega
 have o1 : w.heap.size ∉ F1 := fun hx => by have := h1.blocks _ hx; omega
 have o2 : w.heap.size ∉ F2 := fun hx => by have := h2.blocks _ hx; omega
 have o3 : w.heap.size ∉ F3 := fun hx => by have := h3.blocks _ hx; omega
 have o4 : w.heap.size ∉ F4 := fun hx => by have := h4.blocks _ hx; omega
 have o5 : w.heap.size ∉ F5 := fun hx => by have := h5.blocks _ hx; omega
 have np0 : (F0 ++ (F1 ++ F2)).Nodup := by
  have t := hnd
  rw [show F0 ++ (F1 ++ (F2 ++ (F3 ++ (F4 ++ F5)))) = (F0 ++ (F1 ++ F2)) ++ (F3 ++ (F4 ++ F5)) from by simp only [List.append_assoc]] at t
  exact (List.nodup_append.1 t).1
 clear M0 M1 M2 M3 M4 N0 N1 N2 N3 N4 N5
 obtain ⟨A0, Ak0, rfl⟩ := slice_len h0
 obtain ⟨A1, Ak1, rfl⟩ := slice_len h1
 obtain ⟨A2, Ak2, rfl⟩ := slice_len h2
 obtain ⟨A3, Ak3, rfl⟩ := slice_len h3
 obtain ⟨A4, Ak4, rfl⟩ := slice_len h4
 obtain ⟨A5, Ak5, rfl⟩ := slice_len h5
 have R := Row.new w 67 #[.int .i64 q.setup.band, .slice A0 q.setup.temps.length Ak0, .int .i64 q.setup.points, .int .i64 q.setup.most, .int .i64 q.setup.pen, .slice A1 q.setup.entries.length Ak1, .int .i64 q.setup.dflt, .slice A2 q.setup.bigrams.length Ak2, .int .i64 q.setup.pause, .slice A3 q.strokes.length Ak3, .slice A4 q.opn.length Ak4, .int .i64 q.time, .slice A5 q.words.length Ak5]
 replace h0 := h0.alloc (.cells #[.int .i64 q.setup.band, .slice A0 q.setup.temps.length Ak0, .int .i64 q.setup.points, .int .i64 q.setup.most, .int .i64 q.setup.pen, .slice A1 q.setup.entries.length Ak1, .int .i64 q.setup.dflt, .slice A2 q.setup.bigrams.length Ak2, .int .i64 q.setup.pause, .slice A3 q.strokes.length Ak3, .slice A4 q.opn.length Ak4, .int .i64 q.time, .slice A5 q.words.length Ak5] 67)
 replace h1 := h1.alloc (.cells #[.int .i64 q.setup.band, .slice A0 q.setup.temps.length Ak0, .int .i64 q.setup.points, .int .i64 q.setup.most, .int .i64 q.setup.pen, .slice A1 q.setup.entries.length Ak1, .int .i64 q.setup.dflt, .slice A2 q.setup.bigrams.length Ak2, .int .i64 q.setup.pause, .slice A3 q.strokes.length Ak3, .slice A4 q.opn.length Ak4, .int .i64 q.time, .slice A5 q.words.length Ak5] 67)
 replace h2 := h2.alloc (.cells #[.int .i64 q.setup.band, .slice A0 q.setup.temps.length Ak0, .int .i64 q.setup.points, .int .i64 q.setup.most, .int .i64 q.setup.pen, .slice A1 q.setup.entries.length Ak1, .int .i64 q.setup.dflt, .slice A2 q.setup.bigrams.length Ak2, .int .i64 q.setup.pause, .slice A3 q.strokes.length Ak3, .slice A4 q.opn.length Ak4, .int .i64 q.time, .slice A5 q.words.length Ak5] 67)
 replace h3 := h3.alloc (.cells #[.int .i64 q.setup.band, .slice A0 q.setup.temps.length Ak0, .int .i64 q.setup.points, .int .i64 q.setup.most, .int .i64 q.setup.pen, .slice A1 q.setup.entries.length Ak1, .int .i64 q.setup.dflt, .slice A2 q.setup.bigrams.length Ak2, .int .i64 q.setup.pause, .slice A3 q.strokes.length Ak3, .slice A4 q.opn.length Ak4, .int .i64 q.time, .slice A5 q.words.length Ak5] 67)
 replace h4 := h4.alloc (.cells #[.int .i64 q.setup.band, .slice A0 q.setup.temps.length Ak0, .int .i64 q.setup.points, .int .i64 q.setup.most, .int .i64 q.setup.pen, .slice A1 q.setup.entries.length Ak1, .int .i64 q.setup.dflt, .slice A2 q.setup.bigrams.length Ak2, .int .i64 q.setup.pause, .slice A3 q.strokes.length Ak3, .slice A4 q.opn.length Ak4, .int .i64 q.time, .slice A5 q.words.length Ak5] 67)
 replace h5 := h5.alloc (.cells #[.int .i64 q.setup.band, .slice A0 q.setup.temps.length Ak0, .int .i64 q.setup.points, .int .i64 q.setup.most, .int .i64 q.setup.pen, .slice A1 q.setup.entries.length Ak1, .int .i64 q.setup.dflt, .slice A2 q.setup.bigrams.length Ak2, .int .i64 q.setup.pause, .slice A3 q.strokes.length Ak3, .slice A4 q.opn.length Ak4, .int .i64 q.time, .slice A5 q.words.length Ak5] 67)
 have bb : Only (F0 ++ (F1 ++ (F2 ++ (F3 ++ (F4 ++ F5))))) w (w.alloc (.cells #[.int .i64 q.setup.band, .slice A0 q.setup.temps.length Ak0, .int .i64 q.setup.points, .int .i64 q.setup.most, .int .i64 q.setup.pen, .slice A1 q.setup.entries.length Ak1, .int .i64 q.setup.dflt, .slice A2 q.setup.bigrams.length Ak2, .int .i64 q.setup.pause, .slice A3 q.strokes.length Ak3, .slice A4 q.opn.length Ak4, .int .i64 q.time, .slice A5 q.words.length Ak5] 67)) := Only.of_below ((Below.refl _ _).alloc (Nat.le_refl _) _)
 subst hn
 go_enter Tryz.func23, Tryz.ntmps23
 go_wp2_with fail
 refine (markSetup_s (p := q.setup) _ h0 h1 h2 np0 hp.s _ (s) rfl (by omega) (by omega)).mono ?_
 rintro e w0 ⟨m0, rfl, e0, r0, r1, r2, q0⟩
 have E0 := Lib.hid e0
 clear e0
 replace R := R.onl q0 (fun hx => by
  simp only [List.mem_append] at hx
  rcases hx with hx | hx | hx
  · exact o0 hx
  · exact o1 hx
  · exact o2 hx)
 replace h3 := h3.only q0 (fun x hx hx2 => by
  simp only [List.mem_append] at hx2
  rcases hx2 with hx2 | hx2 | hx2
  · exact d3_0 x hx hx2
  · exact d3_1 x hx hx2
  · exact d3_2 x hx hx2)
 replace h4 := h4.only q0 (fun x hx hx2 => by
  simp only [List.mem_append] at hx2
  rcases hx2 with hx2 | hx2 | hx2
  · exact d4_0 x hx hx2
  · exact d4_1 x hx hx2
  · exact d4_2 x hx hx2)
 replace h5 := h5.only q0 (fun x hx hx2 => by
  simp only [List.mem_append] at hx2
  rcases hx2 with hx2 | hx2 | hx2
  · exact d5_0 x hx hx2
  · exact d5_1 x hx hx2
  · exact d5_2 x hx hx2)
 clear h0
 have h0 := r0
 clear h1
 have h1 := r1
 clear h2
 have h2 := r2
 replace bb := bb.trans (q0.mono (by intro x hx; simp only [List.mem_append] at hx; rcases hx with hx | hx | hx <;> simp [hx]))
 have c0 := R.cell' (i := 0) rfl
 have c1 := R.cell' (i := 1) rfl
 have c2 := R.cell' (i := 2) rfl
 have c3 := R.cell' (i := 3) rfl
 have c4 := R.cell' (i := 4) rfl
 have c5 := R.cell' (i := 5) rfl
 have c6 := R.cell' (i := 6) rfl
 have c7 := R.cell' (i := 7) rfl
 have c8 := R.cell' (i := 8) rfl
 have c9 := R.cell' (i := 9) rfl
 have c10 := R.cell' (i := 10) rfl
 have c11 := R.cell' (i := 11) rfl
 have c12 := R.cell' (i := 12) rfl
 go_wp2_with fail
 refine (markInk_s _ h3 nd3 hp.i hp.j _ (s + marksSetup q.setup) E0.out (by omega) (by omega)).mono ?_
 rintro e w1 ⟨m1, rfl, e1, r3, q1⟩
 have E1 := Lib.hid e1
 clear e1
 clear c0 c1 c2 c3 c4 c5 c6 c7 c8 c9 c10 c11 c12
 replace R := R.onl q1 (o3)
 replace h0 := h0.only q1 (d0_3)
 replace h1 := h1.only q1 (d1_3)
 replace h2 := h2.only q1 (d2_3)
 replace h4 := h4.only q1 (d4_3)
 replace h5 := h5.only q1 (d5_3)
 clear h3
 have h3 := r3
 replace bb := bb.trans (q1.mono (by intro x hx; simp [hx]))
 have c0 := R.cell' (i := 0) rfl
 have c1 := R.cell' (i := 1) rfl
 have c2 := R.cell' (i := 2) rfl
 have c3 := R.cell' (i := 3) rfl
 have c4 := R.cell' (i := 4) rfl
 have c5 := R.cell' (i := 5) rfl
 have c6 := R.cell' (i := 6) rfl
 have c7 := R.cell' (i := 7) rfl
 have c8 := R.cell' (i := 8) rfl
 have c9 := R.cell' (i := 9) rfl
 have c10 := R.cell' (i := 10) rfl
 have c11 := R.cell' (i := 11) rfl
 have c12 := R.cell' (i := 12) rfl
 go_wp2_with fail
 refine (markPointS_s _ h4 hp.o _ (s + marksSetup q.setup + pointsIn q.strokes) E1.out (by omega) (by omega)).mono ?_
 rintro e w2 ⟨m2, rfl, e2, r4, q2⟩
 have E2 := Lib.hid e2
 clear e2
 clear c0 c1 c2 c3 c4 c5 c6 c7 c8 c9 c10 c11 c12
 replace R := R.onl q2 (o4)
 replace h0 := h0.only q2 (d0_4)
 replace h1 := h1.only q2 (d1_4)
 replace h2 := h2.only q2 (d2_4)
 replace h3 := h3.only q2 (d3_4)
 replace h5 := h5.only q2 (d5_4)
 clear h4
 have h4 := r4
 replace bb := bb.trans (q2.mono (by intro x hx; simp [hx]))
 have c0 := R.cell' (i := 0) rfl
 have c1 := R.cell' (i := 1) rfl
 have c2 := R.cell' (i := 2) rfl
 have c3 := R.cell' (i := 3) rfl
 have c4 := R.cell' (i := 4) rfl
 have c5 := R.cell' (i := 5) rfl
 have c6 := R.cell' (i := 6) rfl
 have c7 := R.cell' (i := 7) rfl
 have c8 := R.cell' (i := 8) rfl
 have c9 := R.cell' (i := 9) rfl
 have c10 := R.cell' (i := 10) rfl
 have c11 := R.cell' (i := 11) rfl
 have c12 := R.cell' (i := 12) rfl
 go_wp2_with fail
 refine (markStringS_s _ h5 hp.w _ (s + marksSetup q.setup + pointsIn q.strokes + q.opn.length * 3) E2.out (by omega) (by omega)).mono ?_
 rintro e w3 ⟨m3, rfl, e3, r5, q3⟩
 have E3 := Lib.hid e3
 clear e3
 clear c0 c1 c2 c3 c4 c5 c6 c7 c8 c9 c10 c11 c12
 replace R := R.onl q3 (o5)
 replace h0 := h0.only q3 (d0_5)
 replace h1 := h1.only q3 (d1_5)
 replace h2 := h2.only q3 (d2_5)
 replace h3 := h3.only q3 (d3_5)
 replace h4 := h4.only q3 (d4_5)
 clear h5
 have h5 := r5
 replace bb := bb.trans (q3.mono (by intro x hx; simp [hx]))
 go_wp2_with fail
 go_ret
 exact ⟨m3, rfl, by have := E3.out; omega, h0, h1, h2, h3, h4, h5, bb⟩
set_option maxRecDepth 100000 in
set_option maxHeartbeats 4000000 in
theorem heldSession_s {o : Bool} {bg en ft op pt st tm : TypeId} {q : PSess} {a0 a1 a2 a3 a4 a5 : Value} {F0 F1 F2 F3 F4 F5 : List Nat} (w : World) (s : Nat) (h0 : (pTemps ft tm).rep o w (markTemps q.setup.temps s) [a0] F0) (h1 : (pEntrys en).rep o w (markPEntry q.setup.entries.length (s + tempsIn q.setup.temps)) [a1] F1) (h2 : (pBigrams bg).rep o w (markPBigram q.setup.bigrams.length (s + tempsIn q.setup.temps + q.setup.entries.length * 2)) [a2] F2) (h3 : (pStrokes pt st).rep o w (markStrokes q.strokes (s + marksSetup q.setup)) [a3] F3) (h4 : (pPoints op).rep o w (markPPoint q.opn.length (s + marksSetup q.setup + pointsIn q.strokes)) [a4] F4) (h5 : (strs 9).rep o w (markS q.words.length (s + marksSetup q.setup + pointsIn q.strokes + q.opn.length * 3)) [a5] F5) (hp : SsSmall q) (n : Int) (hn : n = (s : Int)) (hs0 : 0 < s) (hs : s + marksSession q ≤ 10000000) :
 Calls Tryz.prog 24 #[.agg #[.int .i64 q.setup.band, a0, .int .i64 q.setup.points, .int .i64 q.setup.most, .int .i64 q.setup.pen, a1, .int .i64 q.setup.dflt, a2, .int .i64 q.setup.pause, a3, a4, .int .i64 q.time, a5], .int .i64 n] w fun e w' => ∃ r : Int, e = .returned (.int .i64 r) ∧ r = ((s + marksSession q : Nat) : Int) ∧ Below w.heap.size w w' := by
 unfold marksSession at *
 obtain ⟨A0, Ak0, rfl⟩ := slice_len h0
 obtain ⟨A1, Ak1, rfl⟩ := slice_len h1
 obtain ⟨A2, Ak2, rfl⟩ := slice_len h2
 obtain ⟨A3, Ak3, rfl⟩ := slice_len h3
 obtain ⟨A4, Ak4, rfl⟩ := slice_len h4
 obtain ⟨A5, Ak5, rfl⟩ := slice_len h5
 generalize hl0 : (markTemps q.setup.temps s).length = l0 at *
 generalize hl1 : (markPEntry q.setup.entries.length (s + tempsIn q.setup.temps)).length = l1 at *
 generalize hl2 : (markPBigram q.setup.bigrams.length (s + tempsIn q.setup.temps + q.setup.entries.length * 2)).length = l2 at *
 generalize hl3 : (markStrokes q.strokes (s + marksSetup q.setup)).length = l3 at *
 generalize hl4 : (markPPoint q.opn.length (s + marksSetup q.setup + pointsIn q.strokes)).length = l4 at *
 generalize hl5 : (markS q.words.length (s + marksSetup q.setup + pointsIn q.strokes + q.opn.length * 3)).length = l5 at *
 have R := Row.new w 67 #[.int .i64 q.setup.band, .slice A0 l0 Ak0, .int .i64 q.setup.points, .int .i64 q.setup.most, .int .i64 q.setup.pen, .slice A1 l1 Ak1, .int .i64 q.setup.dflt, .slice A2 l2 Ak2, .int .i64 q.setup.pause, .slice A3 l3 Ak3, .slice A4 l4 Ak4, .int .i64 q.time, .slice A5 l5 Ak5]
 replace h0 := h0.alloc (.cells #[.int .i64 q.setup.band, .slice A0 l0 Ak0, .int .i64 q.setup.points, .int .i64 q.setup.most, .int .i64 q.setup.pen, .slice A1 l1 Ak1, .int .i64 q.setup.dflt, .slice A2 l2 Ak2, .int .i64 q.setup.pause, .slice A3 l3 Ak3, .slice A4 l4 Ak4, .int .i64 q.time, .slice A5 l5 Ak5] 67)
 replace h1 := h1.alloc (.cells #[.int .i64 q.setup.band, .slice A0 l0 Ak0, .int .i64 q.setup.points, .int .i64 q.setup.most, .int .i64 q.setup.pen, .slice A1 l1 Ak1, .int .i64 q.setup.dflt, .slice A2 l2 Ak2, .int .i64 q.setup.pause, .slice A3 l3 Ak3, .slice A4 l4 Ak4, .int .i64 q.time, .slice A5 l5 Ak5] 67)
 replace h2 := h2.alloc (.cells #[.int .i64 q.setup.band, .slice A0 l0 Ak0, .int .i64 q.setup.points, .int .i64 q.setup.most, .int .i64 q.setup.pen, .slice A1 l1 Ak1, .int .i64 q.setup.dflt, .slice A2 l2 Ak2, .int .i64 q.setup.pause, .slice A3 l3 Ak3, .slice A4 l4 Ak4, .int .i64 q.time, .slice A5 l5 Ak5] 67)
 replace h3 := h3.alloc (.cells #[.int .i64 q.setup.band, .slice A0 l0 Ak0, .int .i64 q.setup.points, .int .i64 q.setup.most, .int .i64 q.setup.pen, .slice A1 l1 Ak1, .int .i64 q.setup.dflt, .slice A2 l2 Ak2, .int .i64 q.setup.pause, .slice A3 l3 Ak3, .slice A4 l4 Ak4, .int .i64 q.time, .slice A5 l5 Ak5] 67)
 replace h4 := h4.alloc (.cells #[.int .i64 q.setup.band, .slice A0 l0 Ak0, .int .i64 q.setup.points, .int .i64 q.setup.most, .int .i64 q.setup.pen, .slice A1 l1 Ak1, .int .i64 q.setup.dflt, .slice A2 l2 Ak2, .int .i64 q.setup.pause, .slice A3 l3 Ak3, .slice A4 l4 Ak4, .int .i64 q.time, .slice A5 l5 Ak5] 67)
 replace h5 := h5.alloc (.cells #[.int .i64 q.setup.band, .slice A0 l0 Ak0, .int .i64 q.setup.points, .int .i64 q.setup.most, .int .i64 q.setup.pen, .slice A1 l1 Ak1, .int .i64 q.setup.dflt, .slice A2 l2 Ak2, .int .i64 q.setup.pause, .slice A3 l3 Ak3, .slice A4 l4 Ak4, .int .i64 q.time, .slice A5 l5 Ak5] 67)
 have bb : Below w.heap.size w (w.alloc (.cells #[.int .i64 q.setup.band, .slice A0 l0 Ak0, .int .i64 q.setup.points, .int .i64 q.setup.most, .int .i64 q.setup.pen, .slice A1 l1 Ak1, .int .i64 q.setup.dflt, .slice A2 l2 Ak2, .int .i64 q.setup.pause, .slice A3 l3 Ak3, .slice A4 l4 Ak4, .int .i64 q.time, .slice A5 l5 Ak5] 67)) := (Below.refl _ _).alloc (Nat.le_refl _) _
 subst hn
 clear hl0 hl1 hl2 hl3 hl4 hl5
 go_enter Tryz.func24, Tryz.ntmps24
 go_wp2_with fail
 refine (heldSetup_s (p := q.setup) _ (s) h0 h1 h2 hp.s _ rfl (by omega) (by omega)).mono ?_
 rintro e w0 ⟨m0, rfl, e0, b0⟩
 replace R := R.later b0
 replace h0 := h0.below b0
 replace h1 := h1.below b0
 replace h2 := h2.below b0
 replace h3 := h3.below b0
 replace h4 := h4.below b0
 replace h5 := h5.below b0
 replace bb := bt bb b0
 have n0 : ¬ m0 < 0 := by omega
 have E0 := Lib.hid e0
 clear e0
 have c0 := R.cell' (i := 0) rfl
 have c1 := R.cell' (i := 1) rfl
 have c2 := R.cell' (i := 2) rfl
 have c3 := R.cell' (i := 3) rfl
 have c4 := R.cell' (i := 4) rfl
 have c5 := R.cell' (i := 5) rfl
 have c6 := R.cell' (i := 6) rfl
 have c7 := R.cell' (i := 7) rfl
 have c8 := R.cell' (i := 8) rfl
 have c9 := R.cell' (i := 9) rfl
 have c10 := R.cell' (i := 10) rfl
 have c11 := R.cell' (i := 11) rfl
 have c12 := R.cell' (i := 12) rfl
 go_wp2_with fail
 refine (heldInk_s (xs := q.strokes) _ (s + marksSetup q.setup) h3 hp.i hp.j _ E0.out (by omega) (by omega)).mono ?_
 rintro e w1 ⟨m1, rfl, e1, b1⟩
 clear c0 c1 c2 c3 c4 c5 c6 c7 c8 c9 c10 c11 c12
 replace R := R.later b1
 replace h0 := h0.below b1
 replace h1 := h1.below b1
 replace h2 := h2.below b1
 replace h3 := h3.below b1
 replace h4 := h4.below b1
 replace h5 := h5.below b1
 replace bb := bt bb b1
 have n1 : ¬ m1 < 0 := by omega
 have E1 := Lib.hid e1
 clear e1
 have c0 := R.cell' (i := 0) rfl
 have c1 := R.cell' (i := 1) rfl
 have c2 := R.cell' (i := 2) rfl
 have c3 := R.cell' (i := 3) rfl
 have c4 := R.cell' (i := 4) rfl
 have c5 := R.cell' (i := 5) rfl
 have c6 := R.cell' (i := 6) rfl
 have c7 := R.cell' (i := 7) rfl
 have c8 := R.cell' (i := 8) rfl
 have c9 := R.cell' (i := 9) rfl
 have c10 := R.cell' (i := 10) rfl
 have c11 := R.cell' (i := 11) rfl
 have c12 := R.cell' (i := 12) rfl
 go_wp2_with fail
 refine (heldPointS_s (xs := q.opn) _ (s + marksSetup q.setup + pointsIn q.strokes) h4 hp.o _ E1.out (by omega) (by omega)).mono ?_
 rintro e w2 ⟨m2, rfl, e2, b2⟩
 clear c0 c1 c2 c3 c4 c5 c6 c7 c8 c9 c10 c11 c12
 replace R := R.later b2
 replace h0 := h0.below b2
 replace h1 := h1.below b2
 replace h2 := h2.below b2
 replace h3 := h3.below b2
 replace h4 := h4.below b2
 replace h5 := h5.below b2
 replace bb := bt bb b2
 have n2 : ¬ m2 < 0 := by omega
 have E2 := Lib.hid e2
 clear e2
 have c0 := R.cell' (i := 0) rfl
 have c1 := R.cell' (i := 1) rfl
 have c2 := R.cell' (i := 2) rfl
 have c3 := R.cell' (i := 3) rfl
 have c4 := R.cell' (i := 4) rfl
 have c5 := R.cell' (i := 5) rfl
 have c6 := R.cell' (i := 6) rfl
 have c7 := R.cell' (i := 7) rfl
 have c8 := R.cell' (i := 8) rfl
 have c9 := R.cell' (i := 9) rfl
 have c10 := R.cell' (i := 10) rfl
 have c11 := R.cell' (i := 11) rfl
 have c12 := R.cell' (i := 12) rfl
 go_wp2_with fail
 refine (heldStringS_s (xs := q.words) _ (s + marksSetup q.setup + pointsIn q.strokes + q.opn.length * 3) h5 hp.w _ E2.out (by omega) (by omega)).mono ?_
 rintro e w3 ⟨m3, rfl, e3, b3⟩
 clear c0 c1 c2 c3 c4 c5 c6 c7 c8 c9 c10 c11 c12
 replace R := R.later b3
 replace h0 := h0.below b3
 replace h1 := h1.below b3
 replace h2 := h2.below b3
 replace h3 := h3.below b3
 replace h4 := h4.below b3
 replace h5 := h5.below b3
 replace bb := bt bb b3
 have n3 : ¬ m3 < 0 := by omega
 have E3 := Lib.hid e3
 clear e3
 go_wp2_with fail
 go_ret
 exact ⟨m3, rfl, by have := E3.out; omega, bb⟩
theorem markPage_s {ln sp : TypeId} {p : PPage} {a b c : Value} {F1 F2 F3 : List Nat} (w : World) (h1 : (pLines ln).rep true w p.lines [a] F1) (h2 : (pSteps sp).rep true w p.done [b] F2) (h3 : (pSteps sp).rep true w p.undone [c] F3) (hnd : (F1 ++ (F2 ++ F3)).Nodup) (hp : PSmall p) (m : Int) (s : Nat) (hm : m = (s : Int)) (hs0 : 0 < s) (hs : s + marksIn p ≤ 10000000) :
 Calls Tryz.prog 38 #[.agg #[a, b, c], .int .i64 m] w fun e w' => ∃ r : Int, e = .returned (.int .i64 r) ∧ r = ((s + marksIn p : Nat) : Int) ∧ (pLines ln).rep true w' (markP p s).lines [a] F1 ∧ (pSteps sp).rep true w' (markP p s).done [b] F2 ∧ (pSteps sp).rep true w' (markP p s).undone [c] F3 ∧ Only (F1 ++ (F2 ++ F3)) w w' := by
 subst hm
 exact (markPage_w w h1 h2 h3 hnd hp s hs0 hs).mono fun _ _ ⟨x1, x2, x3, x4, x5⟩ => ⟨_, x1, rfl, x2, x3, x4, x5⟩
theorem heldPage_s {o : Bool} {ln sp : TypeId} {p : PPage} {a b c : Value} {F1 F2 F3 : List Nat} (w : World) (s : Nat) (h1 : (pLines ln).rep o w (markP p s).lines [a] F1) (h2 : (pSteps sp).rep o w (markP p s).done [b] F2) (h3 : (pSteps sp).rep o w (markP p s).undone [c] F3) (hp : PSmall p) (m : Int) (hm : m = (s : Int)) (hs0 : 0 < s) (hs : s + marksIn p ≤ 10000000) :
 Calls Tryz.prog 39 #[.agg #[a, b, c], .int .i64 m] w fun e w' => ∃ r : Int, e = .returned (.int .i64 r) ∧ r = ((s + marksIn p : Nat) : Int) ∧ Below w.heap.size w w' := by
 subst hm
 exact (heldPage_c w s ⟨a, b, c, F1, F2, F3, rfl, rfl, h1, h2, h3⟩ hp hs0 hs).mono fun _ _ ⟨x1, x2⟩ => ⟨_, x1, rfl, x2⟩
end Go.Proofs.YtkfadfddhbpngaaGreat

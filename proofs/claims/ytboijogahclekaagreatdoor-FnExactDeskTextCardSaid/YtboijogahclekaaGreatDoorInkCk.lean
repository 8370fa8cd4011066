/- Ink: the ends of a stroke, and the program's ValidInk. Conditions: none. -/
import Derived.Test.YtboijogahclekaaGreatDoorConfk
import Derived.Test.YtboijogahclekaaGreatDoorTkk
import Derived.Deep.RegionHeld3
import Derived.Test.YtboijogahclekaaGreatDoorTyBigramk
import Derived.Test.YtboijogahclekaaGreatDoorAppendk
import Derived.Test.YtboijogahclekaaGreatDoorRows
namespace Go.Proofs.YtboijogahclekaaGreatDoor
open Go Go.RowKit
set_option maxHeartbeats 400000 in
theorem impl_firstOf_c {o : Bool} {e : TypeId} {xs : PStroke} {v : Value} {F : List Nat} (w : World) (h : (pPoints e).rep o w xs [v] F) (h0 : 0 < xs.length) :
 Calls Tryz.prog 75 #[.agg #[v]] w fun e w' => e = .returned (.agg #[.int .i64 (pt xs 0).x, .int .i64 (pt xs 0).y, .int .i64 (pt xs 0).t]) ∧ Below w.heap.size w w' := by
 obtain ⟨A, c, rfl, hc1, hc2, hr⟩ := pPoints_open h
 clear h
 obtain ⟨b, off, rfl, hbb, _, c0, c1, c2, _⟩ := hr 0 h0
 rw [pt_get h0]
 clear hr
 simp only [Nat.zero_mul, Nat.add_zero] at c0 c1 c2
 have hin : (0 : Int) < (xs.length : Int) := by omega
 go_enter Tryz.func75, Tryz.ntmps75
 go_wp2_with fail
 refine bodyPost_ret (v := .agg #[.int .i64 xs[0].x, .int .i64 xs[0].y, .int .i64 xs[0].t]) (by simp [results, Tryz.results75, go_sem]) rfl ⟨rfl, ?_⟩
 exact ((Below.refl _ _).alloc (Nat.le_refl _) _).alloc (by simp) _
set_option maxHeartbeats 400000 in
theorem impl_lastOf_c {o : Bool} {e : TypeId} {xs : PStroke} {v : Value} {F : List Nat} (w : World) (h : (pPoints e).rep o w xs [v] F) (h0 : 0 < xs.length) (hx : xs.length ≤ 1048576) :
 Calls Tryz.prog 76 #[.agg #[v]] w fun e w' => e = .returned (.agg #[.int .i64 (pt xs (xs.length - 1)).x, .int .i64 (pt xs (xs.length - 1)).y, .int .i64 (pt xs (xs.length - 1)).t]) ∧ Below w.heap.size w w' := by
 obtain ⟨A, c, rfl, hc1, hc2, hr⟩ := pPoints_open h
 clear h
 obtain ⟨j, hj⟩ : ∃ j, xs.length = j + 1 := ⟨xs.length - 1, by omega⟩
 have hl : xs.length - 1 = j := by omega
 rw [hl]
 have jl : j < xs.length := by omega
 obtain ⟨b, off, rfl, hbb, _, c0, c1, c2, _⟩ := hr j jl
 rw [pt_get jl]
 clear hr
 have gj : IntKind.i64.wrap ((xs.length : Int) - 1) = (j : Int) := (IntWalk.i64_in _ (by omega)).trans (by omega)
 have j0 : (0 : Int) ≤ (j : Int) := by omega
 have jl' : (j : Int) < (xs.length : Int) := by omega
 have HJ := Lib.hid hj
 have HL := Lib.hid hl
 clear hj hl
 go_enter Tryz.func76, Tryz.ntmps76
 go_wp2_with fail
 refine bodyPost_ret (v := .agg #[.int .i64 xs[j].x, .int .i64 xs[j].y, .int .i64 xs[j].t]) (by simp [results, Tryz.results76, go_sem]) rfl ⟨rfl, ?_⟩
 exact ((Below.refl _ _).alloc (Nat.le_refl _) _).alloc (by simp) _
def firstT (s : PStroke) : Int := (pt s 0).t
def lastT (s : PStroke) : Int := (pt s (s.length - 1)).t
def strk (xs : List PStroke) (k : Nat) : PStroke := xs.getD k []
theorem strk_get {xs : List PStroke} {k : Nat} (h : k < xs.length) : strk xs k = xs[k] := by simp [strk, List.getD_eq_getElem?_getD, List.getElem?_eq_getElem h]
def stOk (xs : List PStroke) (k : Nat) : Bool := strokeB (strk xs k) && (decide (k = 0) || decide (lastT (strk xs (k - 1)) < firstT (strk xs k)))
def stsOk (xs : List PStroke) : Nat → Bool
 | 0 => true
 | k + 1 => stsOk xs k && stOk xs k
theorem stsOk_false {xs : List PStroke} {k : Nat} (h : stOk xs k = false) : ∀ n, k < n → stsOk xs n = false
 | 0, hk => by omega
 | n + 1, hk => by
   by_cases e : k = n
   · subst e; simp [stsOk, h]
   · simp [stsOk, stsOk_false h n (by omega)]
theorem stsOk_get {xs : List PStroke} : ∀ {n k : Nat}, stsOk xs n = true → k < n → stOk xs k = true
 | 0, _, _, hk => by omega
 | n + 1, k, h, hk => by
   simp only [stsOk, Bool.and_eq_true] at h
   by_cases e : k = n
   · subst e; exact h.2
   · exact stsOk_get h.1 (by omega)
def inkB (xs : List PStroke) : Bool := stsOk xs xs.length && decide (xs.length ≤ 16)
theorem inkB_false {xs : List PStroke} {k : Nat} (hk : k < xs.length) (h : stOk xs k = false) : inkB xs = false := by simp [inkB, stsOk_false h _ hk]
theorem stOk_step {xs : List PStroke} {k : Nat} (hk : k < xs.length) (h : strokeB xs[k] = true) (h' : k = 0 ∨ ∃ j, k = j + 1 ∧ ∀ hj : j < xs.length, lastT xs[j] < firstT xs[k]) : stOk xs k = true := by
 unfold stOk
 rw [strk_get hk, h]
 rcases h' with rfl | ⟨j, rfl, h2⟩
 · simp
 · rw [show j + 1 - 1 = j from rfl, strk_get (show j < xs.length by omega)]
   simp [h2 (by omega)]
theorem stOk_bad {xs : List PStroke} {k : Nat} (hk : k < xs.length) (h : strokeB xs[k] = false) : stOk xs k = false := by
 unfold stOk
 rw [strk_get hk, h]
 rfl
theorem stOk_late {xs : List PStroke} {j : Nat} (hk : j + 1 < xs.length) (h : firstT xs[j + 1] ≤ lastT xs[j]) : stOk xs (j + 1) = false := by
 unfold stOk
 rw [strk_get hk, show j + 1 - 1 = j from rfl, strk_get (show j < xs.length by omega)]
 have : ¬ (lastT xs[j] < firstT xs[j + 1]) := by omega
 simp [this]
theorem strokeB_pos {s : PStroke} (h : strokeB s = true) : 0 < s.length := by
 simp only [strokeB, Bool.and_eq_true, decide_eq_true_eq] at h
 omega
theorem stOk_stroke {xs : List PStroke} {k : Nat} (hk : k < xs.length) (h : stOk xs k = true) : strokeB xs[k] = true := by
 unfold stOk at h
 rw [strk_get hk] at h
 simp only [Bool.and_eq_true] at h
 exact h.1
theorem keep_b {w2 w3 : World} {b o : Nat} {u : Value} (o3 : Below w2.heap.size w2 w3) (hb : b < w2.heap.size) (hu : w2.cell? ⟨b, o, none⟩ = some u) : w3.cell? ⟨b, o, none⟩ = some u :=
 (Below.cell (p := ⟨b, o, none⟩) o3 hb).trans hu
set_option maxRecDepth 100000 in
set_option maxHeartbeats 1000000 in
theorem impl_ValidInk_c {o : Bool} {pe e : TypeId} {xs : List PStroke} {v : Value} {F : List Nat} (w : World) (h : (pStrokes pe e).rep o w xs [v] F) (hx : xs.length ≤ 1048576) (hxe : ∀ l ∈ xs, l.length ≤ 1048576) :
 Calls Tryz.prog 71 #[.agg #[v]] w fun e w' => e = .returned (.bool (inkB xs)) ∧ Below w.heap.size w w' := by
 obtain ⟨A, c, rfl, hc1, hc2, hr⟩ := pStrokes_open h
 clear h
 go_enter Tryz.func71, Tryz.ntmps71
 go_wp2_with fail
 go_loopw [8] (fun i wr => ∃ k : Nat, k ≤ xs.length ∧ i = .int .i64 k ∧ Hid (stsOk xs k = true) ∧ wr.cell? ⟨w.heap.size, 0, none⟩ = some (.slice A xs.length c) ∧ w.heap.size < wr.heap.size ∧ Below w.heap.size w wr) (fun i _ => xs.length - (intOf i).toNat)
 case atStart => exact ⟨0, Nat.zero_le _, rfl, rfl, by simp, by simp, (Below.refl _ _).alloc (Nat.le_refl _) _⟩
 case round =>
  obtain ⟨k, hk, rfl, hok, hself, hsl, hb⟩ := hrel
  have hbs := hb.size
  by_cases hlt : k < xs.length
  · obtain ⟨b, off, u, Fk, rfl, hbb, _, hrk, _, h0⟩ := hr k hlt
    rw [← hb.cell (p := ⟨b, _, none⟩) hbb] at h0
    obtain ⟨Au, cu, rfl⟩ := slice_len hrk
    have hle := hxe _ (List.getElem_mem hlt)
    have QK := hrk.below hb
    have RN := (Row.new wr 143 #[.slice Au xs[k].length cu]).drew
    have QA := Lib.hid (QK.alloc (.cells #[.slice Au xs[k].length cu] 143)).drew
    have al : Below w.heap.size w (wr.alloc (.cells #[.slice Au xs[k].length cu] 143)).drew := (hb.alloc hbs _).drew
    have HC := Lib.hid (impl_ValidStroke_c (wr.alloc (.cells #[.slice Au xs[k].length cu] 143)).drew QA.out hle)
    have hsz : wr.heap.size < (wr.alloc (.cells #[.slice Au xs[k].length cu] 143)).drew.heap.size := by simp
    have hself1 : (wr.alloc (.cells #[.slice Au xs[k].length cu] 143)).drew.cell? ⟨w.heap.size, 0, none⟩ = some (.slice (some ⟨b, off, none⟩) xs.length c) := (World.cell?_alloc_past (w := wr) _ _ _ hsl).trans hself
    clear QK
    cases hp : strokeB xs[k]
    · have HF := Lib.hid (inkB_false hlt (stOk_bad hlt hp))
      simp only [hp] at HC
      clear hr hp hrk
      go_wp2_with fail
      have hS : (fun w' => w'.cell? ⟨wr.heap.size, 0, none⟩ = some (.slice Au xs[k].length cu)) (wr.alloc (.cells #[.slice Au xs[k].length cu] 143)).drew := RN.c0
      dsimp only at hS
      refine wp_region_held_drew (S := (fun w' => w'.cell? ⟨wr.heap.size, 0, none⟩ = some (.slice Au xs[k].length cu))) (by kernel_rfl) hS (fun _ => ?_)
      refine tJ 0 hS ?_
      refine rJ 1 fun K hK => ?_
      refine step_call 74 #[.tmp 13] _ rfl rfl #[.agg #[.slice Au xs[k].length cu]] Tryz.call74 (by go_simp) HC.out ?_
      rintro e w1 ⟨rfl, b1⟩
      refine ⟨_, rfl, ?_⟩
      replace hS : w1.cell? ⟨wr.heap.size, 0, none⟩ = some (.slice Au xs[k].length cu) := (RN.later b1).c0
      refine bJ hK hS ?_
      clear hK K
      simp only [Act.put, pA, pB, pC]
      refine tJ 2 hS ?_
      refine tJ 3 hS ?_
      refine tJ0 4 hS ?_
      refine tJ0 5 hS ?_
      refine tJ0 6 hS ?_
      refine tJ0 7 hS ?_
      refine tJ0 8 hS ?_
      refine tJ0 9 hS ?_
      refine tJ0 10 hS ?_
      refine tJ0 11 hS ?_
      refine tJ0 12 hS ?_
      refine tJ0 13 hS ?_
      refine tJ0 14 hS ?_
      refine tJ0 15 hS ?_
      refine tJ0 16 hS ?_
      refine tJ0 17 hS ?_
      refine tJ0 18 hS ?_
      refine tJ0 19 hS ?_
      refine tJ 20 hS ?_
      refine wpAnyH_done (by kernel_rfl) ?_ _
      go_wp2_with fail
      go_ret
      exact ⟨ret_boolI HF.out.symm, al.trans (b1.mono (by omega))⟩
    · have HP := Lib.hid hp
      simp only [hp] at HC
      by_cases hz : k = 0
      · have HK : Hid (stsOk xs (k + 1) = true) := by show _ = _; rw [stsOk, hok.out, stOk_step hlt HP.out (.inl hz)]; rfl
        have g0 : (0 < k) = False := eq_false (by omega)
        clear hr hz hp hrk
        go_wp2_with fail
        have hS : (fun w' => w'.cell? ⟨wr.heap.size, 0, none⟩ = some (.slice Au xs[k].length cu)) (wr.alloc (.cells #[.slice Au xs[k].length cu] 143)).drew := RN.c0
        dsimp only at hS
        refine wp_region_held_drew (S := (fun w' => w'.cell? ⟨wr.heap.size, 0, none⟩ = some (.slice Au xs[k].length cu))) (by kernel_rfl) hS (fun _ => ?_)
        refine tJ 0 hS ?_
        refine rJ 1 fun K hK => ?_
        refine step_call 74 #[.tmp 13] _ rfl rfl #[.agg #[.slice Au xs[k].length cu]] Tryz.call74 (by go_simp) HC.out ?_
        rintro e w1 ⟨rfl, b1⟩
        refine ⟨_, rfl, ?_⟩
        replace hS : w1.cell? ⟨wr.heap.size, 0, none⟩ = some (.slice Au xs[k].length cu) := (RN.later b1).c0
        refine bJ hK hS ?_
        clear hK K
        simp only [Act.put, pA, pB, pC]
        refine tJ 2 hS ?_
        refine tJ 3 hS ?_
        refine tJ 4 hS ?_
        refine tJ 5 hS ?_
        refine tJ 6 hS ?_
        refine tJ0 7 hS ?_
        refine tJ0 8 hS ?_
        refine tJ0 9 hS ?_
        refine tJ0 10 hS ?_
        refine tJ0 11 hS ?_
        refine tJ0 12 hS ?_
        refine tJ0 13 hS ?_
        refine tJ0 14 hS ?_
        refine tJ0 15 hS ?_
        refine tJ0 16 hS ?_
        refine tJ0 17 hS ?_
        refine tJ0 18 hS ?_
        refine tJ 19 hS ?_
        refine tJ 20 hS ?_
        refine wpAnyH_done (by kernel_rfl) ?_ _
        have hself2 := (Below.cell (p := ⟨w.heap.size, 0, none⟩) b1 (by show w.heap.size < _; omega)).trans hself1
        have hsz1 := b1.size
        go_wp2_with fail
        go_roundw
        case rel => exact ⟨k + 1, by omega, by go_num, HK, hself2, by omega, al.trans (b1.mono (by omega))⟩
        case measure => simp [intOf]; omega
      · obtain ⟨j, hj⟩ : ∃ j, k = j + 1 := ⟨k - 1, by omega⟩
        have jl : j < xs.length := by omega
        obtain ⟨b', off', u', Fj, e', hbb', _, hrj, _, h3⟩ := hr j jl
        obtain ⟨Aj, cj, rfl⟩ := slice_len hrj
        injection e' with e'
        injection e' with e1 e2 _
        subst e1; subst e2
        rw [← hb.cell (p := ⟨b, _, none⟩) hbb] at h3
        have hbw : b < wr.heap.size := by omega
        have h31 : (wr.alloc (.cells #[.slice Au xs[k].length cu] 143)).drew.cell? ⟨b, off + j, none⟩ = some (.slice Aj xs[j].length cj) := (World.cell?_alloc_past (w := wr) _ _ _ hbw).trans h3
        have hlej := hxe _ (List.getElem_mem jl)
        have QJ := Lib.hid ((hrj.below hb).alloc (.cells #[.slice Au xs[k].length cu] 143)).drew
        have p1 := Lib.hid (strokeB_pos hp)
        have p2 := Lib.hid (strokeB_pos (stOk_stroke jl (stsOk_get hok.out (show j < k by omega))))
        have CF := Lib.hid (fun w2 (bb : Below (wr.alloc (.cells #[.slice Au xs[k].length cu] 143)).drew.heap.size (wr.alloc (.cells #[.slice Au xs[k].length cu] 143)).drew w2) => impl_firstOf_c w2 (QA.out.below bb) p1.out)
        have CL := Lib.hid (fun w2 (bb : Below (wr.alloc (.cells #[.slice Au xs[k].length cu] 143)).drew.heap.size (wr.alloc (.cells #[.slice Au xs[k].length cu] 143)).drew w2) => impl_lastOf_c w2 (QJ.out.below bb) p2.out hlej)
        have g0 : (0 < k) = True := eq_true (by omega)
        have gj : IntKind.i64.wrap ((k : Int) - 1) = (j : Int) := (IntWalk.i64_in _ (by omega)).trans (by omega)
        have jl' : (j : Int) < (xs.length : Int) := by omega
        have j0 : (0 : Int) ≤ (j : Int) := by omega
        have HT : firstT xs[k] ≤ lastT xs[j] → Hid (inkB xs = false) := fun ht => inkB_false hlt (by subst hj; exact stOk_late hlt ht)
        have HN : ¬ firstT xs[k] ≤ lastT xs[j] → Hid (stsOk xs (k + 1) = true) := fun ht => by
         show _ = _
         rw [stsOk, hok.out, stOk_step hlt HP.out (.inr ⟨j, hj, fun _ => by omega⟩)]; rfl
        have ef : (pt xs[k] 0).t = firstT xs[k] := rfl
        have el : (pt xs[j] (xs[j].length - 1)).t = lastT xs[j] := rfl
        rw [ef] at CF
        rw [el] at CL
        generalize hft : firstT xs[k] = ft at CF HT HN
        generalize hlt' : lastT xs[j] = ltt at CL HT HN
        have HT' := Lib.hid HT
        have HN' := Lib.hid HN
        have HJ := Lib.hid hj
        clear hr h3 hj hz hp hrj hrk HT HN ef el hft hlt'
        by_cases ht : ft ≤ ltt
        · have HF := HT'.out ht
          have gt : (ft ≤ ltt) = True := eq_true ht
          clear ht
          go_wp2_with fail
          have hfd : ∀ (x y z : Int) (w : World), (Instr.field 147 (.agg #[.int .i64 x, .int .i64 y, .int .i64 z]) 2).run Tryz.prog w = .ok (.int .i64 z) w := fun _ _ _ _ => by kernel_rfl
          have x1 := RN.cell' (i := 0) (u := .slice Au xs[k].length cu) rfl
          go_region_held3 (fun w' => w'.cell? ⟨wr.heap.size, 0, none⟩ = some (.slice Au xs[k].length cu) ∧ w'.cell? ⟨w.heap.size, 0, none⟩ = some (.slice (some ⟨b, off, none⟩) xs.length c) ∧ w'.cell? ⟨b, off + j, none⟩ = some (.slice Aj xs[j].length cj)) (first | exact ⟨x1, hself1, h31⟩ | exact ⟨(RN.later b1).c0, keep_b b1 (Nat.lt_trans hsl hsz) hself1, keep_b b1 (Nat.lt_trans hbw hsz) h31⟩ | exact ⟨(RN.later (bt b1 b2)).c0, keep_b (bt b1 b2) (Nat.lt_trans hsl hsz) hself1, keep_b (bt b1 b2) (Nat.lt_trans hbw hsz) h31⟩ | exact ⟨(RN.later (bt (bt b1 b2) b3)).c0, keep_b (bt (bt b1 b2) b3) (Nat.lt_trans hsl hsz) hself1, keep_b (bt (bt b1 b2) b3) (Nat.lt_trans hbw hsz) h31⟩) (first | (go_at_call 74; refine HC.out.mono ?_; rintro e w1 ⟨rfl, b1⟩) | (go_at_call 75; refine (CF.out _ b1).mono ?_; rintro e w2 ⟨rfl, b2⟩) | (go_at_call 75; refine (CF.out _ (bt b1 b2)).mono ?_; rintro e w3 ⟨rfl, b3⟩) | (go_at_call 76; refine (CL.out _ b1).mono ?_; rintro e w2 ⟨rfl, b2⟩) | (go_at_call 76; refine (CL.out _ (bt b1 b2)).mono ?_; rintro e w3 ⟨rfl, b3⟩))
          all_goals
           go_wp2_with fail
           go_ret
           exact ⟨ret_boolI HF.out.symm, al.trans ((bt (bt b1 b2) b3).mono (by omega))⟩
        · have HK := HN'.out ht
          have gt : (ft ≤ ltt) = False := eq_false ht
          clear ht
          go_wp2_with fail
          have hfd : ∀ (x y z : Int) (w : World), (Instr.field 147 (.agg #[.int .i64 x, .int .i64 y, .int .i64 z]) 2).run Tryz.prog w = .ok (.int .i64 z) w := fun _ _ _ _ => by kernel_rfl
          have x1 := RN.cell' (i := 0) (u := .slice Au xs[k].length cu) rfl
          go_region_held3 (fun w' => w'.cell? ⟨wr.heap.size, 0, none⟩ = some (.slice Au xs[k].length cu) ∧ w'.cell? ⟨w.heap.size, 0, none⟩ = some (.slice (some ⟨b, off, none⟩) xs.length c) ∧ w'.cell? ⟨b, off + j, none⟩ = some (.slice Aj xs[j].length cj)) (first | exact ⟨x1, hself1, h31⟩ | exact ⟨(RN.later b1).c0, keep_b b1 (Nat.lt_trans hsl hsz) hself1, keep_b b1 (Nat.lt_trans hbw hsz) h31⟩ | exact ⟨(RN.later (bt b1 b2)).c0, keep_b (bt b1 b2) (Nat.lt_trans hsl hsz) hself1, keep_b (bt b1 b2) (Nat.lt_trans hbw hsz) h31⟩ | exact ⟨(RN.later (bt (bt b1 b2) b3)).c0, keep_b (bt (bt b1 b2) b3) (Nat.lt_trans hsl hsz) hself1, keep_b (bt (bt b1 b2) b3) (Nat.lt_trans hbw hsz) h31⟩) (first | (go_at_call 74; refine HC.out.mono ?_; rintro e w1 ⟨rfl, b1⟩) | (go_at_call 75; refine (CF.out _ b1).mono ?_; rintro e w2 ⟨rfl, b2⟩) | (go_at_call 75; refine (CF.out _ (bt b1 b2)).mono ?_; rintro e w3 ⟨rfl, b3⟩) | (go_at_call 76; refine (CL.out _ b1).mono ?_; rintro e w2 ⟨rfl, b2⟩) | (go_at_call 76; refine (CL.out _ (bt b1 b2)).mono ?_; rintro e w3 ⟨rfl, b3⟩))
          all_goals
           have hself2 := keep_b (bt (bt b1 b2) b3) (Nat.lt_trans hsl hsz) hself1
           have hsz3 := (bt (bt b1 b2) b3).size
           have hb3 := al.trans ((bt (bt b1 b2) b3).mono (by omega))
           clear x1
           go_wp2_with fail
           go_roundw
           case rel => exact ⟨k + 1, by omega, by go_num, HK, hself2, by omega, hb3⟩
           case measure => simp [intOf]; omega
  · obtain rfl : k = xs.length := by omega
    clear hr
    have HV : Hid (inkB xs = decide (xs.length ≤ 16)) := by show _ = _; rw [inkB, hok.out]; rfl
    go_wp2_with fail
    go_ret
    exact ⟨ret_boolI (by rw [HV.out, decide_eq_decide]; omega), hb⟩
theorem inkB_stroke {xs : List PStroke} (h : inkB xs = true) {k : Nat} (hk : k < xs.length) : strokeB xs[k] = true := by
 simp only [inkB, Bool.and_eq_true] at h
 exact stOk_stroke hk (stsOk_get h.1 hk)
theorem inkB_few {xs : List PStroke} (h : inkB xs = true) : xs.length ≤ 16 := by
 simp only [inkB, Bool.and_eq_true, decide_eq_true_eq] at h
 exact h.2
end Go.Proofs.YtboijogahclekaaGreatDoor

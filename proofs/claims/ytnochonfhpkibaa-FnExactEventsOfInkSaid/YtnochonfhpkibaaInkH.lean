/- Ink: the events of ink, the reference's walk; EventsOfInk of both. Conditions: none. -/
import Derived.Test.YtnochonfhpkibaaInkG
import Derived.Test.YtnochonfhpkibaaInkF
namespace Go.Proofs.Ytnochonfhpkibaa
open Go Go.RowKit

set_option maxRecDepth 100000 in
set_option maxHeartbeats 1000000 in
theorem spec_l26Events_c {o : Bool} {pe e : TypeId} {xs : List PStroke} {v : Value} {F : List Nat} {g f : Nat} (w : World) (hg : w.cell? ⟨g, f, none⟩ = some v) (hgl : g < w.heap.size) (h : (pStrokes pe e).rep o w xs [v] F) (hok : inkB xs = true) :
    Calls Try.prog 15 #[.pointer (some ⟨g, f, none⟩)] w fun e w' => ∃ u G, e = .returned u ∧ (pEvents 47).rep true w' (inkEvents xs xs.length) [u] G ∧ Fresh w.heap.size G ∧ Below w.heap.size w w' := by
  obtain ⟨A, c, rfl, hc1, hc2, hr⟩ := pStrokes_open h
  have hfew := inkB_few hok
  have HOK := Lib.hid hok
  clear h hok
  go_enter Try.func15, Try.ntmps15
  go_wp2_with fail
  go_loopw [3, 4] (fun lv i wr => ∃ (k : Nat) (u : Value) (G : List Nat), k ≤ xs.length ∧ i = .int .i64 k ∧ u = lv ∧ (pEvents 47).rep true wr (inkEvents xs k) [u] G ∧ Fresh w.heap.size G ∧ Below w.heap.size w wr) (fun _ i _ => xs.length - (intOf i).toNat)
  case atStart => exact ⟨0, _, [w.heap.size], Nat.zero_le _, rfl, rfl, slice_of_row (xs := []) (Row.new w _ _) ⟨rfl, rfl⟩ (by simp [maxLen]), ⟨by simp, by simp⟩, (Below.refl _ _).alloc (Nat.le_refl _) _⟩
  case round =>
    obtain ⟨k, u, G, hk, rfl, rfl, hrep, hfr, hb⟩ := hrel
    obtain ⟨wo, hwo⟩ : ∃ x, x = wr := ⟨_, rfl⟩
    subst hwo
    have hbs := hb.size
    have hg2 := hg
    rw [← hb.cell (p := ⟨g, _, none⟩) hgl] at hg2
    have k0 : (0 : Int) ≤ (k : Int) := by omega
    by_cases hlt : k < xs.length
    · have kl' : (k : Int) < (xs.length : Int) := by omega
      obtain ⟨b, off, us, Fk, rfl, hbb, _, hrk, _, h0⟩ := hr k hlt
      have hst := inkB_stroke HOK.out hlt
      have hle : xs[k].length ≤ 1048576 := by have := strokeB_len hst; omega
      obtain ⟨AK, ck, rfl, hcK, _, hrp⟩ := pPoints_open hrk
      have CL := Lib.hid (fun w2 (bb : Below w.heap.size w w2) => spec_l02Last_c w2 ((bb.cell (p := ⟨b, _, none⟩) hbb).trans h0) (hrk.below bb) (strokeB_pos hst) hle)
      have hlk := strokeB_len hst
      have hsk := Lib.hid (strk_get hlt)
      have hev := Lib.hid (inkEvents_few HOK.out hk)
      have HREP := Lib.hid hrep
      have HFR := Lib.hid hfr
      clear hr hrk hst hrep hfr
      go_wp2_with fail
      go_loopw [3, 5] (fun lv i wr => ∃ (n : Nat) (u2 : Value) (G2 : List Nat), n ≤ xs[k].length ∧ i = .int .i64 n ∧ u2 = lv ∧ (pEvents 47).rep true wr (inkEvents xs k ++ ptEvents xs[k] n) [u2] G2 ∧ Fresh w.heap.size G2 ∧ Below w.heap.size w wr) (fun _ i _ => xs[k].length - (intOf i).toNat)
      case atStart => exact ⟨0, u, G, Nat.zero_le _, rfl, rfl, by rw [ptEvents, List.range_zero, List.map_nil, List.append_nil]; exact HREP.out, HFR.out, hb⟩
      case round =>
        obtain ⟨n, u2, G2, hn, rfl, rfl, hrep2, hfr2, hb2⟩ := hrel
        clear hg2
        have hbs2 := hb2.size
        have hg3 := hg
        rw [← hb2.cell (p := ⟨g, _, none⟩) hgl] at hg3
        have h03 := h0
        rw [← hb2.cell (p := ⟨b, _, none⟩) hbb] at h03
        have n0 : (0 : Int) ≤ (n : Int) := by omega
        by_cases hlt2 : n < xs[k].length
        · have nl' : (n : Int) < (xs[k].length : Int) := by omega
          obtain ⟨b1, o1, rfl, hb1, _, c0, c1, c2, i0, i1, i2⟩ := hrp n hlt2
          rw [← hb2.cell (p := ⟨b1, _, none⟩) hb1] at c0 c1 c2
          have HREP2 := Lib.hid hrep2
          have hlen : (inkEvents xs k ++ ptEvents xs[k] n).length ≤ 1100 := by rw [List.length_append, ptEvents_len]; have := hev.out; omega
          have HLEN := Lib.hid hlen
          have hpe : pt xs[k] n = xs[k][n] := pt_get hlt2
          have HPE := Lib.hid hpe
          clear hrp hrep2 hlen hpe
          by_cases hz : n = 0
          · have hev1 : Hid (ptEvent xs[k] n = ⟨1, xs[k][n].x, xs[k][n].y, xs[k][n].t⟩) := by show _ = _; unfold ptEvent; rw [HPE.out, if_pos hz]
            have gz : ((n : Int) == 0) = true := by rw [beq_iff_eq]; omega
            have i3 : I64 (1 : Int) := by unfold I64; omega
            clear hz
            go_wp2_with (at_builtin; refine wpList_append_repX (T := pEvent) (e := 47) (ys := [⟨1, xs[k][n].x, xs[k][n].y, xs[k][n].t⟩]) (ec := [.int .i64 1, .int .i64 xs[k][n].x, .int .i64 xs[k][n].y, .int .i64 xs[k][n].t]) rfl (.tmp 44) (.tmp 53) rfl Try.underlying26 infoEvent rfl (by decide) rfl ((HREP2.out.alloc _).alloc _) rfl (repL_pEvent _ (by intro s hs; simp at hs; subst hs; exact ⟨i3, i0, i1, i2⟩)) (cellsAt_at _ _ _ (by simp)) trivial (by rw [List.append_nil]; exact hfr2.1) (by have := HLEN.out; simp only [List.length_singleton, maxLen]; omega) (by have := HLEN.out; simp only [List.length_singleton]; omega) ?_; intro v2 w4 F2 r2 o2 q2 x2)
            have hsz4 := o2.size
            simp only [World.size_alloc] at hsz4
            have hb4 : Below w.heap.size w w4 := ((hb2.alloc hbs2 _).alloc (by simp; omega) _).trans (o2.below (by simp; omega) hfr2.2)
            have hf4 : Fresh w.heap.size F2 := q2 _ (by rw [List.append_nil]; exact hfr2) (by simp; omega)
            go_roundw
            case rel =>
              refine ⟨n + 1, v2, F2, by omega, by go_num, rfl, ?_, hf4, hb4⟩
              rw [ptEvents_succ, hev1.out, ← List.append_assoc]
              exact r2
            case measure => simp [intOf]; omega
          · have hev1 : Hid (ptEvent xs[k] n = ⟨2, xs[k][n].x, xs[k][n].y, xs[k][n].t⟩) := by show _ = _; unfold ptEvent; rw [HPE.out, if_neg hz]
            have gz : ((n : Int) == 0) = false := by rw [beq_eq_false_iff_ne]; omega
            have i3 : I64 (2 : Int) := by unfold I64; omega
            clear hz
            go_wp2_with (at_builtin; refine wpList_append_repX (T := pEvent) (e := 47) (ys := [⟨2, xs[k][n].x, xs[k][n].y, xs[k][n].t⟩]) (ec := [.int .i64 2, .int .i64 xs[k][n].x, .int .i64 xs[k][n].y, .int .i64 xs[k][n].t]) rfl (.tmp 44) (.tmp 53) rfl Try.underlying26 infoEvent rfl (by decide) rfl ((HREP2.out.alloc _).alloc _) rfl (repL_pEvent _ (by intro s hs; simp at hs; subst hs; exact ⟨i3, i0, i1, i2⟩)) (cellsAt_at _ _ _ (by simp)) trivial (by rw [List.append_nil]; exact hfr2.1) (by have := HLEN.out; simp only [List.length_singleton, maxLen]; omega) (by have := HLEN.out; simp only [List.length_singleton]; omega) ?_; intro v2 w4 F2 r2 o2 q2 x2)
            have hsz4 := o2.size
            simp only [World.size_alloc] at hsz4
            have hb4 : Below w.heap.size w w4 := ((hb2.alloc hbs2 _).alloc (by simp; omega) _).trans (o2.below (by simp; omega) hfr2.2)
            have hf4 : Fresh w.heap.size F2 := q2 _ (by rw [List.append_nil]; exact hfr2) (by simp; omega)
            go_roundw
            case rel =>
              refine ⟨n + 1, v2, F2, by omega, by go_num, rfl, ?_, hf4, hb4⟩
              rw [ptEvents_succ, hev1.out, ← List.append_assoc]
              exact r2
            case measure => simp [intOf]; omega
        · obtain rfl : n = xs[k].length := by omega
          have HREP2 := Lib.hid hrep2
          have hlen : (inkEvents xs k ++ ptEvents xs[k] xs[k].length).length ≤ 1100 := by rw [List.length_append, ptEvents_len]; have := hev.out; omega
          have HLEN := Lib.hid hlen
          have hpk := strokeB_pos (inkB_stroke HOK.out hlt)
          have HI : Hid (I64 (lastT xs[k])) := by
            show I64 _
            have jl : xs[k].length - 1 < xs[k].length := by omega
            obtain ⟨_, _, _, _, _, _, _, _, _, _, i2⟩ := hrp _ jl
            unfold lastT
            rw [pt_get jl]
            exact i2
          generalize hlt : lastT xs[k] = lt at CL HI
          have HLT := Lib.hid hlt
          clear hrp hrep2 hlen hlt
          go_wp2_with fail
          refine (CL.out _ hb2).mono ?_
          rintro e w3 ⟨rfl, n3, rfl⟩
          have hb3 : Below w.heap.size w (wr.drewN n3) := below_drewN hb2 _
          have hbs3 := hb3.size
          have i3 : I64 (3 : Int) := by unfold I64; omega
          have iz : I64 (0 : Int) := by unfold I64; omega
          go_wp2_with (at_builtin; refine wpList_append_repX (T := pEvent) (e := 47) (ys := [⟨3, 0, 0, lt⟩]) (ec := [.int .i64 3, .int .i64 0, .int .i64 0, .int .i64 lt]) rfl (.tmp 55) (.tmp 64) rfl Try.underlying26 infoEvent rfl (by decide) rfl ((HREP2.out.drewN n3).alloc _) rfl (repL_pEvent _ (by intro s hs; simp at hs; subst hs; exact ⟨i3, iz, iz, HI.out⟩)) (cellsAt_at _ _ _ (by simp)) trivial (by rw [List.append_nil]; exact hfr2.1) (by have := HLEN.out; simp only [List.length_singleton, maxLen]; omega) (by have := HLEN.out; simp only [List.length_singleton]; omega) ?_; intro v2 w4 F2 r2 o2 q2 x2)
          have hsz4 := o2.size
          simp only [World.size_alloc] at hsz4
          have hb4 : Below w.heap.size w w4 := (hb3.alloc hbs3 _).trans (o2.below (by simp; omega) hfr2.2)
          have hf4 : Fresh w.heap.size F2 := q2 _ (by rw [List.append_nil]; exact hfr2) (by simp; omega)
          go_roundw
          case rel =>
            refine ⟨k + 1, v2, F2, by omega, by go_num, rfl, ?_, hf4, hb4⟩
            rw [inkEvents_succ, hsk.out, upEvent, HLT.out]
            exact r2
          case measure => simp [intOf]; omega
    · obtain rfl : k = xs.length := by omega
      clear hr
      go_wp2_with fail
      go_ret
      exact ⟨_, _, rfl, hrep, hfr, hb⟩
/-- What EventsOfInk gives. -/
def evF (xs : List PStroke) : List PEvent := if inkB xs then inkEvents xs xs.length else []
def evC (xs : List PStroke) : Int := if inkB xs then 0 else 1
/-- Events and a code, in memory of their own. -/
def GivesEvents (e : TypeId) (l : List PEvent) (c : Int) (w : World) (en : Ending) (w' : World) : Prop :=
  ∃ u G, en = .returned (.tuple #[u, .int .i64 c]) ∧ (pEvents e).rep true w' l [u] G ∧ Fresh w.heap.size G ∧ Below w.heap.size w w'
set_option maxRecDepth 100000 in
set_option maxHeartbeats 400000 in
theorem impl_EventsOfInk_c {o : Bool} {pe e : TypeId} {xs : List PStroke} {v : Value} {F : List Nat} (w : World) (h : (pStrokes pe e).rep o w xs [v] F) (hx : xs.length ≤ 1048576) (hxe : ∀ l ∈ xs, l.length ≤ 1048576) :
    Calls Try.prog 7 #[.agg #[v]] w (GivesEvents 47 (evF xs) (evC xs) w) := by
  have CV := fun w' (q : (pStrokes pe e).rep o w' xs [v] F) => impl_ValidInk_c w' q hx hxe
  have al : ∀ x : Obj, Below w.heap.size w (w.alloc x) := fun x => (Below.refl _ _).alloc (Nat.le_refl _) x
  obtain ⟨A, k, rfl⟩ := slice_len h
  cases hv : inkB xs
  · simp only [hv] at CV
    have HC := Lib.hid CV
    have HE : Hid (evF xs = [] ∧ evC xs = 1) := by show _ ∧ _; simp [evF, evC, hv]
    clear CV hv
    go_enter Try.func7, Try.ntmps7
    go_wp2_with fail
    refine (HC.out _ (h.alloc _)).mono ?_
    rintro e w1 ⟨rfl, b1⟩
    go_wp2_with fail
    go_ret2
    rw [HE.out.1, HE.out.2]
    exact ⟨_, [], rfl, slice_nil _ _ _ _, ⟨by simp, by simp⟩, (al _).trans (b1.mono (by simp))⟩
  · simp only [hv] at CV
    have HC := Lib.hid CV
    have HE : Hid (evF xs = inkEvents xs xs.length ∧ evC xs = 0) := by show _ ∧ _; simp [evF, evC, hv]
    have HX := Lib.hid (fun w' (q : (pStrokes pe e).rep o w' xs [.slice A xs.length k] F) => impl_eventsOfInk_c w' q hv)
    have R := Row.new w 31 #[.slice A xs.length k]
    clear CV hv
    go_enter Try.func7, Try.ntmps7
    go_wp2_with fail
    refine (HC.out _ (h.alloc _)).mono ?_
    rintro e w1 ⟨rfl, b1⟩
    have hc1 := (R.later b1).cell' (i := 0) rfl
    have bb := (al (.cells #[.slice A xs.length k] 31)).trans (b1.mono (by simp))
    have h1 := (h.alloc (.cells #[.slice A xs.length k] 31)).below b1
    clear R b1
    go_wp2_with fail
    refine (HX.out _ h1).mono ?_
    rintro e w2 ⟨u, G, rfl, r2, f2, b2⟩
    go_wp2_with fail
    go_ret2
    rw [HE.out.1, HE.out.2]
    exact ⟨_, _, rfl, r2, f2.mono bb.size, bt bb b2⟩
set_option maxRecDepth 100000 in
set_option maxHeartbeats 400000 in
theorem spec_EventsOfInk_c {o : Bool} {pe e : TypeId} {xs : List PStroke} {v : Value} {F : List Nat} (w : World) (h : (pStrokes pe e).rep o w xs [v] F) (hx : xs.length ≤ 1048576) (hxe : ∀ l ∈ xs, l.length ≤ 1048576) :
    Calls Try.prog 5 #[.agg #[v]] w (GivesEvents 47 (evF xs) (evC xs) w) := by
  obtain ⟨A, k, rfl⟩ := slice_len h
  have R := Row.new w 31 #[.slice A xs.length k]
  have CV := spec_l02Ok_c _ (R.cell' (i := 0) rfl) (by simp) (h.alloc _) hx hxe
  have al : ∀ x : Obj, Below w.heap.size w (w.alloc x) := fun x => (Below.refl _ _).alloc (Nat.le_refl _) x
  cases hv : inkB xs
  · simp only [hv] at CV
    have HC := Lib.hid CV
    have HE : Hid (evF xs = [] ∧ evC xs = 1) := by show _ ∧ _; simp [evF, evC, hv]
    clear CV hv
    go_enter Try.func5, Try.ntmps5
    go_wp2_with fail
    refine HC.out.mono ?_
    rintro e w1 ⟨rfl, b1⟩
    go_wp2_with fail
    go_ret2
    rw [HE.out.1, HE.out.2]
    exact ⟨_, [], rfl, slice_nil _ _ _ _, ⟨by simp, by simp⟩, (al _).trans (b1.mono (by simp))⟩
  · simp only [hv] at CV
    have HC := Lib.hid CV
    have HE : Hid (evF xs = inkEvents xs xs.length ∧ evC xs = 0) := by show _ ∧ _; simp [evF, evC, hv]
    have HX := Lib.hid (fun w' (hc : w'.cell? ⟨w.heap.size, 0, none⟩ = some (.slice A xs.length k)) (hl : w.heap.size < w'.heap.size) (q : (pStrokes pe e).rep o w' xs [.slice A xs.length k] F) => spec_l26Events_c w' hc hl q hv)
    clear CV hv
    go_enter Try.func5, Try.ntmps5
    go_wp2_with fail
    refine HC.out.mono ?_
    rintro e w1 ⟨rfl, b1⟩
    have hc1 := (R.later b1).cell' (i := 0) rfl
    have hl1 := (R.later b1).lt
    have bb := (al (.cells #[.slice A xs.length k] 31)).trans (b1.mono (by simp))
    have h1 := (h.alloc (.cells #[.slice A xs.length k] 31)).below b1
    clear R b1
    go_wp2_with fail
    refine (HX.out _ hc1 hl1 h1).mono ?_
    rintro e w2 ⟨u, G, rfl, r2, f2, b2⟩
    go_wp2_with fail
    go_ret2
    rw [HE.out.1, HE.out.2]
    exact ⟨_, _, rfl, r2, f2.mono bb.size, bt bb b2⟩
end Go.Proofs.Ytnochonfhpkibaa

/- Ink: the events of ink, plainly, and the program's walk. Conditions: none. -/
import Derived.Test.YtnochonfhpkibaaInkD
import Derived.Test.YtnochonfhpkibaaTyEvent
import Derived.Test.YtnochonfhpkibaaAppend
namespace Go.Proofs.Ytnochonfhpkibaa
open Go Go.RowKit

def ptEvent (s : PStroke) (k : Nat) : PEvent := ⟨if k = 0 then 1 else 2, (pt s k).x, (pt s k).y, (pt s k).t⟩
/-- The events of the first n points. -/
def ptEvents (s : PStroke) (n : Nat) : List PEvent := (List.range n).map (ptEvent s)
def upEvent (s : PStroke) : PEvent := ⟨3, 0, 0, lastT s⟩
/-- The events of the first n strokes. -/
def inkEvents (xs : List PStroke) (n : Nat) : List PEvent := (List.range n).flatMap fun k => ptEvents (strk xs k) (strk xs k).length ++ [upEvent (strk xs k)]
theorem ptEvents_succ (s : PStroke) (n : Nat) : ptEvents s (n + 1) = ptEvents s n ++ [ptEvent s n] := by simp [ptEvents, List.range_succ]
theorem ptEvents_len (s : PStroke) (n : Nat) : (ptEvents s n).length = n := by simp [ptEvents]
theorem inkEvents_succ (xs : List PStroke) (n : Nat) : inkEvents xs (n + 1) = (inkEvents xs n ++ ptEvents (strk xs n) (strk xs n).length) ++ [upEvent (strk xs n)] := by simp [inkEvents, List.range_succ]
theorem inkEvents_len {xs : List PStroke} (h : ∀ k, k < xs.length → (strk xs k).length ≤ 60) : ∀ n, n ≤ xs.length → (inkEvents xs n).length ≤ n * 61
  | 0, _ => by simp [inkEvents]
  | n + 1, hn => by
    have h1 := inkEvents_len h n (by omega)
    have h2 := h n (by omega)
    rw [inkEvents_succ]
    simp only [List.length_append, List.length_cons, List.length_nil, ptEvents_len]
    omega
theorem strokeB_len {s : PStroke} (h : strokeB s = true) : s.length ≤ 60 := by
  simp only [strokeB, Bool.and_eq_true, decide_eq_true_eq] at h
  omega
theorem inkB_stroke {xs : List PStroke} (h : inkB xs = true) {k : Nat} (hk : k < xs.length) : strokeB xs[k] = true := by
  simp only [inkB, Bool.and_eq_true] at h
  exact stOk_stroke hk (stsOk_get h.1 hk)
theorem inkB_few {xs : List PStroke} (h : inkB xs = true) : xs.length ≤ 16 := by
  simp only [inkB, Bool.and_eq_true, decide_eq_true_eq] at h
  exact h.2
theorem inkEvents_few {xs : List PStroke} (h : inkB xs = true) {n : Nat} (hn : n ≤ xs.length) : (inkEvents xs n).length ≤ 976 := by
  have h1 := inkEvents_len (xs := xs) (fun k hk => by rw [strk_get hk]; exact strokeB_len (inkB_stroke h hk)) n hn
  have h2 := inkB_few h
  omega
theorem infoEvent : (Try.prog.info? 47).map (fun i => (i.zero, i.size, i.bytes)) = some (some (.agg #[.int .i64 0, .int .i64 0, .int .i64 0, .int .i64 0]), pEvent.size, 32) := by kernel_rfl
theorem only_cell {F : List Nat} {a b : World} (h : Only F a b) {g i : Nat} (hg : g < a.heap.size) (hn : g ∉ F) : b.cell? ⟨g, i, none⟩ = a.cell? ⟨g, i, none⟩ := by
  have := h.block g hg hn
  simp [World.cell?, this]
theorem cellsAt_at (w : World) (e : TypeId) (cs : List Value) {n : Nat} (hn : n = w.heap.size) : CellsAt (w.alloc (.cells cs.toArray e)) (some ⟨n, 0, none⟩) cs := hn ▸ cellsAt_new w e cs
set_option maxRecDepth 100000 in
set_option maxHeartbeats 1000000 in
theorem impl_eventsOfInk_c {o : Bool} {pe e : TypeId} {xs : List PStroke} {v : Value} {F : List Nat} (w : World) (h : (pStrokes pe e).rep o w xs [v] F) (hok : inkB xs = true) :
    Calls Try.prog 18 #[.agg #[v]] w fun e w' => ∃ u G, e = .returned u ∧ (pEvents 47).rep true w' (inkEvents xs xs.length) [u] G ∧ Fresh w.heap.size G ∧ Below w.heap.size w w' := by
  obtain ⟨A, c, rfl, hc1, hc2, hr⟩ := pStrokes_open h
  have hfew := inkB_few hok
  have HOK := Lib.hid hok
  clear h hok
  have hfd : ∀ (x y z : Int) (w : World), (Instr.field 60 (.agg #[.int .i64 x, .int .i64 y, .int .i64 z]) 2).run Try.prog w = .ok (.int .i64 z) w := fun _ _ _ _ => by kernel_rfl
  go_enter Try.func18, Try.ntmps18
  go_wp2_with fail
  go_loopw [3, 12] (fun lv i wr => ∃ (k : Nat) (u : Value) (G : List Nat), k ≤ xs.length ∧ i = .int .i64 k ∧ u = lv ∧ (pEvents 47).rep true wr (inkEvents xs k) [u] G ∧ Fresh w.heap.size G ∧ Below w.heap.size w wr) (fun _ i _ => xs.length - (intOf i).toNat)
  case atStart => exact ⟨0, _, [], Nat.zero_le _, rfl, rfl, slice_nil _ _ _ _, ⟨by simp, by simp⟩, (Below.refl _ _).alloc (Nat.le_refl _) _⟩
  case round =>
    obtain ⟨k, u, G, hk, rfl, rfl, hrep, hfr, hb⟩ := hrel
    obtain ⟨wo, hwo⟩ : ∃ x, x = wr := ⟨_, rfl⟩
    subst hwo
    have hbs := hb.size
    by_cases hlt : k < xs.length
    · obtain ⟨b, off, us, Fk, rfl, hbb, _, hrk, _, h0⟩ := hr k hlt
      rw [← hb.cell (p := ⟨b, _, none⟩) hbb] at h0
      have hst := inkB_stroke HOK.out hlt
      have QK := Lib.hid hrk
      have CL := Lib.hid (fun w2 (bb : Below w.heap.size w w2) => impl_lastOf_c w2 (hrk.below bb) (strokeB_pos hst) (by have := strokeB_len hst; omega))
      obtain ⟨AK, ck, rfl, hcK, _, hrp⟩ := pPoints_open hrk
      have hpk := strokeB_pos hst
      have hlk := strokeB_len hst
      have hsk := Lib.hid (strk_get hlt)
      have hev := Lib.hid (inkEvents_few HOK.out hk)
      have HREP := Lib.hid hrep
      have HFR := Lib.hid hfr
      have hnG : wo.heap.size ∉ G := fun hin => by have := (pEvents 47).lt hrep _ hin; omega
      clear hr hrk hst hrep hfr
      go_wp2_with fail
      go_loopw [3, 19] (fun lv i wr => ∃ (n : Nat) (u2 : Value) (G2 : List Nat), n ≤ xs[k].length ∧ i = .int .i64 n ∧ u2 = lv ∧ (pEvents 47).rep true wr (inkEvents xs k ++ ptEvents xs[k] n) [u2] G2 ∧ Fresh w.heap.size G2 ∧ wo.heap.size ∉ G2 ∧ wr.cell? ⟨wo.heap.size, 0, none⟩ = some (.slice AK xs[k].length ck) ∧ wo.heap.size < wr.heap.size ∧ Below w.heap.size w wr) (fun _ i _ => xs[k].length - (intOf i).toNat)
      case atStart => exact ⟨0, u, G, Nat.zero_le _, rfl, rfl, by rw [ptEvents, List.range_zero, List.map_nil, List.append_nil]; exact HREP.out.alloc _, HFR.out, hnG, by simp, by simp, hb.alloc hbs _⟩
      case round =>
        obtain ⟨n, u2, G2, hn, rfl, rfl, hrep2, hfr2, hnG2, hst, hsz, hb2⟩ := hrel
        have hbs2 := hb2.size
        by_cases hlt2 : n < xs[k].length
        · obtain ⟨b1, o1, rfl, hb1, _, c0, c1, c2, i0, i1, i2⟩ := hrp n hlt2
          rw [← hb2.cell (p := ⟨b1, _, none⟩) hb1] at c0 c1 c2
          have HREP2 := Lib.hid hrep2
          have hlen : (inkEvents xs k ++ ptEvents xs[k] n).length ≤ 1100 := by rw [List.length_append, ptEvents_len]; have := hev.out; omega
          have HLEN := Lib.hid hlen
          have hpe : pt xs[k] n = xs[k][n] := pt_get hlt2
          have HPE := Lib.hid hpe
          clear hrp hrep2 hlen hpe
          by_cases hz : n = 0
          · have hev1 : Hid (ptEvent xs[k] n = ⟨1, xs[k][n].x, xs[k][n].y, xs[k][n].t⟩) := by show _ = _; unfold ptEvent; rw [HPE.out, if_pos hz]
            have gz : ((n : Int) == 0) = true := by rw [beq_iff_eq]; omega
            have i3 : I64 (1 : Int) := by unfold I64; omega
            clear hz
            go_wp2_with (at_builtin; refine wpList_append_repX (T := pEvent) (e := 47) (ys := [⟨1, xs[k][n].x, xs[k][n].y, xs[k][n].t⟩]) (ec := [.int .i64 1, .int .i64 xs[k][n].x, .int .i64 xs[k][n].y, .int .i64 xs[k][n].t]) rfl (.tmp 26) (.tmp 35) rfl Try.underlying26 infoEvent rfl (by decide) rfl ((HREP2.out.alloc _).alloc _) rfl (repL_pEvent _ (by intro s hs; simp at hs; subst hs; exact ⟨i3, i0, i1, i2⟩)) (cellsAt_at _ _ _ (by simp)) trivial (by rw [List.append_nil]; exact hfr2.1) (by have := HLEN.out; simp only [List.length_singleton, maxLen]; omega) (by have := HLEN.out; simp only [List.length_singleton]; omega) ?_; intro v2 w4 F2 r2 o2 q2 x2)
            have hsz4 := o2.size
            simp only [World.size_alloc] at hsz4
            have hc2 : w4.cell? ⟨wo.heap.size, 0, none⟩ = some (.slice (some ⟨b1, o1, none⟩) xs[k].length ck) := by
              have hs1 : ((wr.alloc (.cells #[.int .i64 xs[k][n].x, .int .i64 xs[k][n].y, .int .i64 xs[k][n].t] 60)).alloc (.cells #[.int .i64 1, .int .i64 xs[k][n].x, .int .i64 xs[k][n].y, .int .i64 xs[k][n].t] 47)).cell? ⟨wo.heap.size, 0, none⟩ = some (.slice (some ⟨b1, o1, none⟩) xs[k].length ck) :=
                (World.cell?_alloc_past _ _ _ (by simp; omega)).trans ((World.cell?_alloc_past _ _ _ hsz).trans hst)
              exact (only_cell o2 (by simp; omega) hnG2).trans hs1
            have hb4 : Below w.heap.size w w4 := ((hb2.alloc hbs2 _).alloc (by simp; omega) _).trans (o2.below (by simp; omega) hfr2.2)
            have hf4 : Fresh w.heap.size F2 := q2 _ (by rw [List.append_nil]; exact hfr2) (by simp; omega)
            have hn4 : wo.heap.size ∉ F2 := fun hin => by
              rcases x2.1 _ hin with h5 | h5
              · rw [List.append_nil] at h5; exact hnG2 h5
              · simp only [World.size_alloc] at h5; omega
            go_roundw
            case rel =>
              refine ⟨n + 1, v2, F2, by omega, by go_num, rfl, ?_, hf4, hn4, hc2, by omega, hb4⟩
              rw [ptEvents_succ, hev1.out, ← List.append_assoc]
              exact r2
            case measure => simp [intOf]; omega
          · have hev1 : Hid (ptEvent xs[k] n = ⟨2, xs[k][n].x, xs[k][n].y, xs[k][n].t⟩) := by show _ = _; unfold ptEvent; rw [HPE.out, if_neg hz]
            have gz : ((n : Int) == 0) = false := by rw [beq_eq_false_iff_ne]; omega
            have i3 : I64 (2 : Int) := by unfold I64; omega
            clear hz
            go_wp2_with (at_builtin; refine wpList_append_repX (T := pEvent) (e := 47) (ys := [⟨2, xs[k][n].x, xs[k][n].y, xs[k][n].t⟩]) (ec := [.int .i64 2, .int .i64 xs[k][n].x, .int .i64 xs[k][n].y, .int .i64 xs[k][n].t]) rfl (.tmp 26) (.tmp 35) rfl Try.underlying26 infoEvent rfl (by decide) rfl ((HREP2.out.alloc _).alloc _) rfl (repL_pEvent _ (by intro s hs; simp at hs; subst hs; exact ⟨i3, i0, i1, i2⟩)) (cellsAt_at _ _ _ (by simp)) trivial (by rw [List.append_nil]; exact hfr2.1) (by have := HLEN.out; simp only [List.length_singleton, maxLen]; omega) (by have := HLEN.out; simp only [List.length_singleton]; omega) ?_; intro v2 w4 F2 r2 o2 q2 x2)
            have hsz4 := o2.size
            simp only [World.size_alloc] at hsz4
            have hc2 : w4.cell? ⟨wo.heap.size, 0, none⟩ = some (.slice (some ⟨b1, o1, none⟩) xs[k].length ck) := by
              have hs1 : ((wr.alloc (.cells #[.int .i64 xs[k][n].x, .int .i64 xs[k][n].y, .int .i64 xs[k][n].t] 60)).alloc (.cells #[.int .i64 2, .int .i64 xs[k][n].x, .int .i64 xs[k][n].y, .int .i64 xs[k][n].t] 47)).cell? ⟨wo.heap.size, 0, none⟩ = some (.slice (some ⟨b1, o1, none⟩) xs[k].length ck) :=
                (World.cell?_alloc_past _ _ _ (by simp; omega)).trans ((World.cell?_alloc_past _ _ _ hsz).trans hst)
              exact (only_cell o2 (by simp; omega) hnG2).trans hs1
            have hb4 : Below w.heap.size w w4 := ((hb2.alloc hbs2 _).alloc (by simp; omega) _).trans (o2.below (by simp; omega) hfr2.2)
            have hf4 : Fresh w.heap.size F2 := q2 _ (by rw [List.append_nil]; exact hfr2) (by simp; omega)
            have hn4 : wo.heap.size ∉ F2 := fun hin => by
              rcases x2.1 _ hin with h5 | h5
              · rw [List.append_nil] at h5; exact hnG2 h5
              · simp only [World.size_alloc] at h5; omega
            go_roundw
            case rel =>
              refine ⟨n + 1, v2, F2, by omega, by go_num, rfl, ?_, hf4, hn4, hc2, by omega, hb4⟩
              rw [ptEvents_succ, hev1.out, ← List.append_assoc]
              exact r2
            case measure => simp [intOf]; omega
        · obtain rfl : n = xs[k].length := by omega
          have HREP2 := Lib.hid hrep2
          have hlen : (inkEvents xs k ++ ptEvents xs[k] xs[k].length).length ≤ 1100 := by rw [List.length_append, ptEvents_len]; have := hev.out; omega
          have HLEN := Lib.hid hlen
          obtain ⟨j, hj⟩ : ∃ j, xs[k].length = j + 1 := ⟨xs[k].length - 1, by omega⟩
          have HI : Hid (I64 (lastT xs[k])) := by
            show I64 _
            have jl : j < xs[k].length := by omega
            obtain ⟨_, _, _, _, _, _, _, _, _, _, i2⟩ := hrp j jl
            unfold lastT
            rw [show xs[k].length - 1 = j by omega, pt_get jl]
            exact i2
          have HJ := Lib.hid hj
          have elt : (pt xs[k] (xs[k].length - 1)).t = lastT xs[k] := rfl
          rw [elt] at CL
          generalize hlt : lastT xs[k] = lt at CL HI
          have HLT := Lib.hid hlt
          clear hrp hrep2 hlen hj hlt elt
          go_wp2_with fail
          refine (CL.out _ hb2).mono ?_
          rintro e w3 ⟨rfl, b3⟩
          have hb3 : Below w.heap.size w w3 := hb2.trans (b3.mono hbs2)
          have hbs3 := hb3.size
          have i3 : I64 (3 : Int) := by unfold I64; omega
          have iz : I64 (0 : Int) := by unfold I64; omega
          go_wp2_with (at_builtin; refine wpList_append_repX (T := pEvent) (e := 47) (ys := [⟨3, 0, 0, lt⟩]) (ec := [.int .i64 3, .int .i64 0, .int .i64 0, .int .i64 lt]) rfl (.tmp 38) (.tmp 43) rfl Try.underlying26 infoEvent rfl (by decide) rfl ((HREP2.out.below b3).alloc _) rfl (repL_pEvent _ (by intro s hs; simp at hs; subst hs; exact ⟨i3, iz, iz, HI.out⟩)) (cellsAt_at _ _ _ (by simp)) trivial (by rw [List.append_nil]; exact hfr2.1) (by have := HLEN.out; simp only [List.length_singleton, maxLen]; omega) (by have := HLEN.out; simp only [List.length_singleton]; omega) ?_; intro v2 w4 F2 r2 o2 q2 x2)
          have hsz4 := o2.size
          simp only [World.size_alloc] at hsz4
          have hb4 : Below w.heap.size w w4 := (hb3.alloc hbs3 _).trans (o2.below (by simp; omega) hfr2.2)
          have hf4 : Fresh w.heap.size F2 := q2 _ (by rw [List.append_nil]; exact hfr2) (by simp; omega)
          go_roundw
          case rel =>
            refine ⟨k + 1, v2, F2, by omega, by go_num, rfl, ?_, hf4, hb4⟩
            rw [inkEvents_succ, hsk.out, upEvent, HLT.out]
            exact r2
          case measure => simp [intOf]; omega
    · obtain rfl : k = xs.length := by omega
      clear hr
      go_wp2_with fail
      go_ret
      exact ⟨_, _, rfl, hrep, hfr, hb⟩
end Go.Proofs.Ytnochonfhpkibaa

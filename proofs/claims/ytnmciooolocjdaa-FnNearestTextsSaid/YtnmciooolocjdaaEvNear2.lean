/- The nearest texts: the reference's walk. Conditions: none. -/
import Derived.Test.YtnmciooolocjdaaEvNear
import Derived.Test.YtnmciooolocjdaaEvAlign3
namespace Go.Proofs.Ytnmciooolocjdaa
open Go Go.RowKit

theorem all_take {xs : List ByteArray} {k : Nat} (h : k < xs.length) : (xs.take (k + 1)).all shortB = ((xs.take k).all shortB && shortB xs[k]) := by
  rw [List.take_succ_eq_append_getElem h, List.all_append]; simp

set_option maxRecDepth 100000 in
set_option maxHeartbeats 1000000 in
theorem spec_NearestTexts_c {e : TypeId} {xs : List ByteArray} {v : Value} {F : List Nat} (text : ByteArray) (w : World) (h : (strs e).rep true w xs [v] F) (hl : xs.length ≤ 1048576) (hx : ∀ s ∈ xs, s.size ≤ 1048576) (ht : text.size ≤ 1048576) :
    Calls Try.prog 7 #[v, .string text] w (GivesNear 2 (nearF xs text) (nearL xs text) (nearC xs text) w) := by
  obtain ⟨A, c, rfl, hc1, hc2, hr⟩ := strs_open h
  unfold maxLen at hc2
  go_enter Try.func7, Try.ntmps7
  go_wp2_with fail
  refine (spec_l25Text_c text _).mono ?_
  rintro e w1 ⟨rfl, rfl⟩
  go_wp2_with fail
  go_loopw [7, 8] (fun g i wr => ∃ k : Nat, k ≤ xs.length ∧ i = .int .i64 (k : Int) ∧ g = .bool (shortB text && (xs.take k).all shortB) ∧ Below w.heap.size w wr) (fun _ i _ => xs.length - (intOf i).toNat)
  case atStart => exact ⟨0, Nat.zero_le _, rfl, by simp, Below.refl _ _⟩
  case round =>
    obtain ⟨k, hk, rfl, rfl, hb⟩ := hrel
    have hbs := hb.size
    by_cases hlt : k < xs.length
    · obtain ⟨b, off, rfl, hbb, _, h0, _⟩ := hr k hlt
      rw [← hb.cell (p := ⟨b, _, none⟩) hbb] at h0
      have HT := Lib.hid (all_take hlt)
      cases hg : (shortB text && (xs.take k).all shortB)
      · have HG : Hid ((shortB text && (xs.take (k + 1)).all shortB) = false) := by
          show _ = _; rw [HT.out, ← Bool.and_assoc, hg]; rfl
        clear hg hr
        go_wp2_with fail
        go_roundw
        case rel => exact ⟨k + 1, by omega, by go_num, by rw [HG.out], hb⟩
        case measure => simp [intOf]; omega
      · have HG : Hid ((shortB text && (xs.take (k + 1)).all shortB) = shortB xs[k]) := by
          show _ = _; rw [HT.out, ← Bool.and_assoc, hg]; rfl
        clear hg hr
        go_wp2_with fail
        refine (spec_l25Text_c xs[k] _).mono ?_
        rintro e w1 ⟨rfl, rfl⟩
        go_wp2_with fail
        go_roundw
        case rel => exact ⟨k + 1, by omega, by go_num, by rw [HG.out], hb⟩
        case measure => simp [intOf]; omega
    · obtain rfl : k = xs.length := by omega
      rw [List.take_length]
      cases hg : (shortB text && xs.all shortB)
      · have ok : nearOk xs text = false := by simp only [nearOk, ← Bool.and_assoc, hg]; rfl
        have HE : Hid (nearF xs text = [] ∧ nearL xs text = 0 ∧ nearC xs text = 5) := by show _ ∧ _; simp [nearF, nearL, nearC, ok]
        clear hg ok
        go_wp2_with fail
        go_ret3
        obtain ⟨h1, h2, h3⟩ := HE.out
        rw [h1, h2, h3]
        exact ⟨_, [], rfl, slice_nil _ _ _ _, ⟨by simp, by simp⟩, hb⟩
      · by_cases h100 : 100 < xs.length
        · have g : (100 : Int) < (xs.length : Int) := by omega
          have ok : nearOk xs text = false := by simp [nearOk, h100]
          have HE : Hid (nearF xs text = [] ∧ nearL xs text = 0 ∧ nearC xs text = 5) := by show _ ∧ _; simp [nearF, nearL, nearC, ok]
          clear hg ok
          go_wp2_with fail
          go_ret3
          obtain ⟨h1, h2, h3⟩ := HE.out
          rw [h1, h2, h3]
          exact ⟨_, [], rfl, slice_nil _ _ _ _, ⟨by simp, by simp⟩, hb⟩
        · have g : ¬ (100 : Int) < (xs.length : Int) := by omega
          have ok : nearOk xs text = true := by simp only [nearOk, ← Bool.and_assoc, hg]; simp; omega
          by_cases hz : xs.length = 0
          · have HE : Hid (nearF xs text = [] ∧ nearL xs text = 0 ∧ nearC xs text = 3) := by show _ ∧ _; simp [nearF, nearL, nearC, ok, hz, nearK]
            have gz : ((xs.length : Int) == 0) = true := by rw [beq_iff_eq]; omega
            clear hg ok hz
            go_wp2_with fail
            go_ret3
            obtain ⟨h1, h2, h3⟩ := HE.out
            rw [h1, h2, h3]
            exact ⟨_, [], rfl, slice_nil _ _ _ _, ⟨by simp, by simp⟩, hb⟩
          · have HE : Hid (nearF xs text = (nearK xs text xs.length).1 ∧ nearL xs text = (nearK xs text xs.length).2 ∧ nearC xs text = 0) := by show _ ∧ _; simp [nearF, nearL, nearC, ok, hz]
            have gz : ((xs.length : Int) == 0) = false := by rw [beq_eq_false_iff_ne]; omega
            clear hg ok
            go_wp2_with fail
            go_loopw [9, 10, 11] (fun fv lv iv wr => ∃ (k : Nat) (u : Value) (G : List Nat), k ≤ xs.length ∧ iv = .int .i64 (k : Int) ∧ u = fv ∧ (nums 2).rep true wr (nearK xs text k).1 [u] G ∧ Fresh w.heap.size G ∧ (∃ l : Int, lv = .int .i64 l ∧ (k = 0 ∧ l = 0 ∨ k ≠ 0 ∧ l = (nearK xs text k).2)) ∧ Below w.heap.size w wr) (fun _ _ iv _ => xs.length - (intOf iv).toNat)
            case atStart => exact ⟨0, _, [wr.heap.size], Nat.zero_le _, rfl, rfl, slice_of_row (xs := []) (Row.new wr _ #[]) ⟨rfl, rfl⟩ (by simp), ⟨by simp, by simpa using hb.size⟩, ⟨0, rfl, Or.inl ⟨rfl, rfl⟩⟩, hb.alloc hb.size _⟩
            case round =>
              obtain ⟨k, u, G, hk, rfl, rfl, hrep, hfr, ⟨L, rfl, hL⟩, hb⟩ := hrel
              have hbs := hb.size
              by_cases hlt : k < xs.length
              · obtain ⟨b, off, rfl, hbb, _, h0, _⟩ := hr k hlt
                rw [← hb.cell (p := ⟨b, _, none⟩) hbb] at h0
                have hsz := hx _ (List.getElem_mem hlt)
                have HSZ := Lib.hid hsz
                obtain ⟨n1, n2, n3, n4, n5⟩ := nearK_range hx ht k
                have HD : (edist xs[k] text : Int) ≤ 2097152 := by have := edist_le xs[k] text; omega
                have hstep : nearK xs text (k + 1) = if (nearK xs text k).2 < 0 ∨ (edist xs[k] text : Int) < (nearK xs text k).2 then ([(k : Int)], (edist xs[k] text : Int)) else if (edist xs[k] text : Int) = (nearK xs text k).2 then ((nearK xs text k).1 ++ [(k : Int)], (nearK xs text k).2) else nearK xs text k := by
                  rw [nearK]; simp [List.getD_eq_getElem?_getD, List.getElem?_eq_getElem hlt]
                have HST := Lib.hid hstep
                have HREP := Lib.hid hrep
                have HFR := Lib.hid hfr
                have HL : Hid ((nearK xs text k).1.length ≤ k) := n3
                have HN5 := Lib.hid n5
                clear hr hrep hfr hstep hsz n3 n4 n5 h n1 n2
                go_wp2_with fail
                refine (spec_l25Distance_c xs[k] text _ HSZ.out ht).mono ?_
                rintro e w3 ⟨rfl, hb3⟩
                have hbw := bt hb hb3
                have hbws := hbw.size
                generalize hd : (edist xs[k] text : Int) = d at *
                have hd0 : 0 ≤ d := by omega
                clear hd
                by_cases hc : (nearK xs text k).2 < 0 ∨ d < (nearK xs text k).2
                · have HN : Hid (nearK xs text (k + 1) = ([(k : Int)], d)) := by
                    show _ = _
                    rw [HST.out, if_pos hc]
                  have tt : (d == d) = true := by simp
                  by_cases hk0 : k = 0
                  · have gk : ((k : Int) == 0) = true := by rw [beq_iff_eq]; omega
                    clear hc hk0 hL
                    go_wp2_with (at_builtin; refine wpList_append_rep (T := int64) (e := 2) (ys := [(k : Int)]) rfl (.tmp 64) (.tmp 66) rfl Try.underlying27 infoI rfl (by decide) rfl ((slice_of_row (xs := []) (Row.new w3 _ #[]) ⟨rfl, rfl⟩ (by simp)).alloc _) rfl (repL_nums _ (by intro n hn; simp at hn; subst hn; exact ⟨by omega, by omega⟩)) (cellsAt_at _ _ _ (by simp)) (by simp) (by rw [List.append_nil]; exact (by simp)) (by simp only [List.length_singleton, maxLen]; simp) (by simp only [List.length_singleton]; simp) ?_; intro v2 w4 F2 r2 o2 q2)
                    go_roundw
                    case rel =>
                      refine ⟨k + 1, v2, F2, by omega, by go_num, rfl, ?_, q2 _ ⟨by simp, by simp; omega⟩ (by simp; omega), ⟨d, rfl, Or.inr ⟨by omega, ?_⟩⟩, ?_⟩
                      · rw [HN.out]; exact r2
                      · rw [HN.out]
                      · exact ((hbw.alloc hbws _).alloc (by simp; omega) _).trans (o2.below (by simp; omega) (by simp; omega))
                    case measure => simp [intOf]; omega
                  · have gk : ((k : Int) == 0) = false := by rw [beq_eq_false_iff_ne]; omega
                    have hdl : d < L := by have := HN5.out; omega
                    clear hc hk0 hL
                    go_wp2_with (at_builtin; refine wpList_append_rep (T := int64) (e := 2) (ys := [(k : Int)]) rfl (.tmp 64) (.tmp 66) rfl Try.underlying27 infoI rfl (by decide) rfl ((slice_of_row (xs := []) (Row.new w3 _ #[]) ⟨rfl, rfl⟩ (by simp)).alloc _) rfl (repL_nums _ (by intro n hn; simp at hn; subst hn; exact ⟨by omega, by omega⟩)) (cellsAt_at _ _ _ (by simp)) (by simp) (by rw [List.append_nil]; exact (by simp)) (by simp only [List.length_singleton, maxLen]; simp) (by simp only [List.length_singleton]; simp) ?_; intro v2 w4 F2 r2 o2 q2)
                    go_roundw
                    case rel =>
                      refine ⟨k + 1, v2, F2, by omega, by go_num, rfl, ?_, q2 _ ⟨by simp, by simp; omega⟩ (by simp; omega), ⟨d, rfl, Or.inr ⟨by omega, ?_⟩⟩, ?_⟩
                      · rw [HN.out]; exact r2
                      · rw [HN.out]
                      · exact ((hbw.alloc hbws _).alloc (by simp; omega) _).trans (o2.below (by simp; omega) (by simp; omega))
                    case measure => simp [intOf]; omega
                · have hk0 : k ≠ 0 := by have := HN5.out; omega
                  obtain rfl : L = (nearK xs text k).2 := by omega
                  have gk : ((k : Int) == 0) = false := by rw [beq_eq_false_iff_ne]; omega
                  have hn1 : ¬ d < (nearK xs text k).2 := fun h => hc (Or.inr h)
                  by_cases hq : d = (nearK xs text k).2
                  · have HN : Hid (nearK xs text (k + 1) = ((nearK xs text k).1 ++ [(k : Int)], (nearK xs text k).2)) := by
                      show _ = _
                      rw [HST.out, if_neg hc, if_pos hq]
                    have tt : (d == (nearK xs text k).2) = true := by simp [hq]
                    clear hq hc hL
                    go_wp2_with (at_builtin; refine wpList_append_rep (T := int64) (e := 2) (ys := [(k : Int)]) rfl (.tmp 64) (.tmp 66) rfl Try.underlying27 infoI rfl (by decide) rfl ((HREP.out.below hb3).alloc _) rfl (repL_nums _ (by intro n hn; simp at hn; subst hn; exact ⟨by omega, by omega⟩)) (cellsAt_new _ _ _) (by simp) (by rw [List.append_nil]; exact HFR.out.1) (by simp only [List.length_singleton, maxLen]; have := HL.out; omega) (by simp only [List.length_singleton]; have := HL.out; omega) ?_; intro v2 w4 F2 r2 o2 q2)
                    go_roundw
                    case rel =>
                      refine ⟨k + 1, v2, F2, by omega, by go_num, rfl, ?_, q2 _ (by rw [List.append_nil]; exact HFR.out) (by simp; omega), ⟨_, rfl, Or.inr ⟨by omega, ?_⟩⟩, ?_⟩
                      · rw [HN.out]; exact r2
                      · rw [HN.out]
                      · exact (hbw.alloc hbws _).trans (o2.below (by simp; omega) HFR.out.2)
                    case measure => simp [intOf]; omega
                  · have HN : Hid (nearK xs text (k + 1) = nearK xs text k) := by
                      show _ = _
                      rw [HST.out, if_neg hc, if_neg hq]
                    have tt : (d == (nearK xs text k).2) = false := by simp [hq]
                    clear hq hc hL
                    go_wp2_with fail
                    go_roundw
                    case rel =>
                      refine ⟨k + 1, u, G, by omega, by go_num, rfl, ?_, HFR.out, ⟨_, rfl, Or.inr ⟨by omega, ?_⟩⟩, hbw⟩
                      · rw [HN.out]; exact HREP.out.below hb3
                      · rw [HN.out]
                    case measure => simp [intOf]; omega
              · obtain rfl : k = xs.length := by omega
                obtain rfl : L = (nearK xs text xs.length).2 := by omega
                go_wp2_with fail
                go_ret3
                obtain ⟨h1, h2, h3⟩ := HE.out
                rw [h1, h2, h3]
                exact ⟨_, _, rfl, hrep, hfr, hb⟩
end Go.Proofs.Ytnmciooolocjdaa

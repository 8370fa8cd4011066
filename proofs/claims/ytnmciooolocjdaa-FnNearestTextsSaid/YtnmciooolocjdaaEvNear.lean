/- The nearest texts: the program's walk and the reference's. Conditions: none. -/
import Derived.Test.YtnmciooolocjdaaEvEd
import Derived.Test.YtnmciooolocjdaaIntS
import Derived.Test.YtnmciooolocjdaaAppend
namespace Go.Proofs.Ytnmciooolocjdaa
open Go Go.RowKit

/-- The nearest of the first n texts, and how near they are: less than 0 where there is none. -/
def nearK (xs : List ByteArray) (text : ByteArray) : Nat → List Int × Int
  | 0 => ([], -1)
  | k + 1 =>
    let r := nearK xs text k
    let d : Int := (edist (xs.getD k .empty) text : Int)
    if r.2 < 0 ∨ d < r.2 then ([(k : Int)], d) else if d = r.2 then (r.1 ++ [(k : Int)], r.2) else r
theorem nearK_range {xs : List ByteArray} {text : ByteArray} (hx : ∀ s ∈ xs, s.size ≤ 1048576) (ht : text.size ≤ 1048576) : ∀ k, -1 ≤ (nearK xs text k).2 ∧ (nearK xs text k).2 ≤ 2097152 ∧ (nearK xs text k).1.length ≤ k ∧ (∀ n ∈ (nearK xs text k).1, 0 ≤ n ∧ n < k) ∧ ((nearK xs text k).2 < 0 ↔ k = 0)
  | 0 => by simp [nearK]
  | k + 1 => by
    obtain ⟨h1, h2, h3, h4, h5⟩ := nearK_range hx ht k
    have hd := edist_le (xs.getD k .empty) text
    have hs : (xs.getD k .empty).size ≤ 1048576 := by
      by_cases hk : k < xs.length
      · rw [List.getD_eq_getElem?_getD, List.getElem?_eq_getElem hk]; exact hx _ (List.getElem_mem hk)
      · rw [List.getD_eq_getElem?_getD, List.getElem?_eq_none (by omega)]; simp
    unfold nearK
    dsimp only
    split
    · refine ⟨by dsimp only; omega, by dsimp only; omega, by simp, ?_, ?_⟩
      · intro n hn; simp at hn; omega
      · dsimp only; omega
    · split
      · refine ⟨h1, h2, by simp; omega, ?_, ?_⟩
        · intro n hn
          simp only [List.mem_append, List.mem_singleton] at hn
          rcases hn with hn | rfl
          · have := h4 n hn; omega
          · omega
        · dsimp only; omega
      · refine ⟨h1, h2, by omega, ?_, ?_⟩
        · intro n hn; have := h4 n hn; omega
        · omega
def nearOk (xs : List ByteArray) (text : ByteArray) : Bool := shortB text && (xs.all shortB && decide (xs.length ≤ 100))
def nearF (xs : List ByteArray) (text : ByteArray) : List Int := if nearOk xs text then (nearK xs text xs.length).1 else []
def nearL (xs : List ByteArray) (text : ByteArray) : Int := if nearOk xs text then (if xs.length = 0 then 0 else (nearK xs text xs.length).2) else 0
def nearC (xs : List ByteArray) (text : ByteArray) : Int := if nearOk xs text then (if xs.length = 0 then 3 else 0) else 5
/-- Numbers, a number and a code, in memory of their own. -/
def GivesNear (e : TypeId) (F : List Int) (l c : Int) (w : World) (en : Ending) (w' : World) : Prop :=
  ∃ u G, en = .returned (.tuple #[u, .int .i64 l, .int .i64 c]) ∧ (nums e).rep true w' F [u] G ∧ Fresh w.heap.size G ∧ Below w.heap.size w w'
theorem nearF_ok {xs : List ByteArray} {text : ByteArray} (hx : ∀ s ∈ xs, s.size ≤ 1048576) (ht : text.size ≤ 1048576) : (nearF xs text).length ≤ 100 := by
  unfold nearF
  by_cases h : nearOk xs text = true
  · rw [if_pos h]
    have h1 : xs.length ≤ 100 := by simp only [nearOk, Bool.and_eq_true, decide_eq_true_eq] at h; exact h.2.2
    have := (nearK_range hx ht xs.length).2.2.1
    omega
  · rw [if_neg h]; simp

theorem infoI : (Try.prog.info? 2).map (fun i => (i.zero, i.size, i.bytes)) = some (some (.int .i64 0), int64.size, 8) := by kernel_rfl

set_option maxRecDepth 100000 in
set_option maxHeartbeats 400000 in
theorem impl_NearestTexts_c {e : TypeId} {xs : List ByteArray} {v : Value} {F : List Nat} (text : ByteArray) (w : World) (h : (strs e).rep true w xs [v] F) (hl : xs.length ≤ 1048576) (hx : ∀ s ∈ xs, s.size ≤ 1048576) (ht : text.size ≤ 1048576) :
    Calls Try.prog 6 #[v, .string text] w (GivesNear 2 (nearF xs text) (nearL xs text) (nearC xs text) w) := by
  have one : (strs 9).rep true (w.alloc (.cells #[.string text] 9)) [text] [.slice (some ⟨w.heap.size, 0, none⟩) 1 1] [w.heap.size] :=
    slice_of_row (xs := [text]) (Row.new w _ _) (repL_strs _ (by intro s hs; simp at hs; unfold maxLen; subst hs; omega)) (by simp [maxLen])
  have c1 := impl_short_c _ one (by simp)
  rw [show [text].all shortB = shortB text by simp] at c1
  have al : Below w.heap.size w (w.alloc (.cells #[.string text] 9)) := (Below.refl _ _).alloc (Nat.le_refl _) _
  cases hs1 : shortB text
  · rw [hs1] at c1
    have H1 := Lib.hid c1
    have ok : nearOk xs text = false := by simp [nearOk, hs1]
    have HE : Hid (nearF xs text = [] ∧ nearL xs text = 0 ∧ nearC xs text = 5) := by show _ ∧ _; simp [nearF, nearL, nearC, ok]
    clear c1 hs1 ok
    go_enter Try.func6, Try.ntmps6
    go_wp2_with fail
    refine H1.out.mono ?_
    rintro e w1 ⟨rfl, hb1⟩
    go_wp2_with fail
    go_ret3
    obtain ⟨h1, h2, h3⟩ := HE.out
    rw [h1, h2, h3]
    exact ⟨_, [], rfl, slice_nil _ _ _ _, ⟨by simp, by simp⟩, al.trans (hb1.mono (by simp))⟩
  · rw [hs1] at c1
    have H1 := Lib.hid c1
    clear c1
    have C2 := fun w1 (h1 : (strs e).rep true w1 xs [v] F) => impl_short_c w1 h1 hl
    cases hs2 : xs.all shortB
    · rw [hs2] at C2
      have H2 := Lib.hid C2
      have ok : nearOk xs text = false := by simp [nearOk, hs2]
      have HE : Hid (nearF xs text = [] ∧ nearL xs text = 0 ∧ nearC xs text = 5) := by show _ ∧ _; simp [nearF, nearL, nearC, ok]
      clear C2 hs1 hs2 ok
      go_enter Try.func6, Try.ntmps6
      go_wp2_with fail
      refine H1.out.mono ?_
      rintro e w1 ⟨rfl, hb1⟩
      have a1 := al.trans (hb1.mono (by simp))
      clear hb1
      go_wp2_with fail
      refine (H2.out _ (h.below a1)).mono ?_
      rintro e w2 ⟨rfl, hb2⟩
      go_wp2_with fail
      go_ret3
      obtain ⟨h1, h2, h3⟩ := HE.out
      rw [h1, h2, h3]
      exact ⟨_, [], rfl, slice_nil _ _ _ _, ⟨by simp, by simp⟩, bt a1 hb2⟩
    · rw [hs2] at C2
      have H2 := Lib.hid C2
      obtain ⟨A, c, rfl, hc1, hc2, hr⟩ := strs_open h
      unfold maxLen at hc2
      clear C2
      by_cases h100 : 100 < xs.length
      · have g : (100 : Int) < (xs.length : Int) := by omega
        have ok : nearOk xs text = false := by simp [nearOk, h100]
        have HE : Hid (nearF xs text = [] ∧ nearL xs text = 0 ∧ nearC xs text = 5) := by show _ ∧ _; simp [nearF, nearL, nearC, ok]
        clear hs1 hs2 ok
        go_enter Try.func6, Try.ntmps6
        go_wp2_with fail
        refine H1.out.mono ?_
        rintro e w1 ⟨rfl, hb1⟩
        have a1 := al.trans (hb1.mono (by simp))
        clear hb1
        go_wp2_with fail
        refine (H2.out _ (h.below a1)).mono ?_
        rintro e w2 ⟨rfl, hb2⟩
        go_wp2_with fail
        go_ret3
        obtain ⟨h1, h2, h3⟩ := HE.out
        rw [h1, h2, h3]
        exact ⟨_, [], rfl, slice_nil _ _ _ _, ⟨by simp, by simp⟩, bt a1 hb2⟩
      · have g : ¬ (100 : Int) < (xs.length : Int) := by omega
        have ok : nearOk xs text = true := by simp [nearOk, hs1, hs2]; omega
        by_cases hz : xs.length = 0
        · have HE : Hid (nearF xs text = [] ∧ nearL xs text = 0 ∧ nearC xs text = 3) := by show _ ∧ _; simp [nearF, nearL, nearC, ok, hz, nearK]
          have gz : ((xs.length : Int) == 0) = true := by rw [beq_iff_eq]; omega
          clear hs1 hs2 ok hz
          go_enter Try.func6, Try.ntmps6
          go_wp2_with fail
          refine H1.out.mono ?_
          rintro e w1 ⟨rfl, hb1⟩
          have a1 := al.trans (hb1.mono (by simp))
          clear hb1
          go_wp2_with fail
          refine (H2.out _ (h.below a1)).mono ?_
          rintro e w2 ⟨rfl, hb2⟩
          go_wp2_with fail
          go_ret3
          obtain ⟨h1, h2, h3⟩ := HE.out
          rw [h1, h2, h3]
          exact ⟨_, [], rfl, slice_nil _ _ _ _, ⟨by simp, by simp⟩, bt a1 hb2⟩
        · have HE : Hid (nearF xs text = (nearK xs text xs.length).1 ∧ nearL xs text = (nearK xs text xs.length).2 ∧ nearC xs text = 0) := by show _ ∧ _; simp [nearF, nearL, nearC, ok, hz]
          have gz : ((xs.length : Int) == 0) = false := by rw [beq_eq_false_iff_ne]; omega
          clear hs1 hs2 ok
          go_enter Try.func6, Try.ntmps6
          go_wp2_with fail
          refine H1.out.mono ?_
          rintro e w1 ⟨rfl, hb1⟩
          have a1 := al.trans (hb1.mono (by simp))
          clear hb1
          go_wp2_with fail
          refine (H2.out _ (h.below a1)).mono ?_
          rintro e w2 ⟨rfl, hb2⟩
          have a2 := bt a1 hb2
          clear hb2 H1 H2
          go_wp2_with fail
          go_loopw [7, 8, 31] (fun fv lv iv wr => ∃ (k : Nat) (u : Value) (G : List Nat), k ≤ xs.length ∧ iv = .int .i64 (k : Int) ∧ u = fv ∧ (nums 2).rep true wr (nearK xs text k).1 [u] G ∧ Fresh w.heap.size G ∧ lv = .int .i64 (nearK xs text k).2 ∧ Below w.heap.size w wr) (fun _ _ iv _ => xs.length - (intOf iv).toNat)
          case atStart => exact ⟨0, _, [], Nat.zero_le _, rfl, rfl, slice_nil _ _ _ _, ⟨by simp, by simp⟩, rfl, a2⟩
          case round =>
            obtain ⟨k, u, G, hk, rfl, rfl, hrep, hfr, rfl, hb⟩ := hrel
            have hbs := hb.size
            by_cases hlt : k < xs.length
            · obtain ⟨b, off, rfl, hbb, _, h0, _⟩ := hr k hlt
              rw [← hb.cell (p := ⟨b, _, none⟩) hbb] at h0
              have hsz := hx _ (List.getElem_mem hlt)
              have HSZ := Lib.hid hsz
              obtain ⟨n1, n2, n3, n4, n5⟩ := nearK_range hx ht k
              have HD := Lib.hid (edist_le xs[k] text)
              have hstep : nearK xs text (k + 1) = if (nearK xs text k).2 < 0 ∨ (edist xs[k] text : Int) < (nearK xs text k).2 then ([(k : Int)], (edist xs[k] text : Int)) else if (edist xs[k] text : Int) = (nearK xs text k).2 then ((nearK xs text k).1 ++ [(k : Int)], (nearK xs text k).2) else nearK xs text k := by
                rw [nearK]; simp [List.getD_eq_getElem?_getD, List.getElem?_eq_getElem hlt]
              have HST := Lib.hid hstep
              have HREP := Lib.hid hrep
              have HFR := Lib.hid hfr
              have HL : Hid ((nearK xs text k).1.length ≤ k) := n3
              clear hr hrep hfr hstep hsz n3 n4 n5 h
              have hgen : ∃ L : Int, L = (nearK xs text k).2 := ⟨_, rfl⟩
              obtain ⟨L, hL⟩ := hgen
              rw [← hL] at n1 n2 ⊢
              have HLL := Lib.hid hL
              clear hL
              go_wp2_with fail
              refine (impl_distance_c xs[k] text _ HSZ.out ht).mono ?_
              rintro e w3 ⟨rfl, hb3⟩
              have hbw := bt hb (hb3)
              generalize hd : (edist xs[k] text : Int) = d at *
              have hd0 : 0 ≤ d := by omega
              clear hd
              by_cases hc : L < 0 ∨ d < L
              · have HN : Hid (nearK xs text (k + 1) = ([(k : Int)], d)) := by
                  show _ = _
                  rw [HST.out, ← HLL.out, if_pos hc]
                have tt : (d == d) = true := by simp
                by_cases hneg : L < 0
                all_goals
                  first
                  | (have hdl : d < L := by omega)
                  | skip
                  go_wp2_with (at_builtin; refine wpList_append_rep (T := int64) (e := 2) (ys := [(k : Int)]) rfl (.tmp 50) (.tmp 52) rfl Try.underlying27 infoI rfl (by decide) rfl (slice_nil _ _ _ _) rfl (repL_nums _ (by intro n hn; simp at hn; subst hn; exact ⟨by omega, by omega⟩)) (cellsAt_new _ _ _) (by simp) (by rw [List.append_nil]; exact List.nodup_nil) (by simp only [List.length_singleton, maxLen]; simp) (by simp only [List.length_singleton]; simp) ?_; intro v2 w4 F2 r2 o2 q2)
                  go_roundw
                  case rel =>
                    refine ⟨k + 1, v2, F2, by omega, by go_num, rfl, ?_, q2 _ (by simpa using ⟨List.nodup_nil, fun x hx => absurd hx (by simp)⟩) (by have := hbw.size; simp; omega), ?_, ?_⟩
                    · rw [HN.out]; exact r2
                    · rw [HN.out]
                    · exact (hbw.alloc hbw.size _).trans (o2.below (by have := hbw.size; simp; omega) (by simp))
                  case measure => simp [intOf]; omega
              · have hn0 : ¬ L < 0 := fun h => hc (Or.inl h)
                have hn1 : ¬ d < L := fun h => hc (Or.inr h)
                by_cases hq : d = L
                · have HN : Hid (nearK xs text (k + 1) = ((nearK xs text k).1 ++ [(k : Int)], L)) := by
                    show _ = _
                    rw [HST.out, ← HLL.out, if_neg hc, if_pos hq]
                  have tt : (d == L) = true := by simp [hq]
                  clear hq hc
                  go_wp2_with (at_builtin; refine wpList_append_rep (T := int64) (e := 2) (ys := [(k : Int)]) rfl (.tmp 50) (.tmp 52) rfl Try.underlying27 infoI rfl (by decide) rfl ((HREP.out.below hb3).alloc _) rfl (repL_nums _ (by intro n hn; simp at hn; subst hn; exact ⟨by omega, by omega⟩)) (cellsAt_new _ _ _) (by simp) (by rw [List.append_nil]; exact HFR.out.1) (by simp only [List.length_singleton, maxLen]; have := HL.out; omega) (by simp only [List.length_singleton]; have := HL.out; omega) ?_; intro v2 w4 F2 r2 o2 q2)
                  go_roundw
                  case rel =>
                    refine ⟨k + 1, v2, F2, by omega, by go_num, rfl, ?_, q2 _ (by rw [List.append_nil]; exact HFR.out) (by have := hbw.size; simp; omega), ?_, ?_⟩
                    · rw [HN.out]; exact r2
                    · rw [HN.out]
                    · exact (hbw.alloc hbw.size _).trans (o2.below (by have := hbw.size; simp; omega) HFR.out.2)
                  case measure => simp [intOf]; omega
                · have HN : Hid (nearK xs text (k + 1) = nearK xs text k) := by
                    show _ = _
                    rw [HST.out, ← HLL.out, if_neg hc, if_neg hq]
                  have tt : (d == L) = false := by simp [hq]
                  clear hq hc
                  go_wp2_with fail
                  go_roundw
                  case rel =>
                    refine ⟨k + 1, u, G, by omega, by go_num, rfl, ?_, HFR.out, ?_, hbw⟩
                    · rw [HN.out]; exact HREP.out.below hb3
                    · rw [HN.out, HLL.out]
                  case measure => simp [intOf]; omega
            · obtain rfl : k = xs.length := by omega
              go_wp2_with fail
              go_ret3
              obtain ⟨h1, h2, h3⟩ := HE.out
              rw [h1, h2, h3]
              exact ⟨_, _, rfl, hrep, hfr, hb⟩
end Go.Proofs.Ytnmciooolocjdaa

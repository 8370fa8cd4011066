/- The walk of the law FnNearestTexts. Conditions: none. -/
import Derived.Test.YtnmciooolocjdaaEvNear2
import Derived.Test.YtnmciooolocjdaaNearLaw
import Derived.Test.YtnmciooolocjdaaF6
import Derived.Test.YtnmciooolocjdaaSrc3
namespace Go.Proofs.Ytnmciooolocjdaa
open Go Go.RowKit

theorem nearC_ok {xs : List ByteArray} {text : ByteArray} (h : nearC xs text = 0) : shortB text = true ∧ (∀ s ∈ xs, shortB s = true) ∧ 0 < xs.length ∧ nearF xs text = (nearK xs text xs.length).1 ∧ nearL xs text = (nearK xs text xs.length).2 := by
  unfold nearC at h
  split at h
  · rename_i hok
    split at h
    · omega
    · rename_i hn
      have hok' := hok
      simp only [nearOk, Bool.and_eq_true, List.all_eq_true, decide_eq_true_eq] at hok'
      refine ⟨hok'.1, hok'.2.1, by omega, ?_, ?_⟩
      · unfold nearF; rw [if_pos hok]
      · unfold nearL; rw [if_pos hok, if_neg hn]
  · omega

set_option maxRecDepth 100000 in
set_option maxHeartbeats 2000000 in
theorem law_FnNearestTexts {e : TypeId} {code : List UInt8} {v : Value} {F : List Nat} (w : World) (h : (byte.slice e).rep false w code [v] F) :
    Calls Try.prog 3 #[v] w fun e' w' => e' = .returned (.bool true) ∧ Below w.heap.size w w' := by
  have hv := h
  obtain ⟨A, c, rfl⟩ := slice_len h
  have cb := f6big_c (w := w) h
  by_cases hbig : 4096 < code.length
  · rw [decide_eq_true hbig] at cb
    have CB := Lib.hid cb
    clear cb
    go_enter Try.func3, Try.ntmps3
    go_wp2_with fail
    refine CB.out.mono ?_
    rintro e w1 ⟨rfl, rfl⟩
    go_wp2_with fail
    go_ret
    exact ⟨rfl, Below.refl _ _⟩
  · rw [decide_eq_false hbig] at cb
    have CB := Lib.hid cb
    have CD := Lib.hid (spec_DrawNearestTexts_c w h (by omega))
    clear cb h hv
    go_enter Try.func3, Try.ntmps3
    go_wp2_with fail
    refine CB.out.mono ?_
    rintro e w1 ⟨rfl, rfl⟩
    go_wp2_with fail
    refine CD.out.mono ?_
    rintro e w1 ⟨xs, t, u, G, rfl, r, hxl, hxs, ht, b1⟩
    clear CB CD
    have HI := Lib.hid (impl_NearestTexts_c t w1 r (by omega) (fun s hs => by have := hxs s hs; omega) (by omega))
    obtain ⟨L, lc, rfl⟩ := slice_len r
    go_wp2_with fail
    refine HI.out.mono ?_
    rintro e w2 ⟨u2, G2, rfl, r2, f2, b2⟩
    have HS := Lib.hid (spec_NearestTexts_c t w2 (r.below b2) (by omega) (fun s hs => by have := hxs s hs; omega) (by omega))
    obtain ⟨L2, lc2, rfl⟩ := slice_len r2
    go_wp2_with fail
    refine HS.out.mono ?_
    rintro e w3 ⟨u3, G3, rfl, r3, f3, b3⟩
    have hfl := nearF_ok (xs := xs) (text := t) (fun s hs => by have := hxs s hs; omega) (by omega)
    have HF := Lib.hid (f6ints_c w3 (r2.below b3) r3 (by omega) (by omega))
    rw [decide_eq_true rfl] at HF
    obtain ⟨L3, lc3, rfl⟩ := slice_len r3
    have z1 : (nearC xs t != nearC xs t) = false := by simp
    have z2 : (nearL xs t != nearL xs t) = false := by simp
    have rl := ((r.below b2).below b3)
    have rx := (r2.below b3)
    have bb := bt (bt b1 b2) b3
    by_cases hc : nearC xs t = 0
    · obtain ⟨hst, hsx, hn0, hF, hL⟩ := nearC_ok hc
      have hcc : (nearC xs t != 0) = false := by simp [hc]
      obtain ⟨q0, q1, q2, q3⟩ := nearK_spec xs t xs.length hn0
      rw [← hL] at q0 q1 q2
      rw [← hF] at q2 q3
      clear hF hL hc HI HS r r2 r3 f2 f3
      generalize nearC xs t = cc at *
      generalize nearL xs t = d at *
      generalize nearF xs t = x at *
      have HQ1 := Lib.hid q1
      have HQ2 := Lib.hid q2
      have HQ3 := Lib.hid q3
      clear q1 q2 q3
      go_wp2_with fail
      refine HF.out.mono ?_
      rintro e w4 ⟨rfl, b4⟩
      replace rl := rl.below b4
      replace rx := rx.below b4
      replace bb := bt bb b4
      obtain ⟨A1, c1, he, hc1, hc2, hr⟩ := strs_open rl
      cases he
      obtain ⟨A2, c2, he2, hd1, hd2, hs⟩ := nums_open rx
      cases he2
      clear rl rx HF
      go_wp2_with fail
      go_loopw [11, 12] (fun a i wr => ∃ (k n : Nat), k ≤ xs.length ∧ i = .int .i64 k ∧ a = .int .i64 n ∧ Hid (n = (placesAt xs t d k).length) ∧ n ≤ k ∧ Below w4.heap.size w4 wr) (fun _ i _ => xs.length - (intOf i).toNat)
      case atStart => exact ⟨0, 0, Nat.zero_le _, rfl, rfl, by show _ = _; simp [placesAt], Nat.le_refl _, Below.refl _ _⟩
      case round =>
        obtain ⟨k, n, hk, rfl, rfl, hn, hnk, hb⟩ := hrel
        have hbs := hb.size
        by_cases hlt : k < xs.length
        · obtain ⟨b', off, rfl, hbb, _, h0, _⟩ := hr k hlt
          rw [← hb.cell (p := ⟨b', _, none⟩) hbb] at h0
          have hsz := hxs _ (List.getElem_mem hlt)
          have C := impl_EditDistance_c xs[k] t wr (by omega) (by omega)
          rw [hsx _ (List.getElem_mem hlt), hst] at C
          simp only [Bool.and_self, if_true] at C
          have hfar : farAt xs t k = (edist xs[k] t : Int) := by simp [farAt, hlt]
          have hle := HQ1.out k hlt
          rw [hfar] at hle
          have hz : edist xs[k] t ≤ 2097152 := by have := edist_le xs[k] t; omega
          have g1 : (k : Int) < (xs.length : Int) := by omega
          have g2 : ¬ ((edist xs[k] t : Int) < d) := by omega
          have kw : IntKind.i64.wrap ((k : Int) + 1) = (k : Int) + 1 := IntWalk.i64_in _ (by omega)
          have kw2 : IntKind.i64.wrap ((n : Int) + 1) = (n : Int) + 1 := IntWalk.i64_in _ (by omega)
          have HC := Lib.hid C
          have HFA := Lib.hid hfar
          clear C hfar hle hr hsz
          by_cases heq : (edist xs[k] t : Int) = d
          · have g3 : ((edist xs[k] t : Int) == d) = true := by simp [heq]
            have hget := placesAt_get (xs := xs) (text := t) (d := d) hlt (HFA.out.trans heq)
            rw [← HQ2.out, ← hn.out] at hget
            obtain ⟨hnx, hxn⟩ := List.getElem?_eq_some_iff.1 hget
            obtain ⟨b2', off2, rfl, hbb2, _, h02, _⟩ := hs n hnx
            rw [← hb.cell (p := ⟨b2', _, none⟩) hbb2, hxn] at h02
            have g4 : ¬ ((x.length : Int) ≤ (n : Int)) := by omega
            have g5 : (n : Int) < (x.length : Int) := by omega
            have g6 : ((k : Int) != (k : Int)) = false := by simp
            have hs2 : Hid (n + 1 = (placesAt xs t d (k + 1)).length) := by
              show _ = _
              rw [placesAt_succ, if_pos (HFA.out.trans heq), List.length_append, ← hn.out]; rfl
            generalize edist xs[k] t = ed at *
            clear hs hget hxn heq
            go_wp2_with fail
            refine HC.out.mono ?_
            rintro e w5 ⟨rfl, b5⟩
            obtain ⟨hcc5, hff5⟩ := bcell b5
            have h03 := (hcc5 b2' (off2 + n) (by omega)).trans h02
            go_wp2_with fail
            go_roundw
            case rel => exact ⟨k + 1, n + 1, by omega, by go_num, by go_num, hs2, by omega, hb.trans (b5.mono hbs)⟩
            case measure => simp [intOf]; omega
          · have g3 : ((edist xs[k] t : Int) == d) = false := by simp [heq]
            have hs2 : Hid (n = (placesAt xs t d (k + 1)).length) := by
              show _ = _
              rw [placesAt_succ, if_neg (fun e => heq (HFA.out.symm.trans e)), List.append_nil]; exact hn.out
            generalize edist xs[k] t = ed at *
            clear hs heq
            go_wp2_with fail
            refine HC.out.mono ?_
            rintro e w5 ⟨rfl, b5⟩
            go_wp2_with fail
            go_roundw
            case rel => exact ⟨k + 1, n, by omega, by go_num, rfl, hs2, by omega, hb.trans (b5.mono hbs)⟩
            case measure => simp [intOf]; omega
        · obtain rfl : k = xs.length := by omega
          have hnx : n = x.length := by rw [hn.out, ← HQ2.out]
          have hx0 : 0 < x.length := List.length_pos_iff.2 HQ3.out
          have g1 : ((n : Int) == (x.length : Int)) = true := by simp [hnx]
          have g2 : (0 : Int) < (n : Int) := by omega
          clear hr hs
          go_wp2_with fail
          go_ret
          exact ⟨congrArg (fun b => Ending.returned (.bool b)) (by first | rfl | simp [hnx, hx0] | (simp; omega)), bb.trans (hb.mono bb.size)⟩
    · have hcc : (nearC xs t != 0) = true := by rw [bne_iff_ne]; exact hc
      clear HI HS r r2 r3 f2 f3
      go_wp2_with fail
      refine HF.out.mono ?_
      rintro e w4 ⟨rfl, b4⟩
      go_wp2_with fail
      go_ret
      exact ⟨rfl, bt bb b4⟩
end Go.Proofs.Ytnmciooolocjdaa

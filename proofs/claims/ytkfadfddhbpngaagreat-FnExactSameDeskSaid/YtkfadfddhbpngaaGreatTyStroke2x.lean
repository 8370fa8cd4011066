/- The type Stroke: the law's own to over it. Conditions: none. -/
import Derived.Test.YtkfadfddhbpngaaGreatTyStrokex
namespace Go.Proofs.YtkfadfddhbpngaaGreat
open Go Go.RowKit

set_option maxHeartbeats 400000 in
theorem toStroke_c {o : Bool} {e : TypeId} {xs : PStroke} {v : Value} {F : List Nat} (w : World) (h : (pPoints e).rep o w xs [v] F) (hx : xs.length ≤ 1048576) :
 Calls Tryz.prog 208 #[.agg #[v]] w fun e' w' => ∃ u G, e' = .returned (.agg #[u]) ∧ (pPoints 155).rep true w' xs [u] G ∧ Fresh w.heap.size G ∧ Below w.heap.size w w' := by
 go_enter Tryz.func208, Tryz.ntmps208
 go_wp2_with (go_at_call 84; refine (toPointS_c _ (((h.alloc _).alloc _).alloc _) hx).mono ?_; rintro e' w1 ⟨u1, G1, rfl, r1, f1, hb1⟩; obtain ⟨A1, k1, rfl⟩ := slice_len r1; obtain ⟨hcc, hff⟩ := bcell hb1; have hzz := hb1.size)
 have b3 : Below w.heap.size w (((w.alloc (.cells #[v] 269)).alloc (.cells #[.slice none 0 0] 141)).alloc (.cells #[.slice none 0 0] 141)) :=
  ((((Below.refl _ _).alloc (Nat.le_refl _) _).alloc (by simp) _).alloc (by simp; omega) _)
 have hz3 : (((w.alloc (.cells #[v] 269)).alloc (.cells #[.slice none 0 0] 141)).alloc (.cells #[.slice none 0 0] 141)).heap.size = w.heap.size + 1 + 1 + 1 := by simp
 have hz1 : (w.alloc (.cells #[v] 269)).heap.size = w.heap.size + 1 := by simp
 have R := Row.new (w.alloc (.cells #[v] 269)) 141 #[.slice none 0 0]
 rw [hz1] at R
 have hcell := (((((R.alloc (.cells #[.slice none 0 0] 141)).later hb1).far (p := ⟨w.heap.size + 1 + 1, 0, none⟩) (by simp) (.slice A1 xs.length k1)).set 0 (.slice A1 xs.length k1)).cell' (i := 0) (u := .slice A1 xs.length k1) (by simp))
 refine bodyPost_ret (v := .agg #[.slice A1 xs.length k1]) (by simp [results, Tryz.results208, go_sem, hcell]) rfl ⟨_, G1, rfl, (r1.setCell ?_ _).setCell ?_ _, f1.mono (by omega), (((b3.trans (hb1.mono (by omega))).setCell ?_ _).setCell ?_ _)⟩
 · intro hin; have := f1.2 _ hin; simp at this; omega
 · intro hin; have := f1.2 _ hin; simp at this; omega
 · simp; omega
 · simp

set_option maxHeartbeats 1000000 in
theorem toStrokeS_c {o : Bool} {pe e : TypeId} {xs : List PStroke} {v : Value} {F : List Nat} (w : World) (h : (pStrokes pe e).rep o w xs [v] F) (hx : xs.length ≤ 1048576) (hxe : ∀ l ∈ xs, l.length ≤ 1048576) :
 Calls Tryz.prog 156 #[v] w fun e w' => ∃ u G, e = .returned u ∧ (pStrokes 155 141).rep true w' xs [u] G ∧ Fresh w.heap.size G ∧ Below w.heap.size w w' := by
 obtain ⟨A, c, rfl, hc1, hc2, hr⟩ := pStrokes_open h
 have hmk := make_run (P := Tryz.prog) (t := 62) (e := 141) (z := .agg #[.slice none 0 0]) (size := 1) (bytes := 24) Tryz.underlying62 (by kernel_rfl) xs.length xs.length rfl (by omega) (by unfold maxLen; omega)
 go_enter Tryz.func156, Tryz.ntmps156
 go_wp2_with fail
 go_loopw [4] (fun i wr => ∃ k : Nat, k ≤ xs.length ∧ i = .int .i64 k ∧ ∃ cs G rest, Row wr w.heap.size 141 (cs ++ rest) ∧ repL (pStroke 155) true wr (xs.take k) cs G ∧ Fresh (w.heap.size + 1) G ∧ rest.length = xs.length - k ∧ Below w.heap.size w wr) (fun i _ => xs.length - (intOf i).toNat)
 case atStart =>
  exact ⟨0, Nat.zero_le _, rfl, [], [], _, Row.new w _ _, ⟨rfl, rfl⟩, ⟨by simp, by simp⟩, by simp [madeCells], (Below.refl _ _).alloc (Nat.le_refl _) _⟩
 case round =>
  obtain ⟨k, hk, rfl, cs, G, rest, hrow, hrep, hfr, hrl, hb⟩ := hrel
  by_cases hlt : k < xs.length
  · obtain ⟨b, off, v1, F1, rfl, hbb, _, R1, _, h0⟩ := hr k hlt
    rw [← hb.cell (p := ⟨b, _, none⟩) hbb] at h0
    have hbs := hb.size
    have hrl2 := hrow.lt
    have hpl : cs.length = k := by
     have := repL_len hrep
     rw [List.length_take, Nat.min_eq_left (by omega)] at this
     rw [this]; exact Nat.mul_one k
    obtain ⟨r0, rest', rfl⟩ : ∃ r0 rest', rest = r0 :: rest' := by
     match rest, hrl with
     | r0 :: rest', _ => exact ⟨_, _, rfl⟩
     | [], h => simp at h; omega
    have L1 := hxe _ (List.getElem_mem hlt)
    have Q1 := Lib.hid (R1.below hb)
    have HR := Lib.hid hrow
    have HP := Lib.hid hrep
    have HF := Lib.hid hfr
    have HL := Lib.hid hpl
    clear hr h hmk R1 hrow hrep hfr hpl
    go_wp2_with (go_at_call 208; refine (toStroke_c _ Q1.out L1).mono ?_; rintro e w1 ⟨u1, G1, rfl, r1, f1, hb1⟩; obtain ⟨A1, k1, rfl⟩ := slice_len r1; have hrow1 := HR.out.later hb1; obtain ⟨⟨v0, hv0⟩, hf0⟩ := hrow1.can (i := k) (by simp [HL.out]))
    go_roundw
    case rel =>
     have hz := hb1.size
     refine ⟨k + 1, by omega, by go_num, cs ++ [.slice A1 (xs[k]).length k1], G ++ G1, rest', ?_, ?_, ⟨?_, ?_⟩, by simp at hrl; omega, (hb.trans (hb1.mono hbs)).setCell (Nat.le_refl _) _⟩
     · have R := hrow1.put (j := 0) (i := k) (by rw [HL.out]; rfl) (.slice A1 (xs[k]).length k1)
       rw [List.append_assoc]
       exact R
     · rw [List.take_succ_eq_append_getElem hlt]
       refine repL_append (repL_set (repL_below HP.out hb1) ?_ _) (repL_single.2 (r1.setCell ?_ _))
       · intro hin; have := HF.out.2 _ hin; simp at this; omega
       · intro hin; have := f1.2 _ hin; simp at this; omega
     · refine List.nodup_append.2 ⟨HF.out.1, f1.1, fun x h1 y h2 e => ?_⟩
       subst e
       have := repL_lt HP.out x h1; have := f1.2 x h2; omega
     · intro x hx
       rcases List.mem_append.1 hx with h | h
       · exact HF.out.2 x h
       · have := f1.2 x h; omega
    case measure => simp [intOf]; omega
  · obtain rfl : k = xs.length := by omega
    go_wp2_with fail
    go_ret
    have h0 : rest = [] := List.eq_nil_of_length_eq_zero (by simpa using hrl)
    subst h0
    rw [List.append_nil] at hrow
    rw [List.take_length] at hrep
    exact ⟨_, w.heap.size :: G, rfl, slice_of_row hrow hrep (by unfold maxLen; omega), ⟨List.nodup_cons.2 ⟨fun hin => by have := hfr.2 _ hin; omega, hfr.1⟩, fun x hx => by rcases List.mem_cons.1 hx with rfl | h; exact Nat.le_refl _; have := hfr.2 x h; omega⟩, hb⟩

end Go.Proofs.YtkfadfddhbpngaaGreat

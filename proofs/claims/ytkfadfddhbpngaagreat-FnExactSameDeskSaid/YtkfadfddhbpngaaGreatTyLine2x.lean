/- The type TextLine: the law's own to and sz over it. Conditions: none. -/
import Derived.Test.YtkfadfddhbpngaaGreatTyLinex
namespace Go.Proofs.YtkfadfddhbpngaaGreat
open Go Go.RowKit

set_option maxHeartbeats 400000 in
theorem toTextLine_c {o : Bool} {e : TypeId} {xs : PLine} {v : Value} {F : List Nat} (w : World) (h : (strs e).rep o w xs [v] F) (hx : xs.length ≤ 1048576) :
 Calls Tryz.prog 158 #[.agg #[v]] w fun e' w' => ∃ u G, e' = .returned (.agg #[u]) ∧ (strs 9).rep true w' xs [u] G ∧ Fresh w.heap.size G ∧ Below w.heap.size w w' := by
 go_enter Tryz.func158, Tryz.ntmps158
 go_wp2_with (go_at_call 85; refine (toStringS_c _ (((h.alloc _).alloc _).alloc _) hx).mono ?_; rintro e' w1 ⟨u1, G1, rfl, r1, f1, hb1⟩; obtain ⟨A1, k1, rfl⟩ := slice_len r1; obtain ⟨hcc, hff⟩ := bcell hb1; have hzz := hb1.size)
 have b3 : Below w.heap.size w (((w.alloc (.cells #[v] 210)).alloc (.cells #[.slice none 0 0] 147)).alloc (.cells #[.slice none 0 0] 147)) :=
  ((((Below.refl _ _).alloc (Nat.le_refl _) _).alloc (by simp) _).alloc (by simp; omega) _)
 have hz3 : (((w.alloc (.cells #[v] 210)).alloc (.cells #[.slice none 0 0] 147)).alloc (.cells #[.slice none 0 0] 147)).heap.size = w.heap.size + 1 + 1 + 1 := by simp
 have hz1 : (w.alloc (.cells #[v] 210)).heap.size = w.heap.size + 1 := by simp
 have R := Row.new (w.alloc (.cells #[v] 210)) 147 #[.slice none 0 0]
 rw [hz1] at R
 have hcell := (((((R.alloc (.cells #[.slice none 0 0] 147)).later hb1).far (p := ⟨w.heap.size + 1 + 1, 0, none⟩) (by simp) (.slice A1 xs.length k1)).set 0 (.slice A1 xs.length k1)).cell' (i := 0) (u := .slice A1 xs.length k1) (by simp))
 refine bodyPost_ret (v := .agg #[.slice A1 xs.length k1]) (by simp [results, Tryz.results158, go_sem, hcell]) rfl ⟨_, G1, rfl, (r1.setCell ?_ _).setCell ?_ _, f1.mono (by omega), (((b3.trans (hb1.mono (by omega))).setCell ?_ _).setCell ?_ _)⟩
 · intro hin; have := f1.2 _ hin; simp at this; omega
 · intro hin; have := f1.2 _ hin; simp at this; omega
 · simp; omega
 · simp

set_option maxHeartbeats 1000000 in
theorem toTextLineS_c {o : Bool} {e : TypeId} {xs : List PLine} {v : Value} {F : List Nat} (w : World) (h : (pLines e).rep o w xs [v] F) (hx : xs.length ≤ 1048576) (hxe : ∀ l ∈ xs, l.length ≤ 1048576) :
 Calls Tryz.prog 86 #[v] w fun e w' => ∃ u G, e = .returned u ∧ (pLines 147).rep true w' xs [u] G ∧ Fresh w.heap.size G ∧ Below w.heap.size w w' := by
 obtain ⟨A, c, rfl, hc1, hc2, hr⟩ := pLines_open h
 have hmk := make_run (P := Tryz.prog) (t := 68) (e := 147) (z := .agg #[.slice none 0 0]) (size := 1) (bytes := 24) Tryz.underlying68 (by kernel_rfl) xs.length xs.length rfl (by omega) (by unfold maxLen; omega)
 go_enter Tryz.func86, Tryz.ntmps86
 go_wp2_with fail
 go_loopw [4] (fun i wr => ∃ k : Nat, k ≤ xs.length ∧ i = .int .i64 k ∧ ∃ cs G rest, Row wr w.heap.size 147 (cs ++ rest) ∧ repL pLine true wr (xs.take k) cs G ∧ Fresh (w.heap.size + 1) G ∧ rest.length = xs.length - k ∧ Below w.heap.size w wr) (fun i _ => xs.length - (intOf i).toNat)
 case atStart =>
  exact ⟨0, Nat.zero_le _, rfl, [], [], _, Row.new w _ _, ⟨rfl, rfl⟩, ⟨by simp, by simp⟩, by simp [madeCells], (Below.refl _ _).alloc (Nat.le_refl _) _⟩
 case round =>
  obtain ⟨k, hk, rfl, cs, G, rest, hrow, hrep, hfr, hrl, hb⟩ := hrel
  by_cases hlt : k < xs.length
  · obtain ⟨b, off, v1, F1, rfl, hbb, _, R1, _, h0⟩ := hr k hlt
    rw [← hb.cell (p := ⟨b, _, none⟩) hbb] at h0
    have hbs := hb.size
    have hrl2 := hrow.lt
    have hpl : cs.length = k := by
     have := repL_len hrep
     rw [List.length_take, Nat.min_eq_left (by omega)] at this
     rw [this]; exact Nat.mul_one k
    obtain ⟨r0, rest', rfl⟩ : ∃ r0 rest', rest = r0 :: rest' := by
     match rest, hrl with
     | r0 :: rest', _ => exact ⟨_, _, rfl⟩
     | [], h => simp at h; omega
    have L1 := hxe _ (List.getElem_mem hlt)
    have Q1 := Lib.hid (R1.below hb)
    have HR := Lib.hid hrow
    have HP := Lib.hid hrep
    have HF := Lib.hid hfr
    have HL := Lib.hid hpl
    clear hr h hmk R1 hrow hrep hfr hpl
    go_wp2_with (go_at_call 158; refine (toTextLine_c _ Q1.out L1).mono ?_; rintro e w1 ⟨u1, G1, rfl, r1, f1, hb1⟩; obtain ⟨A1, k1, rfl⟩ := slice_len r1; have hrow1 := HR.out.later hb1; obtain ⟨⟨v0, hv0⟩, hf0⟩ := hrow1.can (i := k) (by simp [HL.out]))
    go_roundw
    case rel =>
     have hz := hb1.size
     refine ⟨k + 1, by omega, by go_num, cs ++ [.slice A1 (xs[k]).length k1], G ++ G1, rest', ?_, ?_, ⟨?_, ?_⟩, by simp at hrl; omega, (hb.trans (hb1.mono hbs)).setCell (Nat.le_refl _) _⟩
     · have R := hrow1.put (j := 0) (i := k) (by rw [HL.out]; rfl) (.slice A1 (xs[k]).length k1)
       rw [List.append_assoc]
       exact R
     · rw [List.take_succ_eq_append_getElem hlt]
       refine repL_append (repL_set (repL_below HP.out hb1) ?_ _) (repL_single.2 (r1.setCell ?_ _))
       · intro hin; have := HF.out.2 _ hin; simp at this; omega
       · intro hin; have := f1.2 _ hin; simp at this; omega
     · refine List.nodup_append.2 ⟨HF.out.1, f1.1, fun x h1 y h2 e => ?_⟩
       subst e
       have := repL_lt HP.out x h1; have := f1.2 x h2; omega
     · intro x hx
       rcases List.mem_append.1 hx with h | h
       · exact HF.out.2 x h
       · have := f1.2 x h; omega
    case measure => simp [intOf]; omega
  · obtain rfl : k = xs.length := by omega
    go_wp2_with fail
    go_ret
    have h0 : rest = [] := List.eq_nil_of_length_eq_zero (by simpa using hrl)
    subst h0
    rw [List.append_nil] at hrow
    rw [List.take_length] at hrep
    exact ⟨_, w.heap.size :: G, rfl, slice_of_row hrow hrep (by unfold maxLen; omega), ⟨List.nodup_cons.2 ⟨fun hin => by have := hfr.2 _ hin; omega, hfr.1⟩, fun x hx => by rcases List.mem_cons.1 hx with rfl | h; exact Nat.le_refl _; have := hfr.2 x h; omega⟩, hb⟩

/-- What lines weigh. -/
def szLines (xs : List PLine) : Nat := xs.length + (xs.map szStrs).sum
theorem szLines_take (xs : List PLine) (k : Nat) (h : k < xs.length) : ((xs.take (k+1)).map szStrs).sum = ((xs.take k).map szStrs).sum + szStrs xs[k] := by
 rw [List.take_succ_eq_append_getElem h, List.map_append, List.sum_append]; simp
theorem mem_sum {l : List Nat} {n : Nat} (h : n ∈ l) : n ≤ l.sum := by
 induction l with
 | nil => cases h
 | cons a r ih =>
  rw [List.sum_cons]
  rcases List.mem_cons.1 h with rfl | h
  · omega
  · have := ih h; omega
theorem szStrs_each {xs : List ByteArray} {n : Nat} (h : szStrs xs ≤ n) : xs.length ≤ n ∧ ∀ s ∈ xs, s.size ≤ n := by
 unfold szStrs at h
 refine ⟨by omega, fun s hs => ?_⟩
 have := mem_sum (List.mem_map.2 ⟨s, hs, rfl⟩ : s.size ∈ xs.map ByteArray.size)
 omega
theorem szLines_each {xs : List PLine} {n : Nat} (h : szLines xs ≤ n) : xs.length ≤ n ∧ ∀ l ∈ xs, l.length ≤ n ∧ ∀ s ∈ l, s.size ≤ n := by
 unfold szLines at h
 refine ⟨by omega, fun l hl => szStrs_each ?_⟩
 have := mem_sum (List.mem_map.2 ⟨l, hl, rfl⟩ : szStrs l ∈ xs.map szStrs)
 omega

set_option maxHeartbeats 400000 in
theorem szTextLine_c {o : Bool} {e : TypeId} {xs : PLine} {v : Value} {F : List Nat} (w : World) (h : (strs e).rep o w xs [v] F) (left : Int) (hl : 0 ≤ left ∧ left ≤ 1048576) :
 Calls Tryz.prog 153 #[.agg #[v], .int .i64 left] w fun e' w' => (∃ r : Int, e' = .returned (.int .i64 r) ∧ r ≤ left ∧ (0 ≤ r → r + szStrs xs ≤ left)) ∧ Below w.heap.size w w' := by
 go_enter Tryz.func153, Tryz.ntmps153
 go_wp2_with (go_at_call 73; refine (szStringS_c _ (h.alloc _) left hl).mono ?_; rintro e' w1 ⟨r, rfl, hr1, hr2, rfl⟩)
 · go_ret
   exact ⟨⟨-1, rfl, by omega, by omega⟩, (Below.refl _ _).alloc (Nat.le_refl _) _⟩
 · go_ret
   exact ⟨⟨r, rfl, hr1, hr2⟩, (Below.refl _ _).alloc (Nat.le_refl _) _⟩
set_option maxHeartbeats 1000000 in
theorem szTextLineS_c {o : Bool} {e : TypeId} {xs : List PLine} {v : Value} {F : List Nat} (w : World) (h : (pLines e).rep o w xs [v] F) (left : Int) (hl : 0 ≤ left ∧ left ≤ 1048576) :
 Calls Tryz.prog 74 #[v, .int .i64 left] w fun e w' => (∃ r : Int, e = .returned (.int .i64 r) ∧ r ≤ left ∧ (0 ≤ r → r + szLines xs ≤ left)) ∧ Below w.heap.size w w' := by
 obtain ⟨A, c, rfl, hc1, hc2, hr⟩ := pLines_open h
 clear h
 unfold maxLen at hc2
 by_cases h0 : left - xs.length < 0
 · go_enter Tryz.func74, Tryz.ntmps74
   go_wp2_with fail
   go_ret
   exact ⟨⟨-1, rfl, by omega, by omega⟩, Below.refl _ _⟩
 · have h1 : ¬ (left - (xs.length : Int) < 0) := h0
   go_enter Tryz.func74, Tryz.ntmps74
   go_wp2_with fail
   go_loopw [1, 5] (fun l i wr => ∃ k : Nat, k ≤ xs.length ∧ i = .int .i64 k ∧ (∃ n : Int, 0 ≤ n ∧ n ≤ left ∧ Hid (n + xs.length + ((xs.take k).map szStrs).sum ≤ left) ∧ l = .int .i64 n) ∧ Below w.heap.size w wr) (fun _ i _ => xs.length - (intOf i).toNat)
   case atStart => exact ⟨0, Nat.zero_le _, rfl, ⟨left - xs.length, by omega, by omega, by show _ ≤ _; simp, rfl⟩, Below.refl _ _⟩
   case round =>
    obtain ⟨k, hk, rfl, ⟨n, hn0, hn1, hn, rfl⟩, hb⟩ := hrel
    have hbs := hb.size
    by_cases hlt : k < xs.length
    · obtain ⟨b, off, v1, F1, rfl, hbb, _, R1, _, hc0⟩ := hr k hlt
      rw [← hb.cell (p := ⟨b, _, none⟩) hbb] at hc0
      have Q1 := Lib.hid (R1.below hb)
      have H := Lib.hid (szLines_take xs k hlt)
      clear hr R1
      go_wp2_with (go_at_call 153; refine (szTextLine_c _ Q1.out n ⟨hn0, by omega⟩).mono ?_; rintro e w1 ⟨⟨r, rfl, hr1, hr2⟩, hb1⟩)
      · go_ret
        exact ⟨⟨-1, rfl, by omega, by omega⟩, hb.trans (hb1.mono hbs)⟩
      · go_roundw
        case rel => exact ⟨k + 1, by omega, by go_num, ⟨r, by omega, by omega, by show _ ≤ _; have h1 := hn.out; have := hr2 (by omega); rw [H.out]; omega, rfl⟩, hb.trans (hb1.mono hbs)⟩
        case measure => simp [intOf]; omega
    · obtain rfl : k = xs.length := by omega
      clear hr
      go_wp2_with fail
      go_ret
      refine ⟨⟨n, rfl, by omega, fun _ => ?_⟩, hb⟩
      have h1 := hn.out
      rw [List.take_length] at h1
      unfold szLines
      omega
end Go.Proofs.YtkfadfddhbpngaaGreat

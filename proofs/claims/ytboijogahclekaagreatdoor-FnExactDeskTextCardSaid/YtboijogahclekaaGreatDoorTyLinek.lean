/- The type TextLine: its data, how it lies in memory, and the law's own helpers over it. Conditions: none. -/
import Derived.Test.YtboijogahclekaaGreatDoorRows
import Derived.Test.YtboijogahclekaaGreatDoorTyStepk
namespace Go.Proofs.YtboijogahclekaaGreatDoor
open Go Go.RowKit
abbrev PLine := List ByteArray
def pLine : Ty PLine := strs 9
def pLines (e : TypeId) : Ty (List PLine) := pLine.slice e
theorem pLine_one {o : Bool} {w : World} {xs : PLine} {cs : List Value} {F : List Nat} (h : pLine.rep o w xs cs F) : ∃ v, cs = [v] := by
 obtain ⟨A, c, ec, F0, F1, rfl, _⟩ := h
 exact ⟨_, rfl⟩
theorem pLines_open {o : Bool} {w : World} {e : TypeId} {xs : List PLine} {v : Value} {F : List Nat} (h : (pLines e).rep o w xs [v] F) :
 ∃ A c, v = .slice A xs.length c ∧ xs.length ≤ c ∧ c ≤ maxLen ∧ ∀ k (hk : k < xs.length), ∃ b off u Fk, A = some ⟨b, off, none⟩ ∧ b < w.heap.size ∧ b ∈ F ∧
  (strs 9).rep o w xs[k] [u] Fk ∧ (∀ x ∈ Fk, x ∈ F) ∧ w.cell? ⟨b, off + k, none⟩ = some u := by
 obtain ⟨A, c, hv, h1, h2, h3⟩ := slice_open h
 refine ⟨A, c, hv, h1, h2, fun k hk => ?_⟩
 obtain ⟨b, off, ck, Fk, hA, hb, hin, hr, hF, hc⟩ := h3 k hk
 obtain ⟨u, rfl⟩ := pLine_one hr
 have h0 := hc 0 _ rfl
 rw [show k * pLine.size + 0 = k from Nat.mul_one k] at h0
 exact ⟨b, off, u, Fk, hA, hb, hin, hr, hF, h0⟩
set_option maxHeartbeats 400000 in
theorem eqTextLine_c {oa ob : Bool} {ea eb : TypeId} {xs ys : PLine} {v u : Value} {F G : List Nat} (w : World) (h : (strs ea).rep oa w xs [v] F) (h' : (strs eb).rep ob w ys [u] G) (hx : xs.length ≤ 1048576) (hy : ys.length ≤ 1048576) :
 Calls Tryz.prog 93 #[.agg #[v], .agg #[u]] w fun e w' => e = .returned (.bool (decide (xs = ys))) ∧ Below w.heap.size w w' := by
 cases hd : decide (xs = ys)
 all_goals
  go_enter Tryz.func93, Tryz.ntmps93
  go_wp2_with (go_at_call 44; refine (eqStringS_c _ ((h.alloc _).alloc _) ((h'.alloc _).alloc _) hx hy).mono ?_; rw [hd]; rintro e w1 ⟨rfl, hb1⟩)
  go_ret
  exact ⟨rfl, ((((Below.refl _ _).alloc (Nat.le_refl _) _).alloc (by simp) _).trans (hb1.mono (by simp; omega)))⟩
set_option maxRecDepth 100000 in
set_option maxHeartbeats 1000000 in
theorem eqTextLineS_c {oa ob : Bool} {ea eb : TypeId} {xs ys : List PLine} {v u : Value} {F G : List Nat} (w : World) (h : (pLines ea).rep oa w xs [v] F) (h' : (pLines eb).rep ob w ys [u] G) (hx : xs.length ≤ 1048576) (hy : ys.length ≤ 1048576) (hxe : ∀ l ∈ xs, l.length ≤ 1048576) (hye : ∀ l ∈ ys, l.length ≤ 1048576) :
 Calls Tryz.prog 45 #[v, u] w fun e w' => e = .returned (.bool (decide (xs = ys))) ∧ Below w.heap.size w w' := by
 obtain ⟨A, c, rfl, hc1, hc2, hr⟩ := pLines_open h
 obtain ⟨B, d, rfl, hd1, hd2, hs⟩ := pLines_open h'
 clear h h'
 by_cases hl : xs.length = ys.length
 · have hne : ((xs.length : Int) != (ys.length : Int)) = false := by simp [hl]
   have HL := Lib.hid hl
   clear hl
   go_enter Tryz.func45, Tryz.ntmps45
   go_wp2_with fail
   go_loopw [5] (fun i wr => ∃ k : Nat, k ≤ xs.length ∧ i = .int .i64 k ∧ (∀ j (hj : j < xs.length) (hj' : j < ys.length), j < k → xs[j] = ys[j]) ∧ Below w.heap.size w wr) (fun i _ => xs.length - (intOf i).toNat)
   case atStart => exact ⟨0, Nat.zero_le _, rfl, fun _ _ _ h => by omega, Below.refl _ _⟩
   case round =>
    obtain ⟨k, hk, rfl, hall, hb⟩ := hrel
    have hbs := hb.size
    by_cases hlt : k < xs.length
    · have hlt' : k < ys.length := by have := HL.out; omega
      obtain ⟨b, off, v1, F1, rfl, hbb, _, R1, _, h0⟩ := hr k hlt
      obtain ⟨b', off', v2, F2, rfl, hbb', _, R2, _, g0⟩ := hs k hlt'
      rw [← hb.cell (p := ⟨b, _, none⟩) hbb] at h0
      rw [← hb.cell (p := ⟨b', _, none⟩) hbb'] at g0
      have Q1 := Lib.hid (R1.below hb)
      have Q2 := Lib.hid (R2.below hb)
      have L1 := hxe _ (List.getElem_mem hlt)
      have L2 := hye _ (List.getElem_mem hlt')
      have HA := Lib.hid hall
      clear hr hs hall R1 R2
      have C := fun (w' : World) (q1 : (strs 9).rep oa w' xs[k] [v1] F1) (q2 : (strs 9).rep ob w' ys[k] [v2] F2) => eqTextLine_c w' q1 q2 L1 L2
      by_cases hkk : xs[k] = ys[k]
      · simp only [decide_eq_true hkk] at C
        have HC := Lib.hid C
        have HK := Lib.hid hkk
        clear C hkk
        go_wp2_with fail
        go_still_tail 8, (by kernel_rfl)
        go_wp2_with (go_at_call 93; refine (HC.out _ Q1.out.drew Q2.out.drew).mono ?_; rintro e w1 ⟨rfl, hb1⟩)
        go_roundw
        case rel =>
         refine ⟨k + 1, by omega, by go_num, fun j hj hj' hjk => ?_, hb.drew.trans (hb1.mono hbs)⟩
         by_cases e : j = k
         · subst e; exact HK.out
         · exact HA.out j hj hj' (by omega)
        case measure => simp [intOf]; omega
      · simp only [decide_eq_false hkk] at C
        have HC := Lib.hid C
        have HK := Lib.hid hkk
        clear C hkk
        go_wp2_with fail
        go_still_tail 8, (by kernel_rfl)
        go_wp2_with (go_at_call 93; refine (HC.out _ Q1.out.drew Q2.out.drew).mono ?_; rintro e w1 ⟨rfl, hb1⟩)
        go_ret
        have hne : ¬ xs = ys := fun e => by subst e; exact HK.out rfl
        exact ⟨by simp [hne], hb.drew.trans (hb1.mono hbs)⟩
    · obtain rfl : k = xs.length := by omega
      have heq : xs = ys := List.ext_getElem HL.out (fun j h1 h2 => hall j h1 h2 h1)
      clear hall
      go_wp2_with fail
      go_ret
      exact ⟨by simp [heq], hb⟩
 · have hne : ((xs.length : Int) != (ys.length : Int)) = true := by rw [bne_iff_ne]; omega
   have hxy : ¬ xs = ys := fun e => hl (by rw [e])
   have HL := Lib.hid hxy
   clear hl hxy
   go_enter Tryz.func45, Tryz.ntmps45
   go_wp2_with fail
   go_ret
   exact ⟨by simp [HL.out], Below.refl _ _⟩
set_option maxHeartbeats 400000 in
theorem toTextLine_c {o : Bool} {e : TypeId} {xs : PLine} {v : Value} {F : List Nat} (w : World) (h : (strs e).rep o w xs [v] F) (hx : xs.length ≤ 1048576) :
 Calls Tryz.prog 68 #[.agg #[v]] w fun e' w' => ∃ u G, e' = .returned (.agg #[u]) ∧ (strs 9).rep true w' xs [u] G ∧ Fresh w.heap.size G ∧ Below w.heap.size w w' := by
 go_enter Tryz.func68, Tryz.ntmps68
 go_wp2_with (go_at_call 32; refine (toStringS_c _ (((h.alloc _).alloc _).alloc _) hx).mono ?_; rintro e' w1 ⟨u1, G1, rfl, r1, f1, hb1⟩; obtain ⟨A1, k1, rfl⟩ := slice_len r1; obtain ⟨hcc, hff⟩ := bcell hb1; have hzz := hb1.size)
 have b3 : Below w.heap.size w (((w.alloc (.cells #[v] 132)).alloc (.cells #[.slice none 0 0] 159)).alloc (.cells #[.slice none 0 0] 159)) :=
  ((((Below.refl _ _).alloc (Nat.le_refl _) _).alloc (by simp) _).alloc (by simp; omega) _)
 have hz3 : (((w.alloc (.cells #[v] 132)).alloc (.cells #[.slice none 0 0] 159)).alloc (.cells #[.slice none 0 0] 159)).heap.size = w.heap.size + 1 + 1 + 1 := by simp
 have hz1 : (w.alloc (.cells #[v] 132)).heap.size = w.heap.size + 1 := by simp
 have R := Row.new (w.alloc (.cells #[v] 132)) 159 #[.slice none 0 0]
 rw [hz1] at R
 have hcell := (((((R.alloc (.cells #[.slice none 0 0] 159)).later hb1).far (p := ⟨w.heap.size + 1 + 1, 0, none⟩) (by simp) (.slice A1 xs.length k1)).set 0 (.slice A1 xs.length k1)).cell' (i := 0) (u := .slice A1 xs.length k1) (by simp))
 refine bodyPost_ret (v := .agg #[.slice A1 xs.length k1]) (by simp [results, Tryz.results68, go_sem, hcell]) rfl ⟨_, G1, rfl, (r1.setCell ?_ _).setCell ?_ _, f1.mono (by omega), (((b3.trans (hb1.mono (by omega))).setCell ?_ _).setCell ?_ _)⟩
 · intro hin; have := f1.2 _ hin; simp at this; omega
 · intro hin; have := f1.2 _ hin; simp at this; omega
 · simp; omega
 · simp
set_option maxHeartbeats 1000000 in
theorem toTextLineS_c {o : Bool} {e : TypeId} {xs : List PLine} {v : Value} {F : List Nat} (w : World) (h : (pLines e).rep o w xs [v] F) (hx : xs.length ≤ 1048576) (hxe : ∀ l ∈ xs, l.length ≤ 1048576) :
 Calls Tryz.prog 33 #[v] w fun e w' => ∃ u G, e = .returned u ∧ (pLines 159).rep true w' xs [u] G ∧ Fresh w.heap.size G ∧ Below w.heap.size w w' := by
 obtain ⟨A, c, rfl, hc1, hc2, hr⟩ := pLines_open h
 have hmk := make_run (P := Tryz.prog) (t := 68) (e := 159) (z := .agg #[.slice none 0 0]) (size := 1) (bytes := 24) Tryz.underlying68 (by kernel_rfl) xs.length xs.length rfl (by omega) (by unfold maxLen; omega)
 go_enter Tryz.func33, Tryz.ntmps33
 go_wp2_with fail
 go_loopw [4] (fun i wr => ∃ k : Nat, k ≤ xs.length ∧ i = .int .i64 k ∧ ∃ cs G rest, Row wr w.heap.size 159 (cs ++ rest) ∧ repL pLine true wr (xs.take k) cs G ∧ Fresh (w.heap.size + 1) G ∧ rest.length = xs.length - k ∧ Below w.heap.size w wr) (fun i _ => xs.length - (intOf i).toNat)
 case atStart =>
  exact ⟨0, Nat.zero_le _, rfl, [], [], _, Row.new w _ _, ⟨rfl, rfl⟩, ⟨by simp, by simp⟩, by simp [madeCells], (Below.refl _ _).alloc (Nat.le_refl _) _⟩
 case round =>
  obtain ⟨k, hk, rfl, cs, G, rest, hrow, hrep, hfr, hrl, hb⟩ := hrel
  by_cases hlt : k < xs.length
  · obtain ⟨b, off, v1, F1, rfl, hbb, _, R1, _, h0⟩ := hr k hlt
    rw [← hb.cell (p := ⟨b, _, none⟩) hbb] at h0
    have hbs := hb.size
    have hrl2 := hrow.lt
    have hpl : cs.length = k := by
     have := repL_len hrep
     rw [List.length_take, Nat.min_eq_left (by omega)] at this
     rw [this]; exact Nat.mul_one k
    obtain ⟨r0, rest', rfl⟩ : ∃ r0 rest', rest = r0 :: rest' := by
     match rest, hrl with
     | r0 :: rest', _ => exact ⟨_, _, rfl⟩
     | [], h => simp at h; omega
    have L1 := hxe _ (List.getElem_mem hlt)
    have Q1 := Lib.hid (R1.below hb)
    have HR := Lib.hid hrow
    have HP := Lib.hid hrep
    have HF := Lib.hid hfr
    have HL := Lib.hid hpl
    clear hr h hmk R1 hrow hrep hfr hpl
    go_wp2_with (go_at_call 68; refine (toTextLine_c _ Q1.out L1).mono ?_; rintro e w1 ⟨u1, G1, rfl, r1, f1, hb1⟩; obtain ⟨A1, k1, rfl⟩ := slice_len r1; have hrow1 := HR.out.later hb1; obtain ⟨⟨v0, hv0⟩, hf0⟩ := hrow1.can (i := k) (by simp [HL.out]))
    go_roundw
    case rel =>
     have hz := hb1.size
     refine ⟨k + 1, by omega, by go_num, cs ++ [.slice A1 (xs[k]).length k1], G ++ G1, rest', ?_, ?_, ⟨?_, ?_⟩, by simp at hrl; omega, (hb.trans (hb1.mono hbs)).setCell (Nat.le_refl _) _⟩
     · have R := hrow1.put (j := 0) (i := k) (by rw [HL.out]; rfl) (.slice A1 (xs[k]).length k1)
       rw [List.append_assoc]
       exact R
     · rw [List.take_succ_eq_append_getElem hlt]
       refine repL_append (repL_set (repL_below HP.out hb1) ?_ _) (repL_single.2 (r1.setCell ?_ _))
       · intro hin; have := HF.out.2 _ hin; simp at this; omega
       · intro hin; have := f1.2 _ hin; simp at this; omega
     · refine List.nodup_append.2 ⟨HF.out.1, f1.1, fun x h1 y h2 e => ?_⟩
       subst e
       have := repL_lt HP.out x h1; have := f1.2 x h2; omega
     · intro x hx
       rcases List.mem_append.1 hx with h | h
       · exact HF.out.2 x h
       · have := f1.2 x h; omega
    case measure => simp [intOf]; omega
  · obtain rfl : k = xs.length := by omega
    go_wp2_with fail
    go_ret
    have h0 : rest = [] := List.eq_nil_of_length_eq_zero (by simpa using hrl)
    subst h0
    rw [List.append_nil] at hrow
    rw [List.take_length] at hrep
    exact ⟨_, w.heap.size :: G, rfl, slice_of_row hrow hrep (by unfold maxLen; omega), ⟨List.nodup_cons.2 ⟨fun hin => by have := hfr.2 _ hin; omega, hfr.1⟩, fun x hx => by rcases List.mem_cons.1 hx with rfl | h; exact Nat.le_refl _; have := hfr.2 x h; omega⟩, hb⟩
def szLines (xs : List PLine) : Nat := xs.length + (xs.map szStrs).sum
theorem szLines_take (xs : List PLine) (k : Nat) (h : k < xs.length) : ((xs.take (k+1)).map szStrs).sum = ((xs.take k).map szStrs).sum + szStrs xs[k] := by
 rw [List.take_succ_eq_append_getElem h, List.map_append, List.sum_append]; simp
theorem mem_sum {l : List Nat} {n : Nat} (h : n ∈ l) : n ≤ l.sum := by
 induction l with
 | nil => cases h
 | cons a r ih =>
   rw [List.sum_cons]
   rcases List.mem_cons.1 h with rfl | h
   · omega
   · have := ih h; omega
theorem szStrs_each {xs : List ByteArray} {n : Nat} (h : szStrs xs ≤ n) : xs.length ≤ n ∧ ∀ s ∈ xs, s.size ≤ n := by
 unfold szStrs at h
 refine ⟨by omega, fun s hs => ?_⟩
 have := mem_sum (List.mem_map.2 ⟨s, hs, rfl⟩ : s.size ∈ xs.map ByteArray.size)
 omega
theorem szLines_each {xs : List PLine} {n : Nat} (h : szLines xs ≤ n) : xs.length ≤ n ∧ ∀ l ∈ xs, l.length ≤ n ∧ ∀ s ∈ l, s.size ≤ n := by
 unfold szLines at h
 refine ⟨by omega, fun l hl => szStrs_each ?_⟩
 have := mem_sum (List.mem_map.2 ⟨l, hl, rfl⟩ : szStrs l ∈ xs.map szStrs)
 omega
set_option maxHeartbeats 400000 in
theorem szTextLine_c {o : Bool} {e : TypeId} {xs : PLine} {v : Value} {F : List Nat} (w : World) (h : (strs e).rep o w xs [v] F) (left : Int) (hl : 0 ≤ left ∧ left ≤ 1048576) :
 Calls Tryz.prog 51 #[.agg #[v], .int .i64 left] w fun e' w' => (∃ r : Int, e' = .returned (.int .i64 r) ∧ r ≤ left ∧ (0 ≤ r → r + szStrs xs ≤ left)) ∧ Below w.heap.size w w' := by
 go_enter Tryz.func51, Tryz.ntmps51
 go_wp2_with (go_at_call 23; refine (szStringS_c _ (h.alloc _) left hl).mono ?_; rintro e' w1 ⟨r, rfl, hr1, hr2, rfl⟩)
 · go_ret
   exact ⟨⟨-1, rfl, by omega, by omega⟩, (Below.refl _ _).alloc (Nat.le_refl _) _⟩
 · go_ret
   exact ⟨⟨r, rfl, hr1, hr2⟩, (Below.refl _ _).alloc (Nat.le_refl _) _⟩
set_option maxHeartbeats 1000000 in
theorem szTextLineS_c {o : Bool} {e : TypeId} {xs : List PLine} {v : Value} {F : List Nat} (w : World) (h : (pLines e).rep o w xs [v] F) (left : Int) (hl : 0 ≤ left ∧ left ≤ 1048576) :
 Calls Tryz.prog 24 #[v, .int .i64 left] w fun e w' => (∃ r : Int, e = .returned (.int .i64 r) ∧ r ≤ left ∧ (0 ≤ r → r + szLines xs ≤ left)) ∧ Below w.heap.size w w' := by
 obtain ⟨A, c, rfl, hc1, hc2, hr⟩ := pLines_open h
 clear h
 unfold maxLen at hc2
 by_cases h0 : left - xs.length < 0
 · go_enter Tryz.func24, Tryz.ntmps24
   go_wp2_with fail
   go_ret
   exact ⟨⟨-1, rfl, by omega, by omega⟩, Below.refl _ _⟩
 · have h1 : ¬ (left - (xs.length : Int) < 0) := h0
   go_enter Tryz.func24, Tryz.ntmps24
   go_wp2_with fail
   go_loopw [1, 5] (fun l i wr => ∃ k : Nat, k ≤ xs.length ∧ i = .int .i64 k ∧ (∃ n : Int, 0 ≤ n ∧ n ≤ left ∧ Hid (n + xs.length + ((xs.take k).map szStrs).sum ≤ left) ∧ l = .int .i64 n) ∧ Below w.heap.size w wr) (fun _ i _ => xs.length - (intOf i).toNat)
   case atStart => exact ⟨0, Nat.zero_le _, rfl, ⟨left - xs.length, by omega, by omega, by show _ ≤ _; simp, rfl⟩, Below.refl _ _⟩
   case round =>
    obtain ⟨k, hk, rfl, ⟨n, hn0, hn1, hn, rfl⟩, hb⟩ := hrel
    have hbs := hb.size
    by_cases hlt : k < xs.length
    · obtain ⟨b, off, v1, F1, rfl, hbb, _, R1, _, hc0⟩ := hr k hlt
      rw [← hb.cell (p := ⟨b, _, none⟩) hbb] at hc0
      have Q1 := Lib.hid (R1.below hb)
      have H := Lib.hid (szLines_take xs k hlt)
      clear hr R1
      go_wp2_with (go_at_call 51; refine (szTextLine_c _ Q1.out n ⟨hn0, by omega⟩).mono ?_; rintro e w1 ⟨⟨r, rfl, hr1, hr2⟩, hb1⟩)
      · go_ret
        exact ⟨⟨-1, rfl, by omega, by omega⟩, hb.trans (hb1.mono hbs)⟩
      · go_roundw
        case rel => exact ⟨k + 1, by omega, by go_num, ⟨r, by omega, by omega, by show _ ≤ _; have h1 := hn.out; have := hr2 (by omega); rw [H.out]; omega, rfl⟩, hb.trans (hb1.mono hbs)⟩
        case measure => simp [intOf]; omega
    · obtain rfl : k = xs.length := by omega
      clear hr
      go_wp2_with fail
      go_ret
      refine ⟨⟨n, rfl, by omega, fun _ => ?_⟩, hb⟩
      have h1 := hn.out
      rw [List.take_length] at h1
      unfold szLines
      omega
def wordsIn (xs : List PLine) : Nat := (xs.map List.length).sum
structure PPage where
 lines : List PLine
 done : List PStep
 undone : List PStep
 deriving DecidableEq
def PageIs (el es : TypeId) (o : Bool) (w : World) (p : PPage) (v : Value) (F : List Nat) : Prop :=
 ∃ a b c F1 F2 F3, v = .agg #[a, b, c] ∧ F = F1 ++ (F2 ++ F3) ∧ (pLines el).rep o w p.lines [a] F1 ∧ (pSteps es).rep o w p.done [b] F2 ∧ (pSteps es).rep o w p.undone [c] F3
structure PSmall (p : PPage) : Prop where
 l : p.lines.length ≤ 1048576
 w : ∀ x ∈ p.lines, x.length ≤ 1048576
 n : wordsIn p.lines ≤ 1048576
 d : p.done.length ≤ 1048576
 u : p.undone.length ≤ 1048576
section
variable {el es : TypeId} {o : Bool} {w w' : World} {p : PPage} {v : Value} {F G : List Nat}
theorem PageIs.below (h : PageIs el es o w p v F) (hb : Below w.heap.size w w') : PageIs el es o w' p v F := by
 obtain ⟨a, b, c, F1, F2, F3, rfl, rfl, h1, h2, h3⟩ := h
 exact ⟨a, b, c, F1, F2, F3, rfl, rfl, h1.below hb, h2.below hb, h3.below hb⟩
theorem PageIs.only (h : PageIs el es o w p v F) (hb : Only G w w') (hd : ∀ x ∈ F, x ∉ G) : PageIs el es o w' p v F := by
 obtain ⟨a, b, c, F1, F2, F3, rfl, rfl, h1, h2, h3⟩ := h
 exact ⟨a, b, c, F1, F2, F3, rfl, rfl, h1.only hb (fun x hx => hd x (by simp [hx])), h2.only hb (fun x hx => hd x (by simp [hx])), h3.only hb (fun x hx => hd x (by simp [hx]))⟩
theorem PageIs.blocks (h : PageIs el es o w p v F) : ∀ x ∈ F, x < w.heap.size := by
 obtain ⟨a, b, c, F1, F2, F3, rfl, rfl, h1, h2, h3⟩ := h
 intro x hx
 simp only [List.mem_append] at hx
 rcases hx with hx | hx | hx
 · exact h1.blocks x hx
 · exact h2.blocks x hx
 · exact h3.blocks x hx
theorem Row.only {g : Nat} {e : TypeId} {cs : List Value} (h : Row w g e cs) (ho : Only F w w') (hg : g ∉ F) : Row w' g e cs := (ho.block g h.lt hg).trans h
end
set_option maxHeartbeats 1000000 in
theorem eqPage_c {el es el' es' : TypeId} {o o' : Bool} {p q : PPage} {v u : Value} {F G : List Nat} (w : World) (h : PageIs el es o w p v F) (h' : PageIs el' es' o' w q u G) (hp : PSmall p) (hq : PSmall q) :
 Calls Tryz.prog 19 #[v, u] w fun e w' => e = .returned (.bool (decide (p = q))) ∧ Below w.heap.size w w' := by
 obtain ⟨a, b, c, F1, F2, F3, rfl, rfl, h1, h2, h3⟩ := h
 obtain ⟨a', b', c', F1', F2', F3', rfl, rfl, g1, g2, g3⟩ := h'
 have e : decide (p = q) = (decide (p.lines = q.lines) && (decide (p.done = q.done) && decide (p.undone = q.undone))) := by
  rw [← Bool.decide_and, ← Bool.decide_and]; apply decide_eq_decide.2; cases p; cases q; simp
 rw [e]
 have C1 := fun w' (k1 : (pLines el).rep o w' p.lines [a] F1) (k2 : (pLines el').rep o' w' q.lines [a'] F1') => eqTextLineS_c w' k1 k2 hp.l hq.l hp.w hq.w
 have C2 := fun w' (k1 : (pSteps es).rep o w' p.done [b] F2) (k2 : (pSteps es').rep o' w' q.done [b'] F2') => eqStepS_c w' k1 k2 hp.d hq.d
 have C3 := fun w' (k1 : (pSteps es).rep o w' p.undone [c] F3) (k2 : (pSteps es').rep o' w' q.undone [c'] F3') => eqStepS_c w' k1 k2 hp.u hq.u
 obtain ⟨A1, k1, rfl⟩ := slice_len h1
 obtain ⟨A2, k2, rfl⟩ := slice_len h2
 obtain ⟨A3, k3, rfl⟩ := slice_len h3
 obtain ⟨B1, m1, rfl⟩ := slice_len g1
 obtain ⟨B2, m2, rfl⟩ := slice_len g2
 obtain ⟨B3, m3, rfl⟩ := slice_len g3
 generalize decide (p.lines = q.lines) = d1 at *
 generalize decide (p.done = q.done) = d2 at *
 generalize decide (p.undone = q.undone) = d3 at *
 clear e
 have H1 := Lib.hid C1
 have H2 := Lib.hid C2
 have H3 := Lib.hid C3
 clear C1 C2 C3
 have al : ∀ x y, Below w.heap.size w ((w.alloc x).alloc y) := fun x y => ((Below.refl _ _).alloc (Nat.le_refl _) x).alloc (by simp) y
 cases d1
 · go_enter Tryz.func19, Tryz.ntmps19
   go_wp2_with (go_at_call 45; refine (H1.out _ ((h1.alloc _).alloc _) ((g1.alloc _).alloc _)).mono ?_; rintro e w1 ⟨rfl, hb1⟩)
   go_ret
   exact ⟨rfl, (al _ _).trans (hb1.mono (by simp; omega))⟩
 · cases d2
   · go_enter Tryz.func19, Tryz.ntmps19
     go_wp2_with (go_at_call 45; refine (H1.out _ ((h1.alloc _).alloc _) ((g1.alloc _).alloc _)).mono ?_; rintro e w1 ⟨rfl, hb1⟩; have r2 := ((h2.alloc _).alloc _).below hb1; have s2 := ((g2.alloc _).alloc _).below hb1; have bb1 := (al _ _).trans (hb1.mono (by simp; omega)); obtain ⟨hcc, hff⟩ := bcell hb1)
     go_wp2_with (go_at_call 46; refine (H2.out _ r2 s2).mono ?_; rintro e w2 ⟨rfl, hb2⟩)
     go_ret
     exact ⟨rfl, bt bb1 hb2⟩
   · cases d3
     all_goals
      go_enter Tryz.func19, Tryz.ntmps19
      go_wp2_with (go_at_call 45; refine (H1.out _ ((h1.alloc _).alloc _) ((g1.alloc _).alloc _)).mono ?_; rintro e w1 ⟨rfl, hb1⟩; have r2 := ((h2.alloc _).alloc _).below hb1; have s2 := ((g2.alloc _).alloc _).below hb1; have r3 := ((h3.alloc _).alloc _).below hb1; have s3 := ((g3.alloc _).alloc _).below hb1; have bb1 := (al _ _).trans (hb1.mono (by simp; omega)); obtain ⟨hcc, hff⟩ := bcell hb1)
      go_wp2_with fail
      refine (H2.out _ r2 s2).mono ?_
      rintro e w2 ⟨rfl, hb2⟩
      clear hcc hff
      obtain ⟨hcc, hff⟩ := bcell (bt hb1 hb2)
      go_wp2_with fail
      refine (H3.out _ (r3.below hb2) (s3.below hb2)).mono ?_
      rintro e w3 ⟨rfl, hb3⟩
      go_wp2_with fail
      go_ret
      exact ⟨rfl, bt (bt bb1 hb2) hb3⟩
def marksIn (p : PPage) : Nat := wordsIn p.lines + p.done.length * 5 + p.undone.length * 5
end Go.Proofs.YtboijogahclekaaGreatDoor

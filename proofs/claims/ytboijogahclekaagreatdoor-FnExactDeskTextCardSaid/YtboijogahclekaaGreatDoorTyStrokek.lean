/- The type Stroke: its data, how it lies in memory, and the law's own helpers over it. Conditions: none. -/
import Derived.Test.YtboijogahclekaaGreatDoorRows
import Derived.Test.YtboijogahclekaaGreatDoorTyBigramk
import Derived.Test.YtboijogahclekaaGreatDoorTyTempk
import Derived.Test.YtboijogahclekaaGreatDoorTyEntryk
namespace Go.Proofs.YtboijogahclekaaGreatDoor
open Go Go.RowKit
abbrev PStroke := List PPoint
def pStroke (ep : TypeId) : Ty PStroke := pPoints ep
def pStrokes (ep e : TypeId) : Ty (List PStroke) := (pStroke ep).slice e
theorem pStroke_one {ep : TypeId} {o : Bool} {w : World} {xs : PStroke} {cs : List Value} {F : List Nat} (h : (pStroke ep).rep o w xs cs F) : ∃ v, cs = [v] := by
 obtain ⟨A, c, ec, F0, F1, rfl, _⟩ := h
 exact ⟨_, rfl⟩
theorem pStrokes_open {ep : TypeId} {o : Bool} {w : World} {e : TypeId} {xs : List PStroke} {v : Value} {F : List Nat} (h : (pStrokes ep e).rep o w xs [v] F) :
 ∃ A c, v = .slice A xs.length c ∧ xs.length ≤ c ∧ c ≤ maxLen ∧ ∀ k (hk : k < xs.length), ∃ b off u Fk, A = some ⟨b, off, none⟩ ∧ b < w.heap.size ∧ b ∈ F ∧
  (pPoints ep).rep o w xs[k] [u] Fk ∧ (∀ x ∈ Fk, x ∈ F) ∧ w.cell? ⟨b, off + k, none⟩ = some u := by
 obtain ⟨A, c, hv, h1, h2, h3⟩ := slice_open h
 refine ⟨A, c, hv, h1, h2, fun k hk => ?_⟩
 obtain ⟨b, off, ck, Fk, hA, hb, hin, hr, hF, hc⟩ := h3 k hk
 obtain ⟨u, rfl⟩ := pStroke_one hr
 have h0 := hc 0 _ rfl
 rw [show k * (pStroke ep).size + 0 = k from Nat.mul_one k] at h0
 exact ⟨b, off, u, Fk, hA, hb, hin, hr, hF, h0⟩
set_option maxHeartbeats 400000 in
theorem eqStroke_c {oa ob : Bool} {ea eb : TypeId} {xs ys : PStroke} {v u : Value} {F G : List Nat} (w : World) (h : (pPoints ea).rep oa w xs [v] F) (h' : (pPoints eb).rep ob w ys [u] G) (hx : xs.length ≤ 1048576) (hy : ys.length ≤ 1048576) :
 Calls Tryz.prog 131 #[.agg #[v], .agg #[u]] w fun e w' => e = .returned (.bool (decide (xs = ys))) ∧ Below w.heap.size w w' := by
 cases hd : decide (xs = ys)
 all_goals
  go_enter Tryz.func131, Tryz.ntmps131
  go_wp2_with (go_at_call 43; refine (eqPointS_c _ ((h.alloc _).alloc _) ((h'.alloc _).alloc _) hx hy).mono ?_; rw [hd]; rintro e w1 ⟨rfl, hb1⟩)
  go_ret
  exact ⟨rfl, ((((Below.refl _ _).alloc (Nat.le_refl _) _).alloc (by simp) _).trans (hb1.mono (by simp; omega)))⟩
set_option maxRecDepth 100000 in
set_option maxHeartbeats 1000000 in
theorem eqStrokeS_c {oa ob : Bool} {pa pb ea eb : TypeId} {xs ys : List PStroke} {v u : Value} {F G : List Nat} (w : World) (h : (pStrokes pa ea).rep oa w xs [v] F) (h' : (pStrokes pb eb).rep ob w ys [u] G) (hx : xs.length ≤ 1048576) (hy : ys.length ≤ 1048576) (hxe : ∀ l ∈ xs, l.length ≤ 1048576) (hye : ∀ l ∈ ys, l.length ≤ 1048576) :
 Calls Tryz.prog 91 #[v, u] w fun e w' => e = .returned (.bool (decide (xs = ys))) ∧ Below w.heap.size w w' := by
 obtain ⟨A, c, rfl, hc1, hc2, hr⟩ := pStrokes_open h
 obtain ⟨B, d, rfl, hd1, hd2, hs⟩ := pStrokes_open h'
 clear h h'
 by_cases hl : xs.length = ys.length
 · have hne : ((xs.length : Int) != (ys.length : Int)) = false := by simp [hl]
   have HL := Lib.hid hl
   clear hl
   go_enter Tryz.func91, Tryz.ntmps91
   go_wp2_with fail
   go_loopw [5] (fun i wr => ∃ k : Nat, k ≤ xs.length ∧ i = .int .i64 k ∧ (∀ j (hj : j < xs.length) (hj' : j < ys.length), j < k → xs[j] = ys[j]) ∧ Below w.heap.size w wr) (fun i _ => xs.length - (intOf i).toNat)
   case atStart => exact ⟨0, Nat.zero_le _, rfl, fun _ _ _ h => by omega, Below.refl _ _⟩
   case round =>
    obtain ⟨k, hk, rfl, hall, hb⟩ := hrel
    have hbs := hb.size
    by_cases hlt : k < xs.length
    · have hlt' : k < ys.length := by have := HL.out; omega
      obtain ⟨b, off, v1, F1, rfl, hbb, _, R1, _, h0⟩ := hr k hlt
      obtain ⟨b', off', v2, F2, rfl, hbb', _, R2, _, g0⟩ := hs k hlt'
      rw [← hb.cell (p := ⟨b, _, none⟩) hbb] at h0
      rw [← hb.cell (p := ⟨b', _, none⟩) hbb'] at g0
      have Q1 := Lib.hid (R1.below hb)
      have Q2 := Lib.hid (R2.below hb)
      have L1 := hxe _ (List.getElem_mem hlt)
      have L2 := hye _ (List.getElem_mem hlt')
      have HA := Lib.hid hall
      clear hr hs hall R1 R2
      have C := fun (w' : World) (q1 : (pPoints pa).rep oa w' xs[k] [v1] F1) (q2 : (pPoints pb).rep ob w' ys[k] [v2] F2) => eqStroke_c w' q1 q2 L1 L2
      by_cases hkk : xs[k] = ys[k]
      · simp only [decide_eq_true hkk] at C
        have HC := Lib.hid C
        have HK := Lib.hid hkk
        clear C hkk
        go_wp2_with fail
        go_still_tail 8, (by kernel_rfl)
        go_wp2_with (go_at_call 131; refine (HC.out _ Q1.out.drew Q2.out.drew).mono ?_; rintro e w1 ⟨rfl, hb1⟩)
        go_roundw
        case rel =>
         refine ⟨k + 1, by omega, by go_num, fun j hj hj' hjk => ?_, hb.drew.trans (hb1.mono hbs)⟩
         by_cases e : j = k
         · subst e; exact HK.out
         · exact HA.out j hj hj' (by omega)
        case measure => simp [intOf]; omega
      · simp only [decide_eq_false hkk] at C
        have HC := Lib.hid C
        have HK := Lib.hid hkk
        clear C hkk
        go_wp2_with fail
        go_still_tail 8, (by kernel_rfl)
        go_wp2_with (go_at_call 131; refine (HC.out _ Q1.out.drew Q2.out.drew).mono ?_; rintro e w1 ⟨rfl, hb1⟩)
        go_ret
        have hne : ¬ xs = ys := fun e => by subst e; exact HK.out rfl
        exact ⟨by simp [hne], hb.drew.trans (hb1.mono hbs)⟩
    · obtain rfl : k = xs.length := by omega
      have heq : xs = ys := List.ext_getElem HL.out (fun j h1 h2 => hall j h1 h2 h1)
      clear hall
      go_wp2_with fail
      go_ret
      exact ⟨by simp [heq], hb⟩
 · have hne : ((xs.length : Int) != (ys.length : Int)) = true := by rw [bne_iff_ne]; omega
   have hxy : ¬ xs = ys := fun e => hl (by rw [e])
   have HL := Lib.hid hxy
   clear hl hxy
   go_enter Tryz.func91, Tryz.ntmps91
   go_wp2_with fail
   go_ret
   exact ⟨by simp [HL.out], Below.refl _ _⟩
set_option maxHeartbeats 400000 in
theorem toStroke_c {o : Bool} {e : TypeId} {xs : PStroke} {v : Value} {F : List Nat} (w : World) (h : (pPoints e).rep o w xs [v] F) (hx : xs.length ≤ 1048576) :
 Calls Tryz.prog 111 #[.agg #[v]] w fun e' w' => ∃ u G, e' = .returned (.agg #[u]) ∧ (pPoints 147).rep true w' xs [u] G ∧ Fresh w.heap.size G ∧ Below w.heap.size w w' := by
 go_enter Tryz.func111, Tryz.ntmps111
 go_wp2_with (go_at_call 31; refine (toPointS_c _ (((h.alloc _).alloc _).alloc _) hx).mono ?_; rintro e' w1 ⟨u1, G1, rfl, r1, f1, hb1⟩; obtain ⟨A1, k1, rfl⟩ := slice_len r1; obtain ⟨hcc, hff⟩ := bcell hb1; have hzz := hb1.size)
 have b3 : Below w.heap.size w (((w.alloc (.cells #[v] 186)).alloc (.cells #[.slice none 0 0] 143)).alloc (.cells #[.slice none 0 0] 143)) :=
  ((((Below.refl _ _).alloc (Nat.le_refl _) _).alloc (by simp) _).alloc (by simp; omega) _)
 have hz3 : (((w.alloc (.cells #[v] 186)).alloc (.cells #[.slice none 0 0] 143)).alloc (.cells #[.slice none 0 0] 143)).heap.size = w.heap.size + 1 + 1 + 1 := by simp
 have hz1 : (w.alloc (.cells #[v] 186)).heap.size = w.heap.size + 1 := by simp
 have R := Row.new (w.alloc (.cells #[v] 186)) 143 #[.slice none 0 0]
 rw [hz1] at R
 have hcell := (((((R.alloc (.cells #[.slice none 0 0] 143)).later hb1).far (p := ⟨w.heap.size + 1 + 1, 0, none⟩) (by simp) (.slice A1 xs.length k1)).set 0 (.slice A1 xs.length k1)).cell' (i := 0) (u := .slice A1 xs.length k1) (by simp))
 refine bodyPost_ret (v := .agg #[.slice A1 xs.length k1]) (by simp [results, Tryz.results111, go_sem, hcell]) rfl ⟨_, G1, rfl, (r1.setCell ?_ _).setCell ?_ _, f1.mono (by omega), (((b3.trans (hb1.mono (by omega))).setCell ?_ _).setCell ?_ _)⟩
 · intro hin; have := f1.2 _ hin; simp at this; omega
 · intro hin; have := f1.2 _ hin; simp at this; omega
 · simp; omega
 · simp
set_option maxHeartbeats 1000000 in
theorem toStrokeS_c {o : Bool} {pe e : TypeId} {xs : List PStroke} {v : Value} {F : List Nat} (w : World) (h : (pStrokes pe e).rep o w xs [v] F) (hx : xs.length ≤ 1048576) (hxe : ∀ l ∈ xs, l.length ≤ 1048576) :
 Calls Tryz.prog 66 #[v] w fun e w' => ∃ u G, e = .returned u ∧ (pStrokes 147 143).rep true w' xs [u] G ∧ Fresh w.heap.size G ∧ Below w.heap.size w w' := by
 obtain ⟨A, c, rfl, hc1, hc2, hr⟩ := pStrokes_open h
 have hmk := make_run (P := Tryz.prog) (t := 62) (e := 143) (z := .agg #[.slice none 0 0]) (size := 1) (bytes := 24) Tryz.underlying62 (by kernel_rfl) xs.length xs.length rfl (by omega) (by unfold maxLen; omega)
 go_enter Tryz.func66, Tryz.ntmps66
 go_wp2_with fail
 go_loopw [4] (fun i wr => ∃ k : Nat, k ≤ xs.length ∧ i = .int .i64 k ∧ ∃ cs G rest, Row wr w.heap.size 143 (cs ++ rest) ∧ repL (pStroke 147) true wr (xs.take k) cs G ∧ Fresh (w.heap.size + 1) G ∧ rest.length = xs.length - k ∧ Below w.heap.size w wr) (fun i _ => xs.length - (intOf i).toNat)
 case atStart =>
  exact ⟨0, Nat.zero_le _, rfl, [], [], _, Row.new w _ _, ⟨rfl, rfl⟩, ⟨by simp, by simp⟩, by simp [madeCells], (Below.refl _ _).alloc (Nat.le_refl _) _⟩
 case round =>
  obtain ⟨k, hk, rfl, cs, G, rest, hrow, hrep, hfr, hrl, hb⟩ := hrel
  by_cases hlt : k < xs.length
  · obtain ⟨b, off, v1, F1, rfl, hbb, _, R1, _, h0⟩ := hr k hlt
    rw [← hb.cell (p := ⟨b, _, none⟩) hbb] at h0
    have hbs := hb.size
    have hrl2 := hrow.lt
    have hpl : cs.length = k := by
     have := repL_len hrep
     rw [List.length_take, Nat.min_eq_left (by omega)] at this
     rw [this]; exact Nat.mul_one k
    obtain ⟨r0, rest', rfl⟩ : ∃ r0 rest', rest = r0 :: rest' := by
     match rest, hrl with
     | r0 :: rest', _ => exact ⟨_, _, rfl⟩
     | [], h => simp at h; omega
    have L1 := hxe _ (List.getElem_mem hlt)
    have Q1 := Lib.hid (R1.below hb)
    have HR := Lib.hid hrow
    have HP := Lib.hid hrep
    have HF := Lib.hid hfr
    have HL := Lib.hid hpl
    clear hr h hmk R1 hrow hrep hfr hpl
    go_wp2_with (go_at_call 111; refine (toStroke_c _ Q1.out L1).mono ?_; rintro e w1 ⟨u1, G1, rfl, r1, f1, hb1⟩; obtain ⟨A1, k1, rfl⟩ := slice_len r1; have hrow1 := HR.out.later hb1; obtain ⟨⟨v0, hv0⟩, hf0⟩ := hrow1.can (i := k) (by simp [HL.out]))
    go_roundw
    case rel =>
     have hz := hb1.size
     refine ⟨k + 1, by omega, by go_num, cs ++ [.slice A1 (xs[k]).length k1], G ++ G1, rest', ?_, ?_, ⟨?_, ?_⟩, by simp at hrl; omega, (hb.trans (hb1.mono hbs)).setCell (Nat.le_refl _) _⟩
     · have R := hrow1.put (j := 0) (i := k) (by rw [HL.out]; rfl) (.slice A1 (xs[k]).length k1)
       rw [List.append_assoc]
       exact R
     · rw [List.take_succ_eq_append_getElem hlt]
       refine repL_append (repL_set (repL_below HP.out hb1) ?_ _) (repL_single.2 (r1.setCell ?_ _))
       · intro hin; have := HF.out.2 _ hin; simp at this; omega
       · intro hin; have := f1.2 _ hin; simp at this; omega
     · refine List.nodup_append.2 ⟨HF.out.1, f1.1, fun x h1 y h2 e => ?_⟩
       subst e
       have := repL_lt HP.out x h1; have := f1.2 x h2; omega
     · intro x hx
       rcases List.mem_append.1 hx with h | h
       · exact HF.out.2 x h
       · have := f1.2 x h; omega
    case measure => simp [intOf]; omega
  · obtain rfl : k = xs.length := by omega
    go_wp2_with fail
    go_ret
    have h0 : rest = [] := List.eq_nil_of_length_eq_zero (by simpa using hrl)
    subst h0
    rw [List.append_nil] at hrow
    rw [List.take_length] at hrep
    exact ⟨_, w.heap.size :: G, rfl, slice_of_row hrow hrep (by unfold maxLen; omega), ⟨List.nodup_cons.2 ⟨fun hin => by have := hfr.2 _ hin; omega, hfr.1⟩, fun x hx => by rcases List.mem_cons.1 hx with rfl | h; exact Nat.le_refl _; have := hfr.2 x h; omega⟩, hb⟩
def szStrokes (xs : List PStroke) : Nat := xs.length + (xs.map List.length).sum
theorem szStrokes_take (xs : List PStroke) (k : Nat) (h : k < xs.length) : ((xs.take (k+1)).map List.length).sum = ((xs.take k).map List.length).sum + xs[k].length := by
 rw [List.take_succ_eq_append_getElem h, List.map_append, List.sum_append]; simp
set_option maxHeartbeats 400000 in
theorem szStroke_c {o : Bool} {e : TypeId} {xs : PStroke} {v : Value} {F : List Nat} (w : World) (h : (pPoints e).rep o w xs [v] F) (left : Int) (hl : 0 ≤ left ∧ left ≤ 1048576) :
 Calls Tryz.prog 98 #[.agg #[v], .int .i64 left] w fun e' w' => (∃ r : Int, e' = .returned (.int .i64 r) ∧ r ≤ left ∧ (0 ≤ r → r + xs.length ≤ left)) ∧ Below w.heap.size w w' := by
 have H := Lib.hid (fun w' (q : (pPoints e).rep o w' xs [v] F) => szPointS_c w' q left hl)
 go_enter Tryz.func98, Tryz.ntmps98
 go_wp2_with fail
 refine (H.out _ (h.alloc _)).mono ?_
 rintro e' w1 ⟨⟨r, rfl, _, hr1, hr2⟩, hb1⟩
 have bb : Below w.heap.size w w1 := ((Below.refl _ _).alloc (Nat.le_refl _) _).trans (hb1.mono (by simp))
 by_cases h0 : r < 0
 · go_wp2_with fail
   go_ret
   exact ⟨⟨-1, rfl, by omega, by omega⟩, bb⟩
 · go_wp2_with fail
   go_ret
   exact ⟨⟨r, rfl, hr1, hr2⟩, bb⟩
set_option maxHeartbeats 1000000 in
theorem szStrokeS_c {o : Bool} {pe e : TypeId} {xs : List PStroke} {v : Value} {F : List Nat} (w : World) (h : (pStrokes pe e).rep o w xs [v] F) (left : Int) (hl : 0 ≤ left ∧ left ≤ 1048576) :
 Calls Tryz.prog 50 #[v, .int .i64 left] w fun e w' => (∃ r : Int, e = .returned (.int .i64 r) ∧ r ≤ left ∧ (0 ≤ r → r + szStrokes xs ≤ left)) ∧ Below w.heap.size w w' := by
 obtain ⟨A, c, rfl, hc1, hc2, hr⟩ := pStrokes_open h
 clear h
 unfold maxLen at hc2
 by_cases h0 : left - xs.length < 0
 · go_enter Tryz.func50, Tryz.ntmps50
   go_wp2_with fail
   go_ret
   exact ⟨⟨-1, rfl, by omega, by omega⟩, Below.refl _ _⟩
 · have h1 : ¬ (left - (xs.length : Int) < 0) := h0
   go_enter Tryz.func50, Tryz.ntmps50
   go_wp2_with fail
   go_loopw [1, 5] (fun l i wr => ∃ k : Nat, k ≤ xs.length ∧ i = .int .i64 k ∧ (∃ n : Int, 0 ≤ n ∧ n ≤ left ∧ Hid (n + xs.length + ((xs.take k).map List.length).sum ≤ left) ∧ l = .int .i64 n) ∧ Below w.heap.size w wr) (fun _ i _ => xs.length - (intOf i).toNat)
   case atStart => exact ⟨0, Nat.zero_le _, rfl, ⟨left - xs.length, by omega, by omega, by show _ ≤ _; simp, rfl⟩, Below.refl _ _⟩
   case round =>
    obtain ⟨k, hk, rfl, ⟨n, hn0, hn1, hn, rfl⟩, hb⟩ := hrel
    have hbs := hb.size
    by_cases hlt : k < xs.length
    · obtain ⟨b, off, v1, F1, rfl, hbb, _, R1, _, hc0⟩ := hr k hlt
      rw [← hb.cell (p := ⟨b, _, none⟩) hbb] at hc0
      have Q1 := Lib.hid (R1.below hb)
      have H := Lib.hid (szStrokes_take xs k hlt)
      clear hr R1
      go_wp2_with (go_at_call 98; refine (szStroke_c _ Q1.out n ⟨hn0, by omega⟩).mono ?_; rintro e w1 ⟨⟨r, rfl, hr1, hr2⟩, hb1⟩)
      · go_ret
        exact ⟨⟨-1, rfl, by omega, by omega⟩, hb.trans (hb1.mono hbs)⟩
      · go_roundw
        case rel => exact ⟨k + 1, by omega, by go_num, ⟨r, by omega, by omega, by show _ ≤ _; have h1 := hn.out; have := hr2 (by omega); rw [H.out]; omega, rfl⟩, hb.trans (hb1.mono hbs)⟩
        case measure => simp [intOf]; omega
    · obtain rfl : k = xs.length := by omega
      clear hr
      go_wp2_with fail
      go_ret
      refine ⟨⟨n, rfl, by omega, fun _ => ?_⟩, hb⟩
      have h1 := hn.out
      rw [List.take_length] at h1
      unfold szStrokes
      omega
set_option maxHeartbeats 400000 in
theorem eqInk_c {oa ob : Bool} {pa pb ea eb : TypeId} {xs ys : List PStroke} {v u : Value} {F G : List Nat} (w : World) (h : (pStrokes pa ea).rep oa w xs [v] F) (h' : (pStrokes pb eb).rep ob w ys [u] G) (hx : xs.length ≤ 1048576) (hy : ys.length ≤ 1048576) (hxe : ∀ l ∈ xs, l.length ≤ 1048576) (hye : ∀ l ∈ ys, l.length ≤ 1048576) :
 Calls Tryz.prog 42 #[.agg #[v], .agg #[u]] w fun e w' => e = .returned (.bool (decide (xs = ys))) ∧ Below w.heap.size w w' := by
 cases hd : decide (xs = ys)
 all_goals
  go_enter Tryz.func42, Tryz.ntmps42
  go_wp2_with (go_at_call 91; refine (eqStrokeS_c _ ((h.alloc _).alloc _) ((h'.alloc _).alloc _) hx hy hxe hye).mono ?_; rw [hd]; rintro e w1 ⟨rfl, hb1⟩)
  go_ret
  exact ⟨rfl, ((((Below.refl _ _).alloc (Nat.le_refl _) _).alloc (by simp) _).trans (hb1.mono (by simp; omega)))⟩
set_option maxHeartbeats 400000 in
theorem toInk_c {o : Bool} {pe e : TypeId} {xs : List PStroke} {v : Value} {F : List Nat} (w : World) (h : (pStrokes pe e).rep o w xs [v] F) (hx : xs.length ≤ 1048576) (hxe : ∀ l ∈ xs, l.length ≤ 1048576) :
 Calls Tryz.prog 30 #[.agg #[v]] w fun e' w' => ∃ u G, e' = .returned (.agg #[u]) ∧ (pStrokes 147 143).rep true w' xs [u] G ∧ Fresh w.heap.size G ∧ Below w.heap.size w w' := by
 go_enter Tryz.func30, Tryz.ntmps30
 go_wp2_with (go_at_call 66; refine (toStrokeS_c _ (((h.alloc _).alloc _).alloc _) hx hxe).mono ?_; rintro e' w1 ⟨u1, G1, rfl, r1, f1, hb1⟩; obtain ⟨A1, k1, rfl⟩ := slice_len r1; obtain ⟨hcc, hff⟩ := bcell hb1; have hzz := hb1.size)
 have b3 : Below w.heap.size w (((w.alloc (.cells #[v] 37)).alloc (.cells #[.slice none 0 0] 64)).alloc (.cells #[.slice none 0 0] 64)) :=
  ((((Below.refl _ _).alloc (Nat.le_refl _) _).alloc (by simp) _).alloc (by simp; omega) _)
 have hz3 : (((w.alloc (.cells #[v] 37)).alloc (.cells #[.slice none 0 0] 64)).alloc (.cells #[.slice none 0 0] 64)).heap.size = w.heap.size + 1 + 1 + 1 := by simp
 have hz1 : (w.alloc (.cells #[v] 37)).heap.size = w.heap.size + 1 := by simp
 have R := Row.new (w.alloc (.cells #[v] 37)) 64 #[.slice none 0 0]
 rw [hz1] at R
 have hcell := (((((R.alloc (.cells #[.slice none 0 0] 64)).later hb1).far (p := ⟨w.heap.size + 1 + 1, 0, none⟩) (by simp) (.slice A1 xs.length k1)).set 0 (.slice A1 xs.length k1)).cell' (i := 0) (u := .slice A1 xs.length k1) (by simp))
 refine bodyPost_ret (v := .agg #[.slice A1 xs.length k1]) (by simp [results, Tryz.results30, go_sem, hcell]) rfl ⟨_, G1, rfl, (r1.setCell ?_ _).setCell ?_ _, f1.mono (by omega), (((b3.trans (hb1.mono (by omega))).setCell ?_ _).setCell ?_ _)⟩
 · intro hin; have := f1.2 _ hin; simp at this; omega
 · intro hin; have := f1.2 _ hin; simp at this; omega
 · simp; omega
 · simp
set_option maxHeartbeats 400000 in
theorem szInk_c {o : Bool} {pe e : TypeId} {xs : List PStroke} {v : Value} {F : List Nat} (w : World) (h : (pStrokes pe e).rep o w xs [v] F) (left : Int) (hl : 0 ≤ left ∧ left ≤ 1048576) :
 Calls Tryz.prog 21 #[.agg #[v], .int .i64 left] w fun e' w' => (∃ r : Int, e' = .returned (.int .i64 r) ∧ r ≤ left ∧ (0 ≤ r → r + szStrokes xs ≤ left)) ∧ Below w.heap.size w w' := by
 have H := Lib.hid (fun w' (q : (pStrokes pe e).rep o w' xs [v] F) => szStrokeS_c w' q left hl)
 go_enter Tryz.func21, Tryz.ntmps21
 go_wp2_with fail
 refine (H.out _ (h.alloc _)).mono ?_
 rintro e' w1 ⟨⟨r, rfl, hr1, hr2⟩, hb1⟩
 have bb : Below w.heap.size w w1 := ((Below.refl _ _).alloc (Nat.le_refl _) _).trans (hb1.mono (by simp))
 by_cases h0 : r < 0
 · go_wp2_with fail
   go_ret
   exact ⟨⟨-1, rfl, by omega, by omega⟩, bb⟩
 · go_wp2_with fail
   go_ret
   exact ⟨⟨r, rfl, hr1, hr2⟩, bb⟩
structure PSetup where
 band : Int
 temps : List PTemp
 points : Int
 most : Int
 pen : Int
 entries : List PEntry
 dflt : Int
 bigrams : List PBigram
 pause : Int
 deriving DecidableEq
structure PSess where
 setup : PSetup
 strokes : List PStroke
 opn : List PPoint
 time : Int
 words : List ByteArray
 deriving DecidableEq
structure SeSmall (p : PSetup) : Prop where
 t : p.temps.length ≤ 1048576
 f : ∀ l ∈ p.temps, l.feats.length ≤ 1048576
 e : p.entries.length ≤ 1048576
 b : p.bigrams.length ≤ 1048576
structure SsSmall (q : PSess) : Prop where
 s : SeSmall q.setup
 i : q.strokes.length ≤ 1048576
 j : ∀ l ∈ q.strokes, l.length ≤ 1048576
 o : q.opn.length ≤ 1048576
 w : q.words.length ≤ 1048576
structure SeBytes (p : PSetup) : Prop where
 t : ∀ l ∈ p.temps, l.label.size ≤ 1048576
 e : ∀ l ∈ p.entries, l.word.size ≤ 1048576
 b : ∀ l ∈ p.bigrams, l.first.size ≤ 1048576 ∧ l.second.size ≤ 1048576
structure SsBytes (q : PSess) : Prop where
 s : SeBytes q.setup
 w : ∀ l ∈ q.words, l.size ≤ 1048576
def szSe (p : PSetup) : Nat := szTemps p.temps + szpEntry p.entries + szpBigram p.bigrams
def szSs (q : PSess) : Nat := szSe q.setup + szStrokes q.strokes + q.opn.length + szStrs q.words
def sameSetupB (p q : PSetup) : Bool :=
 (decide (p.band = q.band) && decide (p.temps = q.temps)) && (decide ((⟨p.points, p.most, p.pen⟩ : PSetting) = ⟨q.points, q.most, q.pen⟩) && (decide (p.entries = q.entries) && ((decide (p.dflt = q.dflt) && decide (p.bigrams = q.bigrams)) && decide (p.pause = q.pause))))
def sameSessB (p q : PSess) : Bool := sameSetupB p.setup q.setup && (decide (p.strokes = q.strokes) && (decide (p.opn = q.opn) && (decide (p.time = q.time) && decide (p.words = q.words))))
theorem sameSetupB_iff (p q : PSetup) : sameSetupB p q = true ↔ p = q := by
 cases p; cases q
 simp only [sameSetupB, Bool.and_eq_true, decide_eq_true_eq, PSetting.mk.injEq, PSetup.mk.injEq]
 constructor
 · rintro ⟨⟨h1, h2⟩, ⟨h3, h4, h5⟩, h6, ⟨h7, h8⟩, h9⟩; exact ⟨h1, h2, h3, h4, h5, h6, h7, h8, h9⟩
 · rintro ⟨h1, h2, h3, h4, h5, h6, h7, h8, h9⟩; exact ⟨⟨h1, h2⟩, ⟨h3, h4, h5⟩, h6, ⟨h7, h8⟩, h9⟩
theorem sameSessB_iff (p q : PSess) : sameSessB p q = true ↔ p = q := by
 cases p; cases q
 simp only [sameSessB, Bool.and_eq_true, decide_eq_true_eq, PSess.mk.injEq, sameSetupB_iff]
theorem sum_mem_le {l : List Nat} {x : Nat} (h : x ∈ l) : x ≤ l.sum := by
 induction l with
 | nil => simp at h
 | cons a r ih =>
   rw [List.sum_cons]
   rcases List.mem_cons.1 h with rfl | h
   · omega
   · have := ih h; omega
theorem SeSmall.of {p : PSetup} (h : szSe p ≤ 1048576) : SeSmall p ∧ SeBytes p := by
 unfold szSe at h
 have ht := szTemps_each (xs := p.temps) (n := 1048576) (by omega)
 have he : szpEntry p.entries ≤ 1048576 := by omega
 have hb : szpBigram p.bigrams ≤ 1048576 := by omega
 unfold szpEntry at he
 unfold szpBigram at hb
 refine ⟨⟨ht.1, fun l hl => (ht.2 l hl).2, by omega, by omega⟩, ⟨fun l hl => (ht.2 l hl).1, fun l hl => ?_, fun l hl => ?_⟩⟩
 · have := sum_mem_le (List.mem_map.2 ⟨l, hl, rfl⟩ : pEntryW l ∈ p.entries.map pEntryW)
   have e : pEntryW l = l.word.size := rfl
   omega
 · have := sum_mem_le (List.mem_map.2 ⟨l, hl, rfl⟩ : pBigramW l ∈ p.bigrams.map pBigramW)
   have e : pBigramW l = l.first.size + l.second.size := rfl
   omega
theorem SsSmall.of {q : PSess} (h : szSs q ≤ 1048576) : SsSmall q ∧ SsBytes q := by
 unfold szSs at h
 have hs := SeSmall.of (p := q.setup) (by omega)
 have hi : szStrokes q.strokes ≤ 1048576 := by omega
 have hw : szStrs q.words ≤ 1048576 := by omega
 unfold szStrokes at hi
 unfold szStrs at hw
 refine ⟨⟨hs.1, by omega, fun l hl => ?_, by omega, by omega⟩, ⟨hs.2, fun l hl => ?_⟩⟩
 · have := sum_mem_le (List.mem_map.2 ⟨l, hl, rfl⟩ : l.length ∈ q.strokes.map List.length)
   omega
 · have := sum_mem_le (List.mem_map.2 ⟨l, hl, rfl⟩ : l.size ∈ q.words.map ByteArray.size)
   omega
theorem szStringS_b {o : Bool} {e : TypeId} {xs : List ByteArray} {v : Value} {F : List Nat} (w : World) (h : (strs e).rep o w xs [v] F) (left : Int) (hl : 0 ≤ left ∧ left ≤ 1048576) :
 Calls Tryz.prog 23 #[v, .int .i64 left] w fun e w' => (∃ r : Int, e = .returned (.int .i64 r) ∧ r ≤ left ∧ (0 ≤ r → r + szStrs xs ≤ left)) ∧ Below w.heap.size w w' :=
 (szStringS_c w h left hl).mono fun _ _ ⟨r, h1, h2, h3, h4⟩ => ⟨⟨r, h1, h2, h3⟩, h4 ▸ Below.refl _ _⟩
end Go.Proofs.YtboijogahclekaaGreatDoor

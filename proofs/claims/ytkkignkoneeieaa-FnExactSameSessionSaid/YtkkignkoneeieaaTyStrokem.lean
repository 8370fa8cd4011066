/- The type Stroke: its data, how it lies in memory, and the law's own helpers over it. Conditions: none. -/
import Derived.Test.YtkkignkoneeieaaRows
import Derived.Test.YtkkignkoneeieaaTyPointm
namespace Go.Proofs.Ytkkignkoneeieaa
open Go Go.RowKit

abbrev PStroke := List PPoint
def pStroke (ep : TypeId) : Ty PStroke := pPoints ep
def pStrokes (ep e : TypeId) : Ty (List PStroke) := (pStroke ep).slice e
theorem pStroke_one {ep : TypeId} {o : Bool} {w : World} {xs : PStroke} {cs : List Value} {F : List Nat} (h : (pStroke ep).rep o w xs cs F) : ∃ v, cs = [v] := by
  obtain ⟨A, c, ec, F0, F1, rfl, _⟩ := h
  exact ⟨_, rfl⟩
theorem pStrokes_open {ep : TypeId} {o : Bool} {w : World} {e : TypeId} {xs : List PStroke} {v : Value} {F : List Nat} (h : (pStrokes ep e).rep o w xs [v] F) :
    ∃ A c, v = .slice A xs.length c ∧ xs.length ≤ c ∧ c ≤ maxLen ∧ ∀ k (hk : k < xs.length), ∃ b off u Fk, A = some ⟨b, off, none⟩ ∧ b < w.heap.size ∧ b ∈ F ∧
      (pPoints ep).rep o w xs[k] [u] Fk ∧ (∀ x ∈ Fk, x ∈ F) ∧ w.cell? ⟨b, off + k, none⟩ = some u := by
  obtain ⟨A, c, hv, h1, h2, h3⟩ := slice_open h
  refine ⟨A, c, hv, h1, h2, fun k hk => ?_⟩
  obtain ⟨b, off, ck, Fk, hA, hb, hin, hr, hF, hc⟩ := h3 k hk
  obtain ⟨u, rfl⟩ := pStroke_one hr
  have h0 := hc 0 _ rfl
  rw [show k * (pStroke ep).size + 0 = k from Nat.mul_one k] at h0
  exact ⟨b, off, u, Fk, hA, hb, hin, hr, hF, h0⟩

set_option maxHeartbeats 400000 in
theorem eqStroke_c {oa ob : Bool} {ea eb : TypeId} {xs ys : PStroke} {v u : Value} {F G : List Nat} (w : World) (h : (pPoints ea).rep oa w xs [v] F) (h' : (pPoints eb).rep ob w ys [u] G) (hx : xs.length ≤ 1048576) (hy : ys.length ≤ 1048576) :
    Calls Try.prog 109 #[.agg #[v], .agg #[u]] w fun e w' => e = .returned (.bool (decide (xs = ys))) ∧ Below w.heap.size w w' := by
  cases hd : decide (xs = ys)
  all_goals
    go_enter Try.func109, Try.ntmps109
    go_wp2_with (go_at_call 46; refine (eqPointS_c _ ((h.alloc _).alloc _) ((h'.alloc _).alloc _) hx hy).mono ?_; rw [hd]; rintro e w1 ⟨rfl, hb1⟩)
    go_ret
    exact ⟨rfl, ((((Below.refl _ _).alloc (Nat.le_refl _) _).alloc (by simp) _).trans (hb1.mono (by simp; omega)))⟩
set_option maxRecDepth 100000 in
set_option maxHeartbeats 1000000 in
theorem eqStrokeS_c {oa ob : Bool} {pa pb ea eb : TypeId} {xs ys : List PStroke} {v u : Value} {F G : List Nat} (w : World) (h : (pStrokes pa ea).rep oa w xs [v] F) (h' : (pStrokes pb eb).rep ob w ys [u] G) (hx : xs.length ≤ 1048576) (hy : ys.length ≤ 1048576) (hxe : ∀ l ∈ xs, l.length ≤ 1048576) (hye : ∀ l ∈ ys, l.length ≤ 1048576) :
    Calls Try.prog 85 #[v, u] w fun e w' => e = .returned (.bool (decide (xs = ys))) ∧ Below w.heap.size w w' := by
  obtain ⟨A, c, rfl, hc1, hc2, hr⟩ := pStrokes_open h
  obtain ⟨B, d, rfl, hd1, hd2, hs⟩ := pStrokes_open h'
  clear h h'
  by_cases hl : xs.length = ys.length
  · have hne : ((xs.length : Int) != (ys.length : Int)) = false := by simp [hl]
    have HL := Lib.hid hl
    clear hl
    go_enter Try.func85, Try.ntmps85
    go_wp2_with fail
    go_loopw [5] (fun i wr => ∃ k : Nat, k ≤ xs.length ∧ i = .int .i64 k ∧ (∀ j (hj : j < xs.length) (hj' : j < ys.length), j < k → xs[j] = ys[j]) ∧ Below w.heap.size w wr) (fun i _ => xs.length - (intOf i).toNat)
    case atStart => exact ⟨0, Nat.zero_le _, rfl, fun _ _ _ h => by omega, Below.refl _ _⟩
    case round =>
      obtain ⟨k, hk, rfl, hall, hb⟩ := hrel
      have hbs := hb.size
      by_cases hlt : k < xs.length
      · have hlt' : k < ys.length := by have := HL.out; omega
        obtain ⟨b, off, v1, F1, rfl, hbb, _, R1, _, h0⟩ := hr k hlt
        obtain ⟨b', off', v2, F2, rfl, hbb', _, R2, _, g0⟩ := hs k hlt'
        rw [← hb.cell (p := ⟨b, _, none⟩) hbb] at h0
        rw [← hb.cell (p := ⟨b', _, none⟩) hbb'] at g0
        have Q1 := Lib.hid (R1.below hb)
        have Q2 := Lib.hid (R2.below hb)
        have L1 := hxe _ (List.getElem_mem hlt)
        have L2 := hye _ (List.getElem_mem hlt')
        have HA := Lib.hid hall
        clear hr hs hall R1 R2
        have C := fun (w' : World) (q1 : (pPoints pa).rep oa w' xs[k] [v1] F1) (q2 : (pPoints pb).rep ob w' ys[k] [v2] F2) => eqStroke_c w' q1 q2 L1 L2
        by_cases hkk : xs[k] = ys[k]
        · simp only [decide_eq_true hkk] at C
          have HC := Lib.hid C
          have HK := Lib.hid hkk
          clear C hkk
          go_wp2_with fail
          go_still_tail 8, (by kernel_rfl)
          go_wp2_with (go_at_call 109; refine (HC.out _ Q1.out.drew Q2.out.drew).mono ?_; rintro e w1 ⟨rfl, hb1⟩)
          go_roundw
          case rel =>
            refine ⟨k + 1, by omega, by go_num, fun j hj hj' hjk => ?_, hb.drew.trans (hb1.mono hbs)⟩
            by_cases e : j = k
            · subst e; exact HK.out
            · exact HA.out j hj hj' (by omega)
          case measure => simp [intOf]; omega
        · simp only [decide_eq_false hkk] at C
          have HC := Lib.hid C
          have HK := Lib.hid hkk
          clear C hkk
          go_wp2_with fail
          go_still_tail 8, (by kernel_rfl)
          go_wp2_with (go_at_call 109; refine (HC.out _ Q1.out.drew Q2.out.drew).mono ?_; rintro e w1 ⟨rfl, hb1⟩)
          go_ret
          have hne : ¬ xs = ys := fun e => by subst e; exact HK.out rfl
          exact ⟨by simp [hne], hb.drew.trans (hb1.mono hbs)⟩
      · obtain rfl : k = xs.length := by omega
        have heq : xs = ys := List.ext_getElem HL.out (fun j h1 h2 => hall j h1 h2 h1)
        clear hall
        go_wp2_with fail
        go_ret
        exact ⟨by simp [heq], hb⟩
  · have hne : ((xs.length : Int) != (ys.length : Int)) = true := by rw [bne_iff_ne]; omega
    have hxy : ¬ xs = ys := fun e => hl (by rw [e])
    have HL := Lib.hid hxy
    clear hl hxy
    go_enter Try.func85, Try.ntmps85
    go_wp2_with fail
    go_ret
    exact ⟨by simp [HL.out], Below.refl _ _⟩
end Go.Proofs.Ytkkignkoneeieaa

/- The type Stroke: the law's own to over it. Conditions: none. -/
namespace Go.Proofs.Ytkkignkoneeieaa
open Go Go.RowKit

set_option maxHeartbeats 400000 in
theorem toStroke_c {o : Bool} {e : TypeId} {xs : PStroke} {v : Value} {F : List Nat} (w : World) (h : (pPoints e).rep o w xs [v] F) (hx : xs.length ≤ 1048576) :
    Calls Try.prog 108 #[.agg #[v]] w fun e' w' => ∃ u G, e' = .returned (.agg #[u]) ∧ (pPoints 98).rep true w' xs [u] G ∧ Fresh w.heap.size G ∧ Below w.heap.size w w' := by
  go_enter Try.func108, Try.ntmps108
  go_wp2_with (go_at_call 37; refine (toPointS_c _ (((h.alloc _).alloc _).alloc _) hx).mono ?_; rintro e' w1 ⟨u1, G1, rfl, r1, f1, hb1⟩; obtain ⟨A1, k1, rfl⟩ := slice_len r1; obtain ⟨hcc, hff⟩ := bcell hb1; have hzz := hb1.size)
  have b3 : Below w.heap.size w (((w.alloc (.cells #[v] 179)).alloc (.cells #[.slice none 0 0] 135)).alloc (.cells #[.slice none 0 0] 135)) :=
    ((((Below.refl _ _).alloc (Nat.le_refl _) _).alloc (by simp) _).alloc (by simp; omega) _)
  have hz3 : (((w.alloc (.cells #[v] 179)).alloc (.cells #[.slice none 0 0] 135)).alloc (.cells #[.slice none 0 0] 135)).heap.size = w.heap.size + 1 + 1 + 1 := by simp
  have hz1 : (w.alloc (.cells #[v] 179)).heap.size = w.heap.size + 1 := by simp
  have R := Row.new (w.alloc (.cells #[v] 179)) 135 #[.slice none 0 0]
  rw [hz1] at R
  have hcell := (((((R.alloc (.cells #[.slice none 0 0] 135)).later hb1).far (p := ⟨w.heap.size + 1 + 1, 0, none⟩) (by simp) (.slice A1 xs.length k1)).set 0 (.slice A1 xs.length k1)).cell' (i := 0) (u := .slice A1 xs.length k1) (by simp))
  refine bodyPost_ret (v := .agg #[.slice A1 xs.length k1]) (by simp [results, Try.results108, go_sem, hcell]) rfl ⟨_, G1, rfl, (r1.setCell ?_ _).setCell ?_ _, f1.mono (by omega), (((b3.trans (hb1.mono (by omega))).setCell ?_ _).setCell ?_ _)⟩
  · intro hin; have := f1.2 _ hin; simp at this; omega
  · intro hin; have := f1.2 _ hin; simp at this; omega
  · simp; omega
  · simp

set_option maxHeartbeats 1000000 in
theorem toStrokeS_c {o : Bool} {pe e : TypeId} {xs : List PStroke} {v : Value} {F : List Nat} (w : World) (h : (pStrokes pe e).rep o w xs [v] F) (hx : xs.length ≤ 1048576) (hxe : ∀ l ∈ xs, l.length ≤ 1048576) :
    Calls Try.prog 76 #[v] w fun e w' => ∃ u G, e = .returned u ∧ (pStrokes 98 135).rep true w' xs [u] G ∧ Fresh w.heap.size G ∧ Below w.heap.size w w' := by
  obtain ⟨A, c, rfl, hc1, hc2, hr⟩ := pStrokes_open h
  have hmk := make_run (P := Try.prog) (t := 61) (e := 135) (z := .agg #[.slice none 0 0]) (size := 1) (bytes := 24) Try.underlying61 (by kernel_rfl) xs.length xs.length rfl (by omega) (by unfold maxLen; omega)
  go_enter Try.func76, Try.ntmps76
  go_wp2_with fail
  go_loopw [4] (fun i wr => ∃ k : Nat, k ≤ xs.length ∧ i = .int .i64 k ∧ ∃ cs G rest, Row wr w.heap.size 135 (cs ++ rest) ∧ repL (pStroke 98) true wr (xs.take k) cs G ∧ Fresh (w.heap.size + 1) G ∧ rest.length = xs.length - k ∧ Below w.heap.size w wr) (fun i _ => xs.length - (intOf i).toNat)
  case atStart =>
    exact ⟨0, Nat.zero_le _, rfl, [], [], _, Row.new w _ _, ⟨rfl, rfl⟩, ⟨by simp, by simp⟩, by simp [madeCells], (Below.refl _ _).alloc (Nat.le_refl _) _⟩
  case round =>
    obtain ⟨k, hk, rfl, cs, G, rest, hrow, hrep, hfr, hrl, hb⟩ := hrel
    by_cases hlt : k < xs.length
    · obtain ⟨b, off, v1, F1, rfl, hbb, _, R1, _, h0⟩ := hr k hlt
      rw [← hb.cell (p := ⟨b, _, none⟩) hbb] at h0
      have hbs := hb.size
      have hrl2 := hrow.lt
      have hpl : cs.length = k := by
        have := repL_len hrep
        rw [List.length_take, Nat.min_eq_left (by omega)] at this
        rw [this]; exact Nat.mul_one k
      obtain ⟨r0, rest', rfl⟩ : ∃ r0 rest', rest = r0 :: rest' := by
        match rest, hrl with
        | r0 :: rest', _ => exact ⟨_, _, rfl⟩
        | [], h => simp at h; omega
      have L1 := hxe _ (List.getElem_mem hlt)
      have Q1 := Lib.hid (R1.below hb)
      have HR := Lib.hid hrow
      have HP := Lib.hid hrep
      have HF := Lib.hid hfr
      have HL := Lib.hid hpl
      clear hr h hmk R1 hrow hrep hfr hpl
      go_wp2_with (go_at_call 108; refine (toStroke_c _ Q1.out L1).mono ?_; rintro e w1 ⟨u1, G1, rfl, r1, f1, hb1⟩; obtain ⟨A1, k1, rfl⟩ := slice_len r1; have hrow1 := HR.out.later hb1; obtain ⟨⟨v0, hv0⟩, hf0⟩ := hrow1.can (i := k) (by simp [HL.out]))
      go_roundw
      case rel =>
        have hz := hb1.size
        refine ⟨k + 1, by omega, by go_num, cs ++ [.slice A1 (xs[k]).length k1], G ++ G1, rest', ?_, ?_, ⟨?_, ?_⟩, by simp at hrl; omega, (hb.trans (hb1.mono hbs)).setCell (Nat.le_refl _) _⟩
        · have R := hrow1.put (j := 0) (i := k) (by rw [HL.out]; rfl) (.slice A1 (xs[k]).length k1)
          rw [List.append_assoc]
          exact R
        · rw [List.take_succ_eq_append_getElem hlt]
          refine repL_append (repL_set (repL_below HP.out hb1) ?_ _) (repL_single.2 (r1.setCell ?_ _))
          · intro hin; have := HF.out.2 _ hin; simp at this; omega
          · intro hin; have := f1.2 _ hin; simp at this; omega
        · refine List.nodup_append.2 ⟨HF.out.1, f1.1, fun x h1 y h2 e => ?_⟩
          subst e
          have := repL_lt HP.out x h1; have := f1.2 x h2; omega
        · intro x hx
          rcases List.mem_append.1 hx with h | h
          · exact HF.out.2 x h
          · have := f1.2 x h; omega
      case measure => simp [intOf]; omega
    · obtain rfl : k = xs.length := by omega
      go_wp2_with fail
      go_ret
      have h0 : rest = [] := List.eq_nil_of_length_eq_zero (by simpa using hrl)
      subst h0
      rw [List.append_nil] at hrow
      rw [List.take_length] at hrep
      exact ⟨_, w.heap.size :: G, rfl, slice_of_row hrow hrep (by unfold maxLen; omega), ⟨List.nodup_cons.2 ⟨fun hin => by have := hfr.2 _ hin; omega, hfr.1⟩, fun x hx => by rcases List.mem_cons.1 hx with rfl | h; exact Nat.le_refl _; have := hfr.2 x h; omega⟩, hb⟩

end Go.Proofs.Ytkkignkoneeieaa

/- The type Stroke: the law's own sz over it. Conditions: none. -/
namespace Go.Proofs.Ytkkignkoneeieaa
open Go Go.RowKit

/-- What strokes weigh. -/
def szStrokes (xs : List PStroke) : Nat := xs.length + (xs.map List.length).sum
theorem szStrokes_take (xs : List PStroke) (k : Nat) (h : k < xs.length) : ((xs.take (k+1)).map List.length).sum = ((xs.take k).map List.length).sum + xs[k].length := by
  rw [List.take_succ_eq_append_getElem h, List.map_append, List.sum_append]; simp
set_option maxHeartbeats 400000 in
theorem szStroke_c {o : Bool} {e : TypeId} {xs : PStroke} {v : Value} {F : List Nat} (w : World) (h : (pPoints e).rep o w xs [v] F) (left : Int) (hl : 0 ≤ left ∧ left ≤ 1048576) :
    Calls Try.prog 106 #[.agg #[v], .int .i64 left] w fun e' w' => (∃ r : Int, e' = .returned (.int .i64 r) ∧ r ≤ left ∧ (0 ≤ r → r + xs.length ≤ left)) ∧ Below w.heap.size w w' := by
  have H := Lib.hid (fun w' (q : (pPoints e).rep o w' xs [v] F) => szPointS_c w' q left hl)
  go_enter Try.func106, Try.ntmps106
  go_wp2_with fail
  refine (H.out _ (h.alloc _)).mono ?_
  rintro e' w1 ⟨⟨r, rfl, _, hr1, hr2⟩, hb1⟩
  have bb : Below w.heap.size w w1 := ((Below.refl _ _).alloc (Nat.le_refl _) _).trans (hb1.mono (by simp))
  by_cases h0 : r < 0
  · go_wp2_with fail
    go_ret
    exact ⟨⟨-1, rfl, by omega, by omega⟩, bb⟩
  · go_wp2_with fail
    go_ret
    exact ⟨⟨r, rfl, hr1, hr2⟩, bb⟩
set_option maxHeartbeats 1000000 in
theorem szStrokeS_c {o : Bool} {pe e : TypeId} {xs : List PStroke} {v : Value} {F : List Nat} (w : World) (h : (pStrokes pe e).rep o w xs [v] F) (left : Int) (hl : 0 ≤ left ∧ left ≤ 1048576) :
    Calls Try.prog 69 #[v, .int .i64 left] w fun e w' => (∃ r : Int, e = .returned (.int .i64 r) ∧ r ≤ left ∧ (0 ≤ r → r + szStrokes xs ≤ left)) ∧ Below w.heap.size w w' := by
  obtain ⟨A, c, rfl, hc1, hc2, hr⟩ := pStrokes_open h
  clear h
  unfold maxLen at hc2
  by_cases h0 : left - xs.length < 0
  · go_enter Try.func69, Try.ntmps69
    go_wp2_with fail
    go_ret
    exact ⟨⟨-1, rfl, by omega, by omega⟩, Below.refl _ _⟩
  · have h1 : ¬ (left - (xs.length : Int) < 0) := h0
    go_enter Try.func69, Try.ntmps69
    go_wp2_with fail
    go_loopw [1, 5] (fun l i wr => ∃ k : Nat, k ≤ xs.length ∧ i = .int .i64 k ∧ (∃ n : Int, 0 ≤ n ∧ n ≤ left ∧ Hid (n + xs.length + ((xs.take k).map List.length).sum ≤ left) ∧ l = .int .i64 n) ∧ Below w.heap.size w wr) (fun _ i _ => xs.length - (intOf i).toNat)
    case atStart => exact ⟨0, Nat.zero_le _, rfl, ⟨left - xs.length, by omega, by omega, by show _ ≤ _; simp, rfl⟩, Below.refl _ _⟩
    case round =>
      obtain ⟨k, hk, rfl, ⟨n, hn0, hn1, hn, rfl⟩, hb⟩ := hrel
      have hbs := hb.size
      by_cases hlt : k < xs.length
      · obtain ⟨b, off, v1, F1, rfl, hbb, _, R1, _, hc0⟩ := hr k hlt
        rw [← hb.cell (p := ⟨b, _, none⟩) hbb] at hc0
        have Q1 := Lib.hid (R1.below hb)
        have H := Lib.hid (szStrokes_take xs k hlt)
        clear hr R1
        go_wp2_with (go_at_call 106; refine (szStroke_c _ Q1.out n ⟨hn0, by omega⟩).mono ?_; rintro e w1 ⟨⟨r, rfl, hr1, hr2⟩, hb1⟩)
        · go_ret
          exact ⟨⟨-1, rfl, by omega, by omega⟩, hb.trans (hb1.mono hbs)⟩
        · go_roundw
          case rel => exact ⟨k + 1, by omega, by go_num, ⟨r, by omega, by omega, by show _ ≤ _; have h1 := hn.out; have := hr2 (by omega); rw [H.out]; omega, rfl⟩, hb.trans (hb1.mono hbs)⟩
          case measure => simp [intOf]; omega
      · obtain rfl : k = xs.length := by omega
        clear hr
        go_wp2_with fail
        go_ret
        refine ⟨⟨n, rfl, by omega, fun _ => ?_⟩, hb⟩
        have h1 := hn.out
        rw [List.take_length] at h1
        unfold szStrokes
        omega
end Go.Proofs.Ytkkignkoneeieaa

/- The type Stroke: the law's own mark over it. Conditions: none. -/
namespace Go.Proofs.Ytkkignkoneeieaa
open Go Go.RowKit

/-- The marks that strokes take. -/
def pointsIn (xs : List PStroke) : Nat := (xs.map fun l : PStroke => l.length * 3).sum
/-- The marks from number s on. -/
def markStrokes : List PStroke → Nat → List PStroke
  | [], _ => []
  | l :: r, s => markPPoint l.length s :: markStrokes r (s + l.length * 3)
theorem markStrokes_len : ∀ (xs : List PStroke) (s : Nat), (markStrokes xs s).length = xs.length
  | [], _ => rfl
  | l :: r, s => by simp [markStrokes, markStrokes_len r]
theorem pointsIn_append (xs ys : List PStroke) : pointsIn (xs ++ ys) = pointsIn xs + pointsIn ys := by simp [pointsIn]
theorem markStrokes_append : ∀ (xs ys : List PStroke) (s : Nat), markStrokes (xs ++ ys) s = markStrokes xs s ++ markStrokes ys (s + pointsIn xs)
  | [], _, _ => by simp [markStrokes, pointsIn]
  | l :: r, ys, s => by
    simp only [List.cons_append, markStrokes, markStrokes_append r ys]
    congr 2
    simp [pointsIn]; congr 1; omega
theorem pointsIn_take {xs : List PStroke} {k : Nat} (h : k < xs.length) : pointsIn (xs.take (k + 1)) = pointsIn (xs.take k) + xs[k].length * 3 := by
  rw [List.take_succ_eq_append_getElem h, pointsIn_append]; simp [pointsIn]
theorem pointsIn_le {xs : List PStroke} (k : Nat) : pointsIn (xs.take k) ≤ pointsIn xs := by
  have := pointsIn_append (xs.take k) (xs.drop k)
  rw [List.take_append_drop] at this; omega
theorem markStrokes_take {xs : List PStroke} {k : Nat} (s : Nat) (h : k < xs.length) : markStrokes (xs.take (k + 1)) s = markStrokes (xs.take k) s ++ [markPPoint xs[k].length (s + pointsIn (xs.take k))] := by
  rw [List.take_succ_eq_append_getElem h, markStrokes_append]; rfl
theorem markStrokes_get : ∀ {xs : List PStroke} {s k : Nat} (h : k < xs.length), (markStrokes xs s)[k]'(by rw [markStrokes_len]; exact h) = markPPoint xs[k].length (s + pointsIn (xs.take k))
  | l :: r, s, 0, _ => by simp [markStrokes, pointsIn]
  | l :: r, s, k + 1, h => by
    simp only [markStrokes, List.getElem_cons_succ, List.take_succ_cons]
    rw [markStrokes_get (by simpa using h)]
    congr 1
    simp [pointsIn]; omega

end Go.Proofs.Ytkkignkoneeieaa

/- The type Ink: the law's own helpers over it. Conditions: none. -/
namespace Go.Proofs.Ytkkignkoneeieaa
open Go Go.RowKit

set_option maxHeartbeats 400000 in
theorem eqInk_c {oa ob : Bool} {pa pb ea eb : TypeId} {xs ys : List PStroke} {v u : Value} {F G : List Nat} (w : World) (h : (pStrokes pa ea).rep oa w xs [v] F) (h' : (pStrokes pb eb).rep ob w ys [u] G) (hx : xs.length ≤ 1048576) (hy : ys.length ≤ 1048576) (hxe : ∀ l ∈ xs, l.length ≤ 1048576) (hye : ∀ l ∈ ys, l.length ≤ 1048576) :
    Calls Try.prog 45 #[.agg #[v], .agg #[u]] w fun e w' => e = .returned (.bool (decide (xs = ys))) ∧ Below w.heap.size w w' := by
  cases hd : decide (xs = ys)
  all_goals
    go_enter Try.func45, Try.ntmps45
    go_wp2_with (go_at_call 85; refine (eqStrokeS_c _ ((h.alloc _).alloc _) ((h'.alloc _).alloc _) hx hy hxe hye).mono ?_; rw [hd]; rintro e w1 ⟨rfl, hb1⟩)
    go_ret
    exact ⟨rfl, ((((Below.refl _ _).alloc (Nat.le_refl _) _).alloc (by simp) _).trans (hb1.mono (by simp; omega)))⟩
set_option maxHeartbeats 400000 in
theorem toInk_c {o : Bool} {pe e : TypeId} {xs : List PStroke} {v : Value} {F : List Nat} (w : World) (h : (pStrokes pe e).rep o w xs [v] F) (hx : xs.length ≤ 1048576) (hxe : ∀ l ∈ xs, l.length ≤ 1048576) :
    Calls Try.prog 36 #[.agg #[v]] w fun e' w' => ∃ u G, e' = .returned (.agg #[u]) ∧ (pStrokes 98 135).rep true w' xs [u] G ∧ Fresh w.heap.size G ∧ Below w.heap.size w w' := by
  go_enter Try.func36, Try.ntmps36
  go_wp2_with (go_at_call 76; refine (toStrokeS_c _ (((h.alloc _).alloc _).alloc _) hx hxe).mono ?_; rintro e' w1 ⟨u1, G1, rfl, r1, f1, hb1⟩; obtain ⟨A1, k1, rfl⟩ := slice_len r1; obtain ⟨hcc, hff⟩ := bcell hb1; have hzz := hb1.size)
  have b3 : Below w.heap.size w (((w.alloc (.cells #[v] 54)).alloc (.cells #[.slice none 0 0] 63)).alloc (.cells #[.slice none 0 0] 63)) :=
    ((((Below.refl _ _).alloc (Nat.le_refl _) _).alloc (by simp) _).alloc (by simp; omega) _)
  have hz3 : (((w.alloc (.cells #[v] 54)).alloc (.cells #[.slice none 0 0] 63)).alloc (.cells #[.slice none 0 0] 63)).heap.size = w.heap.size + 1 + 1 + 1 := by simp
  have hz1 : (w.alloc (.cells #[v] 54)).heap.size = w.heap.size + 1 := by simp
  have R := Row.new (w.alloc (.cells #[v] 54)) 63 #[.slice none 0 0]
  rw [hz1] at R
  have hcell := (((((R.alloc (.cells #[.slice none 0 0] 63)).later hb1).far (p := ⟨w.heap.size + 1 + 1, 0, none⟩) (by simp) (.slice A1 xs.length k1)).set 0 (.slice A1 xs.length k1)).cell' (i := 0) (u := .slice A1 xs.length k1) (by simp))
  refine bodyPost_ret (v := .agg #[.slice A1 xs.length k1]) (by simp [results, Try.results36, go_sem, hcell]) rfl ⟨_, G1, rfl, (r1.setCell ?_ _).setCell ?_ _, f1.mono (by omega), (((b3.trans (hb1.mono (by omega))).setCell ?_ _).setCell ?_ _)⟩
  · intro hin; have := f1.2 _ hin; simp at this; omega
  · intro hin; have := f1.2 _ hin; simp at this; omega
  · simp; omega
  · simp
set_option maxHeartbeats 400000 in
theorem szInk_c {o : Bool} {pe e : TypeId} {xs : List PStroke} {v : Value} {F : List Nat} (w : World) (h : (pStrokes pe e).rep o w xs [v] F) (left : Int) (hl : 0 ≤ left ∧ left ≤ 1048576) :
    Calls Try.prog 32 #[.agg #[v], .int .i64 left] w fun e' w' => (∃ r : Int, e' = .returned (.int .i64 r) ∧ r ≤ left ∧ (0 ≤ r → r + szStrokes xs ≤ left)) ∧ Below w.heap.size w w' := by
  have H := Lib.hid (fun w' (q : (pStrokes pe e).rep o w' xs [v] F) => szStrokeS_c w' q left hl)
  go_enter Try.func32, Try.ntmps32
  go_wp2_with fail
  refine (H.out _ (h.alloc _)).mono ?_
  rintro e' w1 ⟨⟨r, rfl, hr1, hr2⟩, hb1⟩
  have bb : Below w.heap.size w w1 := ((Below.refl _ _).alloc (Nat.le_refl _) _).trans (hb1.mono (by simp))
  by_cases h0 : r < 0
  · go_wp2_with fail
    go_ret
    exact ⟨⟨-1, rfl, by omega, by omega⟩, bb⟩
  · go_wp2_with fail
    go_ret
    exact ⟨⟨r, rfl, hr1, hr2⟩, bb⟩
end Go.Proofs.Ytkkignkoneeieaa

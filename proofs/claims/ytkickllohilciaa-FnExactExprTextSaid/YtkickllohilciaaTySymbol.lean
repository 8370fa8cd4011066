/- The type Symbol: its data, how it lies in memory, and the law's own helpers over it. Conditions: none. -/
import Derived.Test.YtkickllohilciaaRows
import Derived.Test.YtkickllohilciaaTyNode
namespace Go.Proofs.Ytkickllohilciaa
open Go Go.RowKit

structure PSymbol where
  label : ByteArray
  x1 : Int
  y1 : Int
  x2 : Int
  y2 : Int
  deriving DecidableEq

def pSymbol : Ty PSymbol := (str.prod (int64.prod (int64.prod (int64.prod int64)))).via fun s => (s.label, s.x1, s.y1, s.x2, s.y2)
theorem pSymbol_rep {o : Bool} {w : World} {s : PSymbol} {cs : List Value} {F : List Nat} : pSymbol.rep o w s cs F ↔ cs = [.string s.label, .int .i64 s.x1, .int .i64 s.y1, .int .i64 s.x2, .int .i64 s.y2] ∧ F = [] ∧ s.label.size ≤ maxLen ∧ I64 s.x1 ∧ I64 s.y1 ∧ I64 s.x2 ∧ I64 s.y2 := by
  constructor
  · rintro ⟨_, _, _, _, rfl, rfl, ⟨rfl, rfl, h0⟩, ⟨_, _, _, _, rfl, rfl, ⟨rfl, rfl, h1⟩, ⟨_, _, _, _, rfl, rfl, ⟨rfl, rfl, h2⟩, ⟨_, _, _, _, rfl, rfl, ⟨rfl, rfl, h3⟩, ⟨rfl, rfl, h4⟩⟩⟩⟩⟩
    exact ⟨rfl, rfl, h0, h1, h2, h3, h4⟩
  · rintro ⟨rfl, rfl, h0, h1, h2, h3, h4⟩
    exact ⟨_, _, [], [], rfl, rfl, ⟨rfl, rfl, h0⟩, ⟨_, _, [], [], rfl, rfl, ⟨rfl, rfl, h1⟩, ⟨_, _, [], [], rfl, rfl, ⟨rfl, rfl, h2⟩, ⟨_, _, [], [], rfl, rfl, ⟨rfl, rfl, h3⟩, ⟨rfl, rfl, h4⟩⟩⟩⟩⟩
def pSymbols (e : TypeId) : Ty (List PSymbol) := pSymbol.slice e
theorem pSymbols_open {o : Bool} {w : World} {e : TypeId} {xs : List PSymbol} {v : Value} {F : List Nat} (h : (pSymbols e).rep o w xs [v] F) :
    ∃ A c, v = .slice A xs.length c ∧ xs.length ≤ c ∧ c ≤ maxLen ∧ ∀ k (hk : k < xs.length), ∃ b off, A = some ⟨b, off, none⟩ ∧ b < w.heap.size ∧ b ∈ F ∧
      w.cell? ⟨b, off + k * 5, none⟩ = some (.string xs[k].label) ∧ w.cell? ⟨b, off + k * 5 + 1, none⟩ = some (.int .i64 xs[k].x1) ∧ w.cell? ⟨b, off + k * 5 + 2, none⟩ = some (.int .i64 xs[k].y1) ∧ w.cell? ⟨b, off + k * 5 + 3, none⟩ = some (.int .i64 xs[k].x2) ∧ w.cell? ⟨b, off + k * 5 + 4, none⟩ = some (.int .i64 xs[k].y2) ∧ xs[k].label.size ≤ maxLen ∧ I64 xs[k].x1 ∧ I64 xs[k].y1 ∧ I64 xs[k].x2 ∧ I64 xs[k].y2 := by
  obtain ⟨A, c, hv, h1, h2, h3⟩ := slice_open h
  refine ⟨A, c, hv, h1, h2, fun k hk => ?_⟩
  obtain ⟨b, off, ck, Fk, hA, hb, hin, hr, _, hc⟩ := h3 k hk
  obtain ⟨rfl, rfl, i0, i1, i2, i3, i4⟩ := pSymbol_rep.1 hr
  exact ⟨b, off, hA, hb, hin, hc 0 _ rfl, by rw [Nat.add_assoc]; exact hc 1 _ rfl, by rw [Nat.add_assoc]; exact hc 2 _ rfl, by rw [Nat.add_assoc]; exact hc 3 _ rfl, by rw [Nat.add_assoc]; exact hc 4 _ rfl, i0, i1, i2, i3, i4⟩
def pSymbolCells (s : PSymbol) : List Value := [.string s.label, .int .i64 s.x1, .int .i64 s.y1, .int .i64 s.x2, .int .i64 s.y2]
def pSymbolOk (s : PSymbol) : Prop := s.label.size ≤ maxLen ∧ I64 s.x1 ∧ I64 s.y1 ∧ I64 s.x2 ∧ I64 s.y2
theorem pSymbolCells_len (xs : List PSymbol) : (xs.flatMap pSymbolCells).length = xs.length * 5 := by
  induction xs with
  | nil => rfl
  | cons a r ih => simp only [List.flatMap_cons, List.length_append, ih, List.length_cons]; simp [pSymbolCells]; omega
theorem repL_pSymbol {o : Bool} {w : World} : ∀ (xs : List PSymbol), (∀ s ∈ xs, pSymbolOk s) → repL pSymbol o w xs (xs.flatMap pSymbolCells) []
  | [], _ => ⟨rfl, rfl⟩
  | s :: r, h => ⟨_, _, [], [], rfl, rfl, pSymbol_rep.2 ⟨rfl, rfl, h s (by simp)⟩, repL_pSymbol r (fun t ht => h t (by simp [ht]))⟩
theorem repL_pSymbol_inv {o : Bool} {w : World} : ∀ {xs : List PSymbol} {cs : List Value} {F : List Nat}, repL pSymbol o w xs cs F → cs = xs.flatMap pSymbolCells ∧ F = []
  | [], _, _, ⟨rfl, rfl⟩ => ⟨rfl, rfl⟩
  | s :: r, _, _, ⟨c1, c2, F1, F2, rfl, rfl, h1, h2⟩ => by
    obtain ⟨rfl, rfl, _⟩ := pSymbol_rep.1 h1
    obtain ⟨rfl, rfl⟩ := repL_pSymbol_inv h2
    exact ⟨rfl, rfl⟩
theorem pSymbols_ok {o : Bool} {w : World} {e : TypeId} {xs : List PSymbol} {v : Value} {F : List Nat} (h : (pSymbols e).rep o w xs [v] F) : ∀ s ∈ xs, pSymbolOk s := by
  obtain ⟨_, _, _, _, _, hr⟩ := pSymbols_open h
  intro s hs
  obtain ⟨k, hk, rfl⟩ := List.getElem_of_mem hs
  obtain ⟨_, _, _, _, _, _, _, _, _, _, h⟩ := hr k hk
  exact h

set_option maxHeartbeats 400000 in
theorem toSymbol_c (s : PSymbol) (w : World) :
    Calls Try.prog 39 #[.agg #[.string s.label, .int .i64 s.x1, .int .i64 s.y1, .int .i64 s.x2, .int .i64 s.y2]] w fun e w' => e = .returned (.agg #[.string s.label, .int .i64 s.x1, .int .i64 s.y1, .int .i64 s.x2, .int .i64 s.y2]) ∧ Below w.heap.size w w' := by
  go_enter Try.func39, Try.ntmps39
  go_wp2_with fail
  refine (toBox_c ⟨s.x1, s.y1, s.x2, s.y2⟩ _).mono ?_
  rintro e w1 ⟨rfl, b1⟩
  obtain ⟨hcc, hff⟩ := bcell b1
  have hzz := b1.size
  have RR := ((Row.new (w.alloc (.cells #[.string s.label, .int .i64 s.x1, .int .i64 s.y1, .int .i64 s.x2, .int .i64 s.y2] 58)) 69 #[.string .empty, .int .i64 0, .int .i64 0, .int .i64 0, .int .i64 0]).alloc (.cells #[.string s.label, .int .i64 0, .int .i64 0, .int .i64 0, .int .i64 0] 69)).later b1
  rw [show (w.alloc (.cells #[.string s.label, .int .i64 s.x1, .int .i64 s.y1, .int .i64 s.x2, .int .i64 s.y2] 58)).heap.size = w.heap.size + 1 by simp] at RR
  have al : Below w.heap.size w w1 := ((((Below.refl _ _).alloc (Nat.le_refl _) _).alloc (by simp) _).alloc (by simp; omega) _).trans (b1.mono (by simp; omega))
  go_wp2_with fail
  have R5 := ((((((((RR.far (p := ⟨w.heap.size + 1 + 1, 1, none⟩) (by simp) (.int .i64 s.x1)).far (p := ⟨w.heap.size + 1 + 1, 2, none⟩) (by simp) (.int .i64 s.y1)).far (p := ⟨w.heap.size + 1 + 1, 3, none⟩) (by simp) (.int .i64 s.x2)).far (p := ⟨w.heap.size + 1 + 1, 4, none⟩) (by simp) (.int .i64 s.y2)).set 0 (.string s.label)).set 1 (.int .i64 s.x1)).set 2 (.int .i64 s.y1)).set 3 (.int .i64 s.x2)).set 4 (.int .i64 s.y2)
  have d0 := R5.cell' (i := 0) (u := .string s.label) (by simp)
  have d1 := R5.cell' (i := 1) (u := .int .i64 s.x1) (by simp)
  have d2 := R5.cell' (i := 2) (u := .int .i64 s.y1) (by simp)
  have d3 := R5.cell' (i := 3) (u := .int .i64 s.x2) (by simp)
  have d4 := R5.cell' (i := 4) (u := .int .i64 s.y2) (by simp)
  refine bodyPost_ret (v := .agg #[.string s.label, .int .i64 s.x1, .int .i64 s.y1, .int .i64 s.x2, .int .i64 s.y2]) (by simp [results, Try.results39, go_sem, d0, d1, d2, d3, d4]) rfl ⟨rfl, ?_⟩
  exact (((((((((al.setCell (by simp; omega) _).setCell (by simp; omega) _).setCell (by simp; omega) _).setCell (by simp; omega) _).setCell (by simp) _).setCell (by simp) _).setCell (by simp) _).setCell (by simp) _).setCell (by simp) _)
set_option maxHeartbeats 1000000 in
theorem toSymbolS_c {o : Bool} {e : TypeId} {xs : List PSymbol} {v : Value} {F : List Nat} (w : World) (h : (pSymbols e).rep o w xs [v] F) (hx : xs.length ≤ 1048576) :
    Calls Try.prog 12 #[v] w fun e w' => ∃ u G, e = .returned u ∧ (pSymbols 69).rep true w' xs [u] G ∧ Fresh w.heap.size G ∧ Below w.heap.size w w' := by
  have hok := pSymbols_ok h
  obtain ⟨A, c, rfl, hc1, hc2, hr⟩ := pSymbols_open h
  have hmk := make_run (P := Try.prog) (t := 29) (e := 69) (z := .agg #[.string .empty, .int .i64 0, .int .i64 0, .int .i64 0, .int .i64 0]) (size := 5) (bytes := 48) Try.underlying29 (by kernel_rfl) xs.length xs.length rfl (by omega) (by unfold maxLen; omega)
  go_enter Try.func12, Try.ntmps12
  go_wp2_with fail
  go_loopw [4] (fun i wr => ∃ k : Nat, k ≤ xs.length ∧ i = .int .i64 k ∧ ∃ rest, Row wr w.heap.size 69 ((xs.take k).flatMap pSymbolCells ++ rest) ∧ rest.length = (xs.length - k) * 5 ∧ Below w.heap.size w wr) (fun i _ => xs.length - (intOf i).toNat)
  case atStart =>
    exact ⟨0, Nat.zero_le _, rfl, _, Row.new w _ _, by simp [madeCells], (Below.refl _ _).alloc (Nat.le_refl _) _⟩
  case round =>
    obtain ⟨k, hk, rfl, rest, hrow, hrl, hb⟩ := hrel
    by_cases hlt : k < xs.length
    · obtain ⟨b, off, rfl, hbb, _, h0, h1, h2, h3, h4, _⟩ := hr k hlt
      rw [← hb.cell (p := ⟨b, _, none⟩) hbb] at h0 h1 h2 h3 h4
      have hbs := hb.size
      have hrl2 := hrow.lt
      have hpl : ((xs.take k).flatMap pSymbolCells).length = k * 5 := by rw [pSymbolCells_len, List.length_take]; omega
      obtain ⟨r0, r1, r2, r3, r4, rest', rfl⟩ : ∃ r0 r1 r2 r3 r4 rest', rest = r0 :: r1 :: r2 :: r3 :: r4 :: rest' := by
        match rest, hrl with
        | r0 :: r1 :: r2 :: r3 :: r4 :: rest', _ => exact ⟨_, _, _, _, _, _, rfl⟩
        | [], h => simp at h; omega
        | [_], h => simp at h; omega
        | [_, _], h => simp at h; omega
        | [_, _, _], h => simp at h; omega
        | [_, _, _, _], h => simp at h; omega
      clear hr h hmk
      go_wp2_with (go_at_call 39; refine (toSymbol_c xs[k] _).mono ?_; rintro e w1 ⟨rfl, hb1⟩; have hrow1 := hrow.later hb1; obtain ⟨⟨v0, hv0⟩, hf0⟩ := hrow1.can (i := k * 5) (by simp [hpl]); obtain ⟨⟨v1, hv1⟩, hf1⟩ := hrow1.can (i := k * 5 + 1) (by simp [hpl]); obtain ⟨⟨v2, hv2⟩, hf2⟩ := hrow1.can (i := k * 5 + 2) (by simp [hpl]); obtain ⟨⟨v3, hv3⟩, hf3⟩ := hrow1.can (i := k * 5 + 3) (by simp [hpl]); obtain ⟨⟨v4, hv4⟩, hf4⟩ := hrow1.can (i := k * 5 + 4) (by simp [hpl]))
      go_roundw
      case rel =>
        refine ⟨k + 1, by omega, by go_num, rest', ?_, by simp at hrl; omega, ((((((hb.trans (hb1.mono hbs)).setCell (Nat.le_refl _) _).setCell (Nat.le_refl _) _).setCell (Nat.le_refl _) _).setCell (Nat.le_refl _) _).setCell (Nat.le_refl _) _)⟩
        have R := (((((hrow1.put (j := 0) (i := k * 5) (by rw [hpl]; rfl) (.string xs[k].label)).put (j := 1) (i := k * 5 + 1) (by rw [hpl]) (.int .i64 xs[k].x1)).put (j := 2) (i := k * 5 + 2) (by rw [hpl]) (.int .i64 xs[k].y1)).put (j := 3) (i := k * 5 + 3) (by rw [hpl]) (.int .i64 xs[k].x2)).put (j := 4) (i := k * 5 + 4) (by rw [hpl]) (.int .i64 xs[k].y2))
        rw [List.take_succ_eq_append_getElem hlt, List.flatMap_append, List.append_assoc]
        exact R
      case measure => simp [intOf]; omega
    · obtain rfl : k = xs.length := by omega
      go_wp2_with fail
      go_ret
      have h0 : rest = [] := List.eq_nil_of_length_eq_zero (by simpa using hrl)
      subst h0
      rw [List.append_nil, List.take_length] at hrow
      exact ⟨_, [w.heap.size], rfl, slice_of_row hrow (repL_pSymbol xs hok) (by unfold maxLen; omega), ⟨by simp, by simp⟩, hb⟩
set_option maxHeartbeats 400000 in
theorem eqSymbol_c (s t : PSymbol) (w : World) :
    Calls Try.prog 43 #[.agg #[.string s.label, .int .i64 s.x1, .int .i64 s.y1, .int .i64 s.x2, .int .i64 s.y2], .agg #[.string t.label, .int .i64 t.x1, .int .i64 t.y1, .int .i64 t.x2, .int .i64 t.y2]] w fun e w' => e = .returned (.bool (decide (s = t))) ∧ Below w.heap.size w w' := by
  have e : decide (s = t) = decide (s.label = t.label ∧ s.x1 = t.x1 ∧ s.y1 = t.y1 ∧ s.x2 = t.x2 ∧ s.y2 = t.y2) := by apply decide_eq_decide.2; cases s; cases t; simp
  rw [e]
  clear e
  by_cases hl : s.label = t.label
  · have C := fun w' => eqBox_c ⟨s.x1, s.y1, s.x2, s.y2⟩ ⟨t.x1, t.y1, t.x2, t.y2⟩ w'
    have e : decide (s.label = t.label ∧ s.x1 = t.x1 ∧ s.y1 = t.y1 ∧ s.x2 = t.x2 ∧ s.y2 = t.y2) = decide ((⟨s.x1, s.y1, s.x2, s.y2⟩ : PBox) = ⟨t.x1, t.y1, t.x2, t.y2⟩) := by apply decide_eq_decide.2; simp [hl]
    rw [e]
    generalize decide ((⟨s.x1, s.y1, s.x2, s.y2⟩ : PBox) = ⟨t.x1, t.y1, t.x2, t.y2⟩) = d at C
    have HC := Lib.hid C
    have gl : (s.label.toList == t.label.toList) = true := by rw [str_eq]; simp [hl]
    clear C e hl
    cases d
    all_goals
      go_enter Try.func43, Try.ntmps43
      go_wp2_with fail
      refine (HC.out _).mono ?_
      rintro e w1 ⟨rfl, b1⟩
      go_wp2_with fail
      go_ret
      exact ⟨rfl, (((Below.refl _ _).alloc (Nat.le_refl _) _).alloc (by simp) _).trans (b1.mono (by simp; omega))⟩
  · have gl : (s.label.toList == t.label.toList) = false := by rw [str_eq]; simp [hl]
    have e : decide (s.label = t.label ∧ s.x1 = t.x1 ∧ s.y1 = t.y1 ∧ s.x2 = t.x2 ∧ s.y2 = t.y2) = false := by simp [hl]
    rw [e]
    clear e hl
    go_enter Try.func43, Try.ntmps43
    go_wp2_with fail
    go_ret
    exact ⟨rfl, ((Below.refl _ _).alloc (Nat.le_refl _) _).alloc (by simp) _⟩
set_option maxRecDepth 100000 in
set_option maxHeartbeats 1000000 in
theorem eqSymbolS_c {oa ob : Bool} {ea eb : TypeId} {xs ys : List PSymbol} {v u : Value} {F G : List Nat} (w : World) (h : (pSymbols ea).rep oa w xs [v] F) (h' : (pSymbols eb).rep ob w ys [u] G) (hx : xs.length ≤ 1048576) (hy : ys.length ≤ 1048576) :
    Calls Try.prog 15 #[v, u] w fun e w' => e = .returned (.bool (decide (xs = ys))) ∧ Below w.heap.size w w' := by
  obtain ⟨A, c, rfl, hc1, hc2, hr⟩ := pSymbols_open h
  obtain ⟨B, d, rfl, hd1, hd2, hs⟩ := pSymbols_open h'
  clear h h'
  by_cases hl : xs.length = ys.length
  · have hne : ((xs.length : Int) != (ys.length : Int)) = false := by simp [hl]
    have HL := Lib.hid hl
    clear hl
    go_enter Try.func15, Try.ntmps15
    go_wp2_with fail
    go_loopw [5] (fun i wr => ∃ k : Nat, k ≤ xs.length ∧ i = .int .i64 k ∧ (∀ j (hj : j < xs.length) (hj' : j < ys.length), j < k → xs[j] = ys[j]) ∧ Below w.heap.size w wr) (fun i _ => xs.length - (intOf i).toNat)
    case atStart => exact ⟨0, Nat.zero_le _, rfl, fun _ _ _ h => by omega, Below.refl _ _⟩
    case round =>
      obtain ⟨k, hk, rfl, hall, hb⟩ := hrel
      have hbs := hb.size
      by_cases hlt : k < xs.length
      · have hlt' : k < ys.length := by have := HL.out; omega
        obtain ⟨b, off, rfl, hbb, _, h0, h1, h2, h3, h4, _⟩ := hr k hlt
        obtain ⟨b', off', rfl, hbb', _, g0, g1, g2, g3, g4, _⟩ := hs k hlt'
        rw [← hb.cell (p := ⟨b, _, none⟩) hbb] at h0 h1 h2 h3 h4
        rw [← hb.cell (p := ⟨b', _, none⟩) hbb'] at g0 g1 g2 g3 g4
        have HA := Lib.hid hall
        clear hr hs hall
        have C := eqSymbol_c xs[k] ys[k]
        by_cases hkk : xs[k] = ys[k]
        · rw [decide_eq_true hkk] at C
          have HC := Lib.hid C
          have HK := Lib.hid hkk
          clear C hkk
          go_wp2_with fail
          go_still_tail 8, (by kernel_rfl)
          go_wp2_with (go_at_call 43; refine (HC.out _).mono ?_; rintro e w1 ⟨rfl, hb1⟩)
          go_roundw
          case rel =>
            refine ⟨k + 1, by omega, by go_num, fun j hj hj' hjk => ?_, hb.drew.trans (hb1.mono hbs)⟩
            by_cases e : j = k
            · subst e; exact HK.out
            · exact HA.out j hj hj' (by omega)
          case measure => simp [intOf]; omega
        · rw [decide_eq_false hkk] at C
          have HC := Lib.hid C
          have HK := Lib.hid hkk
          clear C hkk
          go_wp2_with fail
          go_still_tail 8, (by kernel_rfl)
          go_wp2_with (go_at_call 43; refine (HC.out _).mono ?_; rintro e w1 ⟨rfl, hb1⟩)
          go_ret
          have hne : ¬ xs = ys := fun e => by subst e; exact HK.out rfl
          exact ⟨by simp [hne], hb.drew.trans (hb1.mono hbs)⟩
      · obtain rfl : k = xs.length := by omega
        have heq : xs = ys := List.ext_getElem HL.out (fun j h1 h2 => hall j h1 h2 h1)
        clear hall
        go_wp2_with fail
        go_ret
        exact ⟨by simp [heq], hb⟩
  · have hne : ((xs.length : Int) != (ys.length : Int)) = true := by rw [bne_iff_ne]; omega
    have hxy : ¬ xs = ys := fun e => hl (by rw [e])
    have HL := Lib.hid hxy
    clear hl hxy
    go_enter Try.func15, Try.ntmps15
    go_wp2_with fail
    go_ret
    exact ⟨by simp [HL.out], Below.refl _ _⟩
/-- What one weighs. -/
def pSymbolW (s : PSymbol) : Nat := s.label.size
set_option maxHeartbeats 400000 in
theorem szSymbol_c (s : PSymbol) (left : Int) (w : World) (hs : pSymbolOk s) (hl : 0 ≤ left ∧ left ≤ 1048576) :
    Calls Try.prog 35 #[.agg #[.string s.label, .int .i64 s.x1, .int .i64 s.y1, .int .i64 s.x2, .int .i64 s.y2], .int .i64 left] w fun e w' => (∃ r : Int, e = .returned (.int .i64 r) ∧ -1 ≤ r ∧ r ≤ left ∧ (0 ≤ r → r + pSymbolW s ≤ left)) ∧ Below w.heap.size w w' := by
  obtain ⟨h0, h1, h2, h3, h4⟩ := hs
  simp only [maxLen, I64] at *
  go_enter Try.func35, Try.ntmps35
  go_wp2_with fail
  all_goals go_ret
  all_goals refine ⟨⟨_, rfl, ?_⟩, ((Below.refl _ _).alloc (Nat.le_refl _) _)⟩
  all_goals (simp only [pSymbolW]; omega)
def szpSymbol (xs : List PSymbol) : Nat := xs.length + (xs.map pSymbolW).sum
theorem szpSymbol_take (xs : List PSymbol) (k : Nat) (h : k < xs.length) : ((xs.take (k+1)).map pSymbolW).sum = ((xs.take k).map pSymbolW).sum + pSymbolW xs[k] := by
  rw [List.take_succ_eq_append_getElem h, List.map_append, List.sum_append]; simp
set_option maxHeartbeats 1000000 in
theorem szSymbolS_c {o : Bool} {e : TypeId} {xs : List PSymbol} {v : Value} {F : List Nat} (w : World) (h : (pSymbols e).rep o w xs [v] F) (left : Int) (hl : 0 ≤ left ∧ left ≤ 1048576) :
    Calls Try.prog 9 #[v, .int .i64 left] w fun e w' => (∃ r : Int, e = .returned (.int .i64 r) ∧ -1 ≤ r ∧ r ≤ left ∧ (0 ≤ r → r + szpSymbol xs ≤ left)) ∧ Below w.heap.size w w' := by
  have hok := pSymbols_ok h
  obtain ⟨A, c, rfl, hc1, hc2, hr⟩ := pSymbols_open h
  clear h
  unfold maxLen at hc2
  by_cases h0 : left - xs.length < 0
  · go_enter Try.func9, Try.ntmps9
    go_wp2_with fail
    go_ret
    exact ⟨⟨-1, rfl, by omega, by omega, by omega⟩, Below.refl _ _⟩
  · have h1 : ¬ (left - (xs.length : Int) < 0) := h0
    go_enter Try.func9, Try.ntmps9
    go_wp2_with fail
    go_loopw [1, 5] (fun l i wr => ∃ k : Nat, k ≤ xs.length ∧ i = .int .i64 k ∧ (∃ n : Int, 0 ≤ n ∧ n ≤ left ∧ Hid (n + xs.length + ((xs.take k).map pSymbolW).sum ≤ left) ∧ l = .int .i64 n) ∧ Below w.heap.size w wr) (fun _ i _ => xs.length - (intOf i).toNat)
    case atStart => exact ⟨0, Nat.zero_le _, rfl, ⟨left - xs.length, by omega, by omega, by show _ ≤ _; simp, rfl⟩, Below.refl _ _⟩
    case round =>
      obtain ⟨k, hk, rfl, ⟨n, hn0, hn1, hn, rfl⟩, hb⟩ := hrel
      have hbs := hb.size
      by_cases hlt : k < xs.length
      · obtain ⟨b, off, rfl, hbb, _, h0, h1, h2, h3, h4, _⟩ := hr k hlt
        rw [← hb.cell (p := ⟨b, _, none⟩) hbb] at h0 h1 h2 h3 h4
        have H := Lib.hid (szpSymbol_take xs k hlt)
        have HO := Lib.hid (hok _ (List.getElem_mem hlt))
        clear hr hok
        go_wp2_with fail
        refine (szSymbol_c xs[k] n _ HO.out ⟨hn0, by omega⟩).mono ?_
        rintro e w1 ⟨⟨r, rfl, hr0, hr1, hr2⟩, hb1⟩
        by_cases hneg : r < 0
        · go_wp2_with fail
          go_ret
          exact ⟨⟨-1, rfl, by omega, by omega, by omega⟩, hb.trans (hb1.mono hbs)⟩
        · have hpos : ¬ (r < 0) := hneg
          have HR := Lib.hid (hr2 (by omega))
          clear hr2
          go_wp2_with fail
          go_roundw
          case rel => exact ⟨k + 1, by omega, by go_num, ⟨r, by omega, by omega, (by show _ ≤ _; have h1 := hn.out; have h2 := HR.out; rw [H.out]; omega), rfl⟩, hb.trans (hb1.mono hbs)⟩
          case measure => simp [intOf]; omega
      · obtain rfl : k = xs.length := by omega
        clear hr hok
        go_wp2_with fail
        go_ret
        refine ⟨⟨n, rfl, by omega, by omega, fun _ => ?_⟩, hb⟩
        have h1 := hn.out
        rw [List.take_length] at h1
        unfold szpSymbol
        omega
/-- The marks from number s on. -/
def markPSymbol (n s : Nat) : List PSymbol := (List.range n).map fun i : Nat => ⟨markB (s + i * 5), (s : Int) + (i : Int) * 5 + 1, (s : Int) + (i : Int) * 5 + 1 + 1, (s : Int) + (i : Int) * 5 + 1 + 1 + 1, (s : Int) + (i : Int) * 5 + 1 + 1 + 1 + 1⟩
theorem markPSymbol_len (n s : Nat) : (markPSymbol n s).length = n := by simp [markPSymbol]
theorem markPSymbol_succ (n s : Nat) : markPSymbol (n + 1) s = markPSymbol n s ++ [⟨markB (s + n * 5), (s : Int) + (n : Int) * 5 + 1, (s : Int) + (n : Int) * 5 + 1 + 1, (s : Int) + (n : Int) * 5 + 1 + 1 + 1, (s : Int) + (n : Int) * 5 + 1 + 1 + 1 + 1⟩] := by simp [markPSymbol, List.range_succ]
theorem markPSymbol_ok (n s : Nat) (hn : n ≤ 1048576) (hs : s ≤ 10000000) : ∀ x ∈ markPSymbol n s, pSymbolOk x := by
  intro x hx
  obtain ⟨i, hi, rfl⟩ := List.mem_map.1 hx
  have hi' : i < n := by simpa using hi
  refine ⟨by have := markB_size (s + i * 5); simp only [maxLen]; omega, ⟨by dsimp only; omega, by dsimp only; omega⟩, ⟨by dsimp only; omega, by dsimp only; omega⟩, ⟨by dsimp only; omega, by dsimp only; omega⟩, ⟨by dsimp only; omega, by dsimp only; omega⟩⟩
set_option maxRecDepth 100000 in
set_option maxHeartbeats 1000000 in
theorem markSymbolS_c {e : TypeId} {xs : List PSymbol} {v : Value} {F : List Nat} (w : World) (h : (pSymbols e).rep true w xs [v] F) (hx : xs.length ≤ 1048576) (s : Nat) (hs0 : 0 < s) (hs : s ≤ 10000000) :
    Calls Try.prog 26 #[v, .int .i64 s] w fun e' w' => e' = .returned (.int .i64 ((s : Int) + (xs.length : Int) * 5)) ∧ (pSymbols e).rep true w' (markPSymbol xs.length s) [v] F ∧ Only F w w' := by
  by_cases hn : xs.length = 0
  · obtain ⟨A, c, hv, hc1, hc2, hr⟩ := slice_open h
    have hxs : xs = [] := List.eq_nil_of_length_eq_zero hn
    have h' : (pSymbols e).rep true w (markPSymbol xs.length s) [v] F := by rw [hn]; rw [hxs] at h; exact h
    rw [hn] at hv
    subst hv
    rw [hn] at h' ⊢
    clear hn hr h hx hc1
    go_enter Try.func26, Try.ntmps26
    go_wp2_with fail
    refine wp_loop_rounds 1 ?_; rw [rounds_succ]
    go_wp2_with fail
    go_ret
    exact ⟨ret_int (by omega), h', Only.refl _ _⟩
  · obtain ⟨g, c, cs, rest, G, rfl, hl, hc, hrow, hrp, hlen, rfl⟩ := row_of_slice h (by omega)
    obtain ⟨rfl, rfl⟩ := repL_pSymbol_inv hrp
    have hgl := hrow.lt
    clear hrp h
    go_enter Try.func26, Try.ntmps26
    go_wp2_with fail
    go_loopw [1, 5] (fun m i wr => ∃ k : Nat, k ≤ xs.length ∧ i = .int .i64 k ∧ m = .int .i64 ((s : Int) + (k : Int) * 5) ∧ Row wr g e ((markPSymbol k s).flatMap pSymbolCells ++ ((xs.drop k).flatMap pSymbolCells ++ rest)) ∧ Only [g] w wr) (fun _ i _ => xs.length - (intOf i).toNat)
    case atStart => exact ⟨0, Nat.zero_le _, rfl, by simp, by simpa [markPSymbol] using hrow, Only.refl _ _⟩
    case round =>
      obtain ⟨k, hk, rfl, rfl, hrk, hb⟩ := hrel
      have hbs := hb.size
      by_cases hlt : k < xs.length
      · have hpl : ((markPSymbol k s).flatMap pSymbolCells).length = k * 5 := by rw [pSymbolCells_len, markPSymbol_len]
        have hgw : g < wr.heap.size := hrk.lt
        rw [List.drop_eq_getElem_cons hlt, List.flatMap_cons] at hrk
        have HP := Lib.hid hpl
        have HN := Lib.hid hn
        have HE := Lib.hid hlen
        have HR := Lib.hid hrk
        clear hpl hn hlen hrow hrk
        have R0 := HR.out
        go_wp2_with fail
        refine (markText_i _ _ (by omega) (by omega)).mono ?_
        rintro e' w0 ⟨rfl, hb0⟩
        have S0 := Row.later R0 hb0
        have R1 := S0
        clear S0
        obtain ⟨⟨v0, hv0⟩, hf0⟩ := Row.canJ R1 (i := k * 5) (j := 0) (by rw [HP.out]; rfl) (by simp [pSymbolCells])
        have R2 := Row.put R1 (i := k * 5) (j := 0) (by rw [HP.out]; rfl) (.string (markB (s + k * 5)))
        obtain ⟨⟨v1, hv1⟩, hf1⟩ := Row.canJ R2 (i := k * 5 + 1) (j := 1) (by rw [HP.out]) (by simp [pSymbolCells])
        have R3 := Row.put R2 (i := k * 5 + 1) (j := 1) (by rw [HP.out]) (.int .i64 ((s : Int) + (k : Int) * 5 + 1))
        obtain ⟨⟨v2, hv2⟩, hf2⟩ := Row.canJ R3 (i := k * 5 + 2) (j := 2) (by rw [HP.out]) (by simp [pSymbolCells])
        have R4 := Row.put R3 (i := k * 5 + 2) (j := 2) (by rw [HP.out]) (.int .i64 ((s : Int) + (k : Int) * 5 + 1 + 1))
        obtain ⟨⟨v3, hv3⟩, hf3⟩ := Row.canJ R4 (i := k * 5 + 3) (j := 3) (by rw [HP.out]) (by simp [pSymbolCells])
        have R5 := Row.put R4 (i := k * 5 + 3) (j := 3) (by rw [HP.out]) (.int .i64 ((s : Int) + (k : Int) * 5 + 1 + 1 + 1))
        obtain ⟨⟨v4, hv4⟩, hf4⟩ := Row.canJ R5 (i := k * 5 + 4) (j := 4) (by rw [HP.out]) (by simp [pSymbolCells])
        have R6 := Row.put R5 (i := k * 5 + 4) (j := 4) (by rw [HP.out]) (.int .i64 ((s : Int) + (k : Int) * 5 + 1 + 1 + 1 + 1))
        have HZ := Lib.hid R6
        clear R0 R1 R2 R3 R4 R5 R6
        go_wp2_with fail
        go_roundw
        case rel =>
          refine ⟨k + 1, by omega, by go_num, by go_num, ?_, ((((((hb.trans (Only.of_below hb0)).set (by simp) _).set (by simp) _).set (by simp) _).set (by simp) _).set (by simp) _)⟩
          have R := HZ.out
          rw [markPSymbol_succ, List.flatMap_append, List.append_assoc]
          exact R
        case measure => simp [intOf]; omega
      · obtain rfl : k = xs.length := by omega
        have HN := Lib.hid hn
        clear hn
        go_wp2_with fail
        go_ret
        rw [List.drop_length, List.flatMap_nil, List.nil_append] at hrk
        exact ⟨rfl, slice_of_room hrk (repL_pSymbol _ (markPSymbol_ok _ _ hx hs)) (by simp [markPSymbol]) hl hc (by rw [← hlen, List.length_append, List.length_append, pSymbolCells_len, pSymbolCells_len, markPSymbol_len]), hb⟩
end Go.Proofs.Ytkickllohilciaa

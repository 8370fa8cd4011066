/- The type Feat: its data, how it lies in memory, and the law's own helpers over it. Conditions: none. -/
import Derived.Test.YtkkignkoneeieaaRows
import Derived.Test.YtkkignkoneeieaaStrSm
namespace Go.Proofs.Ytkkignkoneeieaa
open Go Go.RowKit

structure PFeat where
  x : Int
  y : Int
  d : Int
  deriving DecidableEq

def pFeat : Ty PFeat := (int64.prod (int64.prod int64)).via fun s => (s.x, s.y, s.d)
theorem pFeat_rep {o : Bool} {w : World} {s : PFeat} {cs : List Value} {F : List Nat} : pFeat.rep o w s cs F ↔ cs = [.int .i64 s.x, .int .i64 s.y, .int .i64 s.d] ∧ F = [] ∧ I64 s.x ∧ I64 s.y ∧ I64 s.d := by
  constructor
  · rintro ⟨_, _, _, _, rfl, rfl, ⟨rfl, rfl, h0⟩, ⟨_, _, _, _, rfl, rfl, ⟨rfl, rfl, h1⟩, ⟨rfl, rfl, h2⟩⟩⟩
    exact ⟨rfl, rfl, h0, h1, h2⟩
  · rintro ⟨rfl, rfl, h0, h1, h2⟩
    exact ⟨_, _, [], [], rfl, rfl, ⟨rfl, rfl, h0⟩, ⟨_, _, [], [], rfl, rfl, ⟨rfl, rfl, h1⟩, ⟨rfl, rfl, h2⟩⟩⟩
def pFeats (e : TypeId) : Ty (List PFeat) := pFeat.slice e
theorem pFeats_open {o : Bool} {w : World} {e : TypeId} {xs : List PFeat} {v : Value} {F : List Nat} (h : (pFeats e).rep o w xs [v] F) :
    ∃ A c, v = .slice A xs.length c ∧ xs.length ≤ c ∧ c ≤ maxLen ∧ ∀ k (hk : k < xs.length), ∃ b off, A = some ⟨b, off, none⟩ ∧ b < w.heap.size ∧ b ∈ F ∧
      w.cell? ⟨b, off + k * 3, none⟩ = some (.int .i64 xs[k].x) ∧ w.cell? ⟨b, off + k * 3 + 1, none⟩ = some (.int .i64 xs[k].y) ∧ w.cell? ⟨b, off + k * 3 + 2, none⟩ = some (.int .i64 xs[k].d) ∧ I64 xs[k].x ∧ I64 xs[k].y ∧ I64 xs[k].d := by
  obtain ⟨A, c, hv, h1, h2, h3⟩ := slice_open h
  refine ⟨A, c, hv, h1, h2, fun k hk => ?_⟩
  obtain ⟨b, off, ck, Fk, hA, hb, hin, hr, _, hc⟩ := h3 k hk
  obtain ⟨rfl, rfl, i0, i1, i2⟩ := pFeat_rep.1 hr
  exact ⟨b, off, hA, hb, hin, hc 0 _ rfl, by rw [Nat.add_assoc]; exact hc 1 _ rfl, by rw [Nat.add_assoc]; exact hc 2 _ rfl, i0, i1, i2⟩
def pFeatCells (s : PFeat) : List Value := [.int .i64 s.x, .int .i64 s.y, .int .i64 s.d]
def pFeatOk (s : PFeat) : Prop := I64 s.x ∧ I64 s.y ∧ I64 s.d
theorem pFeatCells_len (xs : List PFeat) : (xs.flatMap pFeatCells).length = xs.length * 3 := by
  induction xs with
  | nil => rfl
  | cons a r ih => simp only [List.flatMap_cons, List.length_append, ih, List.length_cons]; simp [pFeatCells]; omega
theorem repL_pFeat {o : Bool} {w : World} : ∀ (xs : List PFeat), (∀ s ∈ xs, pFeatOk s) → repL pFeat o w xs (xs.flatMap pFeatCells) []
  | [], _ => ⟨rfl, rfl⟩
  | s :: r, h => ⟨_, _, [], [], rfl, rfl, pFeat_rep.2 ⟨rfl, rfl, h s (by simp)⟩, repL_pFeat r (fun t ht => h t (by simp [ht]))⟩
theorem repL_pFeat_inv {o : Bool} {w : World} : ∀ {xs : List PFeat} {cs : List Value} {F : List Nat}, repL pFeat o w xs cs F → cs = xs.flatMap pFeatCells ∧ F = []
  | [], _, _, ⟨rfl, rfl⟩ => ⟨rfl, rfl⟩
  | s :: r, _, _, ⟨c1, c2, F1, F2, rfl, rfl, h1, h2⟩ => by
    obtain ⟨rfl, rfl, _⟩ := pFeat_rep.1 h1
    obtain ⟨rfl, rfl⟩ := repL_pFeat_inv h2
    exact ⟨rfl, rfl⟩
theorem pFeats_ok {o : Bool} {w : World} {e : TypeId} {xs : List PFeat} {v : Value} {F : List Nat} (h : (pFeats e).rep o w xs [v] F) : ∀ s ∈ xs, pFeatOk s := by
  obtain ⟨_, _, _, _, _, hr⟩ := pFeats_open h
  intro s hs
  obtain ⟨k, hk, rfl⟩ := List.getElem_of_mem hs
  obtain ⟨_, _, _, _, _, _, _, _, h⟩ := hr k hk
  exact h

set_option maxHeartbeats 400000 in
theorem toFeat_c (s : PFeat) (w : World) :
    Calls Try.prog 122 #[.agg #[.int .i64 s.x, .int .i64 s.y, .int .i64 s.d]] w fun e w' => e = .returned (.agg #[.int .i64 s.x, .int .i64 s.y, .int .i64 s.d]) ∧ Below w.heap.size w w' := by
  go_enter Try.func122, Try.ntmps122
  go_wp2_with fail
  refine bodyPost_ret (v := .agg #[.int .i64 s.x, .int .i64 s.y, .int .i64 s.d]) (by simp [results, Try.results122, go_sem]) rfl ⟨rfl, ?_⟩
  exact (((Below.refl _ _).alloc (Nat.le_refl _) _).alloc (by simp) _).alloc (by simp; omega) _
set_option maxHeartbeats 1000000 in
theorem toFeatS_c {o : Bool} {e : TypeId} {xs : List PFeat} {v : Value} {F : List Nat} (w : World) (h : (pFeats e).rep o w xs [v] F) (hx : xs.length ≤ 1048576) :
    Calls Try.prog 115 #[v] w fun e w' => ∃ u G, e = .returned u ∧ (pFeats 146).rep true w' xs [u] G ∧ Fresh w.heap.size G ∧ Below w.heap.size w w' := by
  have hok := pFeats_ok h
  obtain ⟨A, c, rfl, hc1, hc2, hr⟩ := pFeats_open h
  have hmk := make_run (P := Try.prog) (t := 115) (e := 146) (z := .agg #[.int .i64 0, .int .i64 0, .int .i64 0]) (size := 3) (bytes := 24) Try.underlying115 (by kernel_rfl) xs.length xs.length rfl (by omega) (by unfold maxLen; omega)
  go_enter Try.func115, Try.ntmps115
  go_wp2_with fail
  go_loopw [4] (fun i wr => ∃ k : Nat, k ≤ xs.length ∧ i = .int .i64 k ∧ ∃ rest, Row wr w.heap.size 146 ((xs.take k).flatMap pFeatCells ++ rest) ∧ rest.length = (xs.length - k) * 3 ∧ Below w.heap.size w wr) (fun i _ => xs.length - (intOf i).toNat)
  case atStart =>
    exact ⟨0, Nat.zero_le _, rfl, _, Row.new w _ _, by simp [madeCells], (Below.refl _ _).alloc (Nat.le_refl _) _⟩
  case round =>
    obtain ⟨k, hk, rfl, rest, hrow, hrl, hb⟩ := hrel
    by_cases hlt : k < xs.length
    · obtain ⟨b, off, rfl, hbb, _, h0, h1, h2, _⟩ := hr k hlt
      rw [← hb.cell (p := ⟨b, _, none⟩) hbb] at h0 h1 h2
      have hbs := hb.size
      have hrl2 := hrow.lt
      have hpl : ((xs.take k).flatMap pFeatCells).length = k * 3 := by rw [pFeatCells_len, List.length_take]; omega
      obtain ⟨r0, r1, r2, rest', rfl⟩ : ∃ r0 r1 r2 rest', rest = r0 :: r1 :: r2 :: rest' := by
        match rest, hrl with
        | r0 :: r1 :: r2 :: rest', _ => exact ⟨_, _, _, _, rfl⟩
        | [], h => simp at h; omega
        | [_], h => simp at h; omega
        | [_, _], h => simp at h; omega
      clear hr h hmk
      go_wp2_with (go_at_call 122; refine (toFeat_c xs[k] _).mono ?_; rintro e w1 ⟨rfl, hb1⟩; have hrow1 := hrow.later hb1; obtain ⟨⟨v0, hv0⟩, hf0⟩ := hrow1.can (i := k * 3) (by simp [hpl]); obtain ⟨⟨v1, hv1⟩, hf1⟩ := hrow1.can (i := k * 3 + 1) (by simp [hpl]); obtain ⟨⟨v2, hv2⟩, hf2⟩ := hrow1.can (i := k * 3 + 2) (by simp [hpl]))
      go_roundw
      case rel =>
        refine ⟨k + 1, by omega, by go_num, rest', ?_, by simp at hrl; omega, ((((hb.trans (hb1.mono hbs)).setCell (Nat.le_refl _) _).setCell (Nat.le_refl _) _).setCell (Nat.le_refl _) _)⟩
        have R := (((hrow1.put (j := 0) (i := k * 3) (by rw [hpl]; rfl) (.int .i64 xs[k].x)).put (j := 1) (i := k * 3 + 1) (by rw [hpl]) (.int .i64 xs[k].y)).put (j := 2) (i := k * 3 + 2) (by rw [hpl]) (.int .i64 xs[k].d))
        rw [List.take_succ_eq_append_getElem hlt, List.flatMap_append, List.append_assoc]
        exact R
      case measure => simp [intOf]; omega
    · obtain rfl : k = xs.length := by omega
      go_wp2_with fail
      go_ret
      have h0 : rest = [] := List.eq_nil_of_length_eq_zero (by simpa using hrl)
      subst h0
      rw [List.append_nil, List.take_length] at hrow
      exact ⟨_, [w.heap.size], rfl, slice_of_row hrow (repL_pFeat xs hok) (by unfold maxLen; omega), ⟨by simp, by simp⟩, hb⟩
set_option maxHeartbeats 400000 in
theorem eqFeat_c (s t : PFeat) (w : World) :
    Calls Try.prog 127 #[.agg #[.int .i64 s.x, .int .i64 s.y, .int .i64 s.d], .agg #[.int .i64 t.x, .int .i64 t.y, .int .i64 t.d]] w fun e w' => e = .returned (.bool (decide (s = t))) ∧ Below w.heap.size w w' := by
  have e : decide (s = t) = decide (s.x = t.x ∧ s.y = t.y ∧ s.d = t.d) := by apply decide_eq_decide.2; cases s; cases t; simp
  rw [e]
  clear e
  go_enter Try.func127, Try.ntmps127
  go_wp2_with fail
  all_goals go_ret
  all_goals refine ⟨?_, ((Below.refl _ _).alloc (Nat.le_refl _) _).alloc (by simp) _⟩
  all_goals simp_all [str_eq]
set_option maxRecDepth 100000 in
set_option maxHeartbeats 1000000 in
theorem eqFeatS_c {oa ob : Bool} {ea eb : TypeId} {xs ys : List PFeat} {v u : Value} {F G : List Nat} (w : World) (h : (pFeats ea).rep oa w xs [v] F) (h' : (pFeats eb).rep ob w ys [u] G) (hx : xs.length ≤ 1048576) (hy : ys.length ≤ 1048576) :
    Calls Try.prog 119 #[v, u] w fun e w' => e = .returned (.bool (decide (xs = ys))) ∧ Below w.heap.size w w' := by
  obtain ⟨A, c, rfl, hc1, hc2, hr⟩ := pFeats_open h
  obtain ⟨B, d, rfl, hd1, hd2, hs⟩ := pFeats_open h'
  clear h h'
  by_cases hl : xs.length = ys.length
  · have hne : ((xs.length : Int) != (ys.length : Int)) = false := by simp [hl]
    have HL := Lib.hid hl
    clear hl
    go_enter Try.func119, Try.ntmps119
    go_wp2_with fail
    go_loopw [5] (fun i wr => ∃ k : Nat, k ≤ xs.length ∧ i = .int .i64 k ∧ (∀ j (hj : j < xs.length) (hj' : j < ys.length), j < k → xs[j] = ys[j]) ∧ Below w.heap.size w wr) (fun i _ => xs.length - (intOf i).toNat)
    case atStart => exact ⟨0, Nat.zero_le _, rfl, fun _ _ _ h => by omega, Below.refl _ _⟩
    case round =>
      obtain ⟨k, hk, rfl, hall, hb⟩ := hrel
      have hbs := hb.size
      by_cases hlt : k < xs.length
      · have hlt' : k < ys.length := by have := HL.out; omega
        obtain ⟨b, off, rfl, hbb, _, h0, h1, h2, _⟩ := hr k hlt
        obtain ⟨b', off', rfl, hbb', _, g0, g1, g2, _⟩ := hs k hlt'
        rw [← hb.cell (p := ⟨b, _, none⟩) hbb] at h0 h1 h2
        rw [← hb.cell (p := ⟨b', _, none⟩) hbb'] at g0 g1 g2
        have HA := Lib.hid hall
        clear hr hs hall
        have C := eqFeat_c xs[k] ys[k]
        by_cases hkk : xs[k] = ys[k]
        · rw [decide_eq_true hkk] at C
          have HC := Lib.hid C
          have HK := Lib.hid hkk
          clear C hkk
          go_wp2_with fail
          go_still_tail 8, (by kernel_rfl)
          go_wp2_with (go_at_call 127; refine (HC.out _).mono ?_; rintro e w1 ⟨rfl, hb1⟩)
          go_roundw
          case rel =>
            refine ⟨k + 1, by omega, by go_num, fun j hj hj' hjk => ?_, hb.drew.trans (hb1.mono hbs)⟩
            by_cases e : j = k
            · subst e; exact HK.out
            · exact HA.out j hj hj' (by omega)
          case measure => simp [intOf]; omega
        · rw [decide_eq_false hkk] at C
          have HC := Lib.hid C
          have HK := Lib.hid hkk
          clear C hkk
          go_wp2_with fail
          go_still_tail 8, (by kernel_rfl)
          go_wp2_with (go_at_call 127; refine (HC.out _).mono ?_; rintro e w1 ⟨rfl, hb1⟩)
          go_ret
          have hne : ¬ xs = ys := fun e => by subst e; exact HK.out rfl
          exact ⟨by simp [hne], hb.drew.trans (hb1.mono hbs)⟩
      · obtain rfl : k = xs.length := by omega
        have heq : xs = ys := List.ext_getElem HL.out (fun j h1 h2 => hall j h1 h2 h1)
        clear hall
        go_wp2_with fail
        go_ret
        exact ⟨by simp [heq], hb⟩
  · have hne : ((xs.length : Int) != (ys.length : Int)) = true := by rw [bne_iff_ne]; omega
    have hxy : ¬ xs = ys := fun e => hl (by rw [e])
    have HL := Lib.hid hxy
    clear hl hxy
    go_enter Try.func119, Try.ntmps119
    go_wp2_with fail
    go_ret
    exact ⟨by simp [HL.out], Below.refl _ _⟩
set_option maxHeartbeats 400000 in
theorem szFeatS_c {o : Bool} {e : TypeId} {xs : List PFeat} {v : Value} {F : List Nat} (w : World) (h : (pFeats e).rep o w xs [v] F) (left : Int) (hl : 0 ≤ left ∧ left ≤ 1048576) :
    Calls Try.prog 110 #[v, .int .i64 left] w fun e w' => (∃ r : Int, e = .returned (.int .i64 r) ∧ -1 ≤ r ∧ r ≤ left ∧ (0 ≤ r → r + xs.length ≤ left)) ∧ Below w.heap.size w w' := by
  obtain ⟨A, c, rfl, hc1, hc2, hr⟩ := pFeats_open h
  clear hr h
  unfold maxLen at hc2
  go_enter Try.func110, Try.ntmps110
  go_wp2_with fail
  all_goals go_ret
  all_goals exact ⟨⟨_, rfl, by omega⟩, Below.refl _ _⟩
/-- The marks from number s on. -/
def markPFeat (n s : Nat) : List PFeat := (List.range n).map fun i : Nat => ⟨(s : Int) + (i : Int) * 3, (s : Int) + (i : Int) * 3 + 1, (s : Int) + (i : Int) * 3 + 1 + 1⟩
theorem markPFeat_len (n s : Nat) : (markPFeat n s).length = n := by simp [markPFeat]
theorem markPFeat_succ (n s : Nat) : markPFeat (n + 1) s = markPFeat n s ++ [⟨(s : Int) + (n : Int) * 3, (s : Int) + (n : Int) * 3 + 1, (s : Int) + (n : Int) * 3 + 1 + 1⟩] := by simp [markPFeat, List.range_succ]
theorem markPFeat_ok (n s : Nat) (hn : n ≤ 1048576) (hs : s ≤ 10000000) : ∀ x ∈ markPFeat n s, pFeatOk x := by
  intro x hx
  obtain ⟨i, hi, rfl⟩ := List.mem_map.1 hx
  have hi' : i < n := by simpa using hi
  refine ⟨⟨by dsimp only; omega, by dsimp only; omega⟩, ⟨by dsimp only; omega, by dsimp only; omega⟩, ⟨by dsimp only; omega, by dsimp only; omega⟩⟩
end Go.Proofs.Ytkkignkoneeieaa

/- The type Entry: its data, how it lies in memory, and the law's own helpers over it. Conditions: none. -/
namespace Go.Proofs.Ytkkignkoneeieaa
open Go Go.RowKit

structure PEntry where
  word : ByteArray
  cost : Int
  deriving DecidableEq

def pEntry : Ty PEntry := (str.prod int64).via fun s => (s.word, s.cost)
theorem pEntry_rep {o : Bool} {w : World} {s : PEntry} {cs : List Value} {F : List Nat} : pEntry.rep o w s cs F ↔ cs = [.string s.word, .int .i64 s.cost] ∧ F = [] ∧ s.word.size ≤ maxLen ∧ I64 s.cost := by
  constructor
  · rintro ⟨_, _, _, _, rfl, rfl, ⟨rfl, rfl, h0⟩, ⟨rfl, rfl, h1⟩⟩
    exact ⟨rfl, rfl, h0, h1⟩
  · rintro ⟨rfl, rfl, h0, h1⟩
    exact ⟨_, _, [], [], rfl, rfl, ⟨rfl, rfl, h0⟩, ⟨rfl, rfl, h1⟩⟩
def pEntrys (e : TypeId) : Ty (List PEntry) := pEntry.slice e
theorem pEntrys_open {o : Bool} {w : World} {e : TypeId} {xs : List PEntry} {v : Value} {F : List Nat} (h : (pEntrys e).rep o w xs [v] F) :
    ∃ A c, v = .slice A xs.length c ∧ xs.length ≤ c ∧ c ≤ maxLen ∧ ∀ k (hk : k < xs.length), ∃ b off, A = some ⟨b, off, none⟩ ∧ b < w.heap.size ∧ b ∈ F ∧
      w.cell? ⟨b, off + k * 2, none⟩ = some (.string xs[k].word) ∧ w.cell? ⟨b, off + k * 2 + 1, none⟩ = some (.int .i64 xs[k].cost) ∧ xs[k].word.size ≤ maxLen ∧ I64 xs[k].cost := by
  obtain ⟨A, c, hv, h1, h2, h3⟩ := slice_open h
  refine ⟨A, c, hv, h1, h2, fun k hk => ?_⟩
  obtain ⟨b, off, ck, Fk, hA, hb, hin, hr, _, hc⟩ := h3 k hk
  obtain ⟨rfl, rfl, i0, i1⟩ := pEntry_rep.1 hr
  exact ⟨b, off, hA, hb, hin, hc 0 _ rfl, by rw [Nat.add_assoc]; exact hc 1 _ rfl, i0, i1⟩
def pEntryCells (s : PEntry) : List Value := [.string s.word, .int .i64 s.cost]
def pEntryOk (s : PEntry) : Prop := s.word.size ≤ maxLen ∧ I64 s.cost
theorem pEntryCells_len (xs : List PEntry) : (xs.flatMap pEntryCells).length = xs.length * 2 := by
  induction xs with
  | nil => rfl
  | cons a r ih => simp only [List.flatMap_cons, List.length_append, ih, List.length_cons]; simp [pEntryCells]; omega
theorem repL_pEntry {o : Bool} {w : World} : ∀ (xs : List PEntry), (∀ s ∈ xs, pEntryOk s) → repL pEntry o w xs (xs.flatMap pEntryCells) []
  | [], _ => ⟨rfl, rfl⟩
  | s :: r, h => ⟨_, _, [], [], rfl, rfl, pEntry_rep.2 ⟨rfl, rfl, h s (by simp)⟩, repL_pEntry r (fun t ht => h t (by simp [ht]))⟩
theorem repL_pEntry_inv {o : Bool} {w : World} : ∀ {xs : List PEntry} {cs : List Value} {F : List Nat}, repL pEntry o w xs cs F → cs = xs.flatMap pEntryCells ∧ F = []
  | [], _, _, ⟨rfl, rfl⟩ => ⟨rfl, rfl⟩
  | s :: r, _, _, ⟨c1, c2, F1, F2, rfl, rfl, h1, h2⟩ => by
    obtain ⟨rfl, rfl, _⟩ := pEntry_rep.1 h1
    obtain ⟨rfl, rfl⟩ := repL_pEntry_inv h2
    exact ⟨rfl, rfl⟩
theorem pEntrys_ok {o : Bool} {w : World} {e : TypeId} {xs : List PEntry} {v : Value} {F : List Nat} (h : (pEntrys e).rep o w xs [v] F) : ∀ s ∈ xs, pEntryOk s := by
  obtain ⟨_, _, _, _, _, hr⟩ := pEntrys_open h
  intro s hs
  obtain ⟨k, hk, rfl⟩ := List.getElem_of_mem hs
  obtain ⟨_, _, _, _, _, _, _, h⟩ := hr k hk
  exact h

set_option maxHeartbeats 400000 in
theorem toEntry_c (s : PEntry) (w : World) :
    Calls Try.prog 95 #[.agg #[.string s.word, .int .i64 s.cost]] w fun e w' => e = .returned (.agg #[.string s.word, .int .i64 s.cost]) ∧ Below w.heap.size w w' := by
  go_enter Try.func95, Try.ntmps95
  go_wp2_with fail
  refine bodyPost_ret (v := .agg #[.string s.word, .int .i64 s.cost]) (by simp [results, Try.results95, go_sem]) rfl ⟨rfl, ?_⟩
  exact (((Below.refl _ _).alloc (Nat.le_refl _) _).alloc (by simp) _).alloc (by simp; omega) _
set_option maxHeartbeats 1000000 in
theorem toEntryS_c {o : Bool} {e : TypeId} {xs : List PEntry} {v : Value} {F : List Nat} (w : World) (h : (pEntrys e).rep o w xs [v] F) (hx : xs.length ≤ 1048576) :
    Calls Try.prog 57 #[v] w fun e w' => ∃ u G, e = .returned u ∧ (pEntrys 120).rep true w' xs [u] G ∧ Fresh w.heap.size G ∧ Below w.heap.size w w' := by
  have hok := pEntrys_ok h
  obtain ⟨A, c, rfl, hc1, hc2, hr⟩ := pEntrys_open h
  have hmk := make_run (P := Try.prog) (t := 41) (e := 120) (z := .agg #[.string .empty, .int .i64 0]) (size := 2) (bytes := 24) Try.underlying41 (by kernel_rfl) xs.length xs.length rfl (by omega) (by unfold maxLen; omega)
  go_enter Try.func57, Try.ntmps57
  go_wp2_with fail
  go_loopw [4] (fun i wr => ∃ k : Nat, k ≤ xs.length ∧ i = .int .i64 k ∧ ∃ rest, Row wr w.heap.size 120 ((xs.take k).flatMap pEntryCells ++ rest) ∧ rest.length = (xs.length - k) * 2 ∧ Below w.heap.size w wr) (fun i _ => xs.length - (intOf i).toNat)
  case atStart =>
    exact ⟨0, Nat.zero_le _, rfl, _, Row.new w _ _, by simp [madeCells], (Below.refl _ _).alloc (Nat.le_refl _) _⟩
  case round =>
    obtain ⟨k, hk, rfl, rest, hrow, hrl, hb⟩ := hrel
    by_cases hlt : k < xs.length
    · obtain ⟨b, off, rfl, hbb, _, h0, h1, _⟩ := hr k hlt
      rw [← hb.cell (p := ⟨b, _, none⟩) hbb] at h0 h1
      have hbs := hb.size
      have hrl2 := hrow.lt
      have hpl : ((xs.take k).flatMap pEntryCells).length = k * 2 := by rw [pEntryCells_len, List.length_take]; omega
      obtain ⟨r0, r1, rest', rfl⟩ : ∃ r0 r1 rest', rest = r0 :: r1 :: rest' := by
        match rest, hrl with
        | r0 :: r1 :: rest', _ => exact ⟨_, _, _, rfl⟩
        | [], h => simp at h; omega
        | [_], h => simp at h; omega
      clear hr h hmk
      go_wp2_with (go_at_call 95; refine (toEntry_c xs[k] _).mono ?_; rintro e w1 ⟨rfl, hb1⟩; have hrow1 := hrow.later hb1; obtain ⟨⟨v0, hv0⟩, hf0⟩ := hrow1.can (i := k * 2) (by simp [hpl]); obtain ⟨⟨v1, hv1⟩, hf1⟩ := hrow1.can (i := k * 2 + 1) (by simp [hpl]))
      go_roundw
      case rel =>
        refine ⟨k + 1, by omega, by go_num, rest', ?_, by simp at hrl; omega, (((hb.trans (hb1.mono hbs)).setCell (Nat.le_refl _) _).setCell (Nat.le_refl _) _)⟩
        have R := ((hrow1.put (j := 0) (i := k * 2) (by rw [hpl]; rfl) (.string xs[k].word)).put (j := 1) (i := k * 2 + 1) (by rw [hpl]) (.int .i64 xs[k].cost))
        rw [List.take_succ_eq_append_getElem hlt, List.flatMap_append, List.append_assoc]
        exact R
      case measure => simp [intOf]; omega
    · obtain rfl : k = xs.length := by omega
      go_wp2_with fail
      go_ret
      have h0 : rest = [] := List.eq_nil_of_length_eq_zero (by simpa using hrl)
      subst h0
      rw [List.append_nil, List.take_length] at hrow
      exact ⟨_, [w.heap.size], rfl, slice_of_row hrow (repL_pEntry xs hok) (by unfold maxLen; omega), ⟨by simp, by simp⟩, hb⟩
set_option maxHeartbeats 400000 in
theorem eqEntry_c (s t : PEntry) (w : World) :
    Calls Try.prog 104 #[.agg #[.string s.word, .int .i64 s.cost], .agg #[.string t.word, .int .i64 t.cost]] w fun e w' => e = .returned (.bool (decide (s = t))) ∧ Below w.heap.size w w' := by
  have e : decide (s = t) = decide (s.word = t.word ∧ s.cost = t.cost) := by apply decide_eq_decide.2; cases s; cases t; simp
  rw [e]
  clear e
  go_enter Try.func104, Try.ntmps104
  go_wp2_with fail
  all_goals go_ret
  all_goals refine ⟨?_, ((Below.refl _ _).alloc (Nat.le_refl _) _).alloc (by simp) _⟩
  all_goals simp_all [str_eq]
set_option maxRecDepth 100000 in
set_option maxHeartbeats 1000000 in
theorem eqEntryS_c {oa ob : Bool} {ea eb : TypeId} {xs ys : List PEntry} {v u : Value} {F G : List Nat} (w : World) (h : (pEntrys ea).rep oa w xs [v] F) (h' : (pEntrys eb).rep ob w ys [u] G) (hx : xs.length ≤ 1048576) (hy : ys.length ≤ 1048576) :
    Calls Try.prog 67 #[v, u] w fun e w' => e = .returned (.bool (decide (xs = ys))) ∧ Below w.heap.size w w' := by
  obtain ⟨A, c, rfl, hc1, hc2, hr⟩ := pEntrys_open h
  obtain ⟨B, d, rfl, hd1, hd2, hs⟩ := pEntrys_open h'
  clear h h'
  by_cases hl : xs.length = ys.length
  · have hne : ((xs.length : Int) != (ys.length : Int)) = false := by simp [hl]
    have HL := Lib.hid hl
    clear hl
    go_enter Try.func67, Try.ntmps67
    go_wp2_with fail
    go_loopw [5] (fun i wr => ∃ k : Nat, k ≤ xs.length ∧ i = .int .i64 k ∧ (∀ j (hj : j < xs.length) (hj' : j < ys.length), j < k → xs[j] = ys[j]) ∧ Below w.heap.size w wr) (fun i _ => xs.length - (intOf i).toNat)
    case atStart => exact ⟨0, Nat.zero_le _, rfl, fun _ _ _ h => by omega, Below.refl _ _⟩
    case round =>
      obtain ⟨k, hk, rfl, hall, hb⟩ := hrel
      have hbs := hb.size
      by_cases hlt : k < xs.length
      · have hlt' : k < ys.length := by have := HL.out; omega
        obtain ⟨b, off, rfl, hbb, _, h0, h1, _⟩ := hr k hlt
        obtain ⟨b', off', rfl, hbb', _, g0, g1, _⟩ := hs k hlt'
        rw [← hb.cell (p := ⟨b, _, none⟩) hbb] at h0 h1
        rw [← hb.cell (p := ⟨b', _, none⟩) hbb'] at g0 g1
        have HA := Lib.hid hall
        clear hr hs hall
        have C := eqEntry_c xs[k] ys[k]
        by_cases hkk : xs[k] = ys[k]
        · rw [decide_eq_true hkk] at C
          have HC := Lib.hid C
          have HK := Lib.hid hkk
          clear C hkk
          go_wp2_with fail
          go_still_tail 8, (by kernel_rfl)
          go_wp2_with (go_at_call 104; refine (HC.out _).mono ?_; rintro e w1 ⟨rfl, hb1⟩)
          go_roundw
          case rel =>
            refine ⟨k + 1, by omega, by go_num, fun j hj hj' hjk => ?_, hb.drew.trans (hb1.mono hbs)⟩
            by_cases e : j = k
            · subst e; exact HK.out
            · exact HA.out j hj hj' (by omega)
          case measure => simp [intOf]; omega
        · rw [decide_eq_false hkk] at C
          have HC := Lib.hid C
          have HK := Lib.hid hkk
          clear C hkk
          go_wp2_with fail
          go_still_tail 8, (by kernel_rfl)
          go_wp2_with (go_at_call 104; refine (HC.out _).mono ?_; rintro e w1 ⟨rfl, hb1⟩)
          go_ret
          have hne : ¬ xs = ys := fun e => by subst e; exact HK.out rfl
          exact ⟨by simp [hne], hb.drew.trans (hb1.mono hbs)⟩
      · obtain rfl : k = xs.length := by omega
        have heq : xs = ys := List.ext_getElem HL.out (fun j h1 h2 => hall j h1 h2 h1)
        clear hall
        go_wp2_with fail
        go_ret
        exact ⟨by simp [heq], hb⟩
  · have hne : ((xs.length : Int) != (ys.length : Int)) = true := by rw [bne_iff_ne]; omega
    have hxy : ¬ xs = ys := fun e => hl (by rw [e])
    have HL := Lib.hid hxy
    clear hl hxy
    go_enter Try.func67, Try.ntmps67
    go_wp2_with fail
    go_ret
    exact ⟨by simp [HL.out], Below.refl _ _⟩
/-- What one weighs. -/
def pEntryW (s : PEntry) : Nat := s.word.size
set_option maxHeartbeats 400000 in
theorem szEntry_c (s : PEntry) (left : Int) (w : World) (hs : pEntryOk s) (hl : 0 ≤ left ∧ left ≤ 1048576) :
    Calls Try.prog 88 #[.agg #[.string s.word, .int .i64 s.cost], .int .i64 left] w fun e w' => (∃ r : Int, e = .returned (.int .i64 r) ∧ -1 ≤ r ∧ r ≤ left ∧ (0 ≤ r → r + pEntryW s ≤ left)) ∧ Below w.heap.size w w' := by
  obtain ⟨h0, h1⟩ := hs
  simp only [maxLen, I64] at *
  go_enter Try.func88, Try.ntmps88
  go_wp2_with fail
  all_goals go_ret
  all_goals refine ⟨⟨_, rfl, ?_⟩, ((Below.refl _ _).alloc (Nat.le_refl _) _)⟩
  all_goals (simp only [pEntryW]; omega)
def szpEntry (xs : List PEntry) : Nat := xs.length + (xs.map pEntryW).sum
theorem szpEntry_take (xs : List PEntry) (k : Nat) (h : k < xs.length) : ((xs.take (k+1)).map pEntryW).sum = ((xs.take k).map pEntryW).sum + pEntryW xs[k] := by
  rw [List.take_succ_eq_append_getElem h, List.map_append, List.sum_append]; simp
set_option maxHeartbeats 1000000 in
theorem szEntryS_c {o : Bool} {e : TypeId} {xs : List PEntry} {v : Value} {F : List Nat} (w : World) (h : (pEntrys e).rep o w xs [v] F) (left : Int) (hl : 0 ≤ left ∧ left ≤ 1048576) :
    Calls Try.prog 49 #[v, .int .i64 left] w fun e w' => (∃ r : Int, e = .returned (.int .i64 r) ∧ -1 ≤ r ∧ r ≤ left ∧ (0 ≤ r → r + szpEntry xs ≤ left)) ∧ Below w.heap.size w w' := by
  have hok := pEntrys_ok h
  obtain ⟨A, c, rfl, hc1, hc2, hr⟩ := pEntrys_open h
  clear h
  unfold maxLen at hc2
  by_cases h0 : left - xs.length < 0
  · go_enter Try.func49, Try.ntmps49
    go_wp2_with fail
    go_ret
    exact ⟨⟨-1, rfl, by omega, by omega, by omega⟩, Below.refl _ _⟩
  · have h1 : ¬ (left - (xs.length : Int) < 0) := h0
    go_enter Try.func49, Try.ntmps49
    go_wp2_with fail
    go_loopw [1, 5] (fun l i wr => ∃ k : Nat, k ≤ xs.length ∧ i = .int .i64 k ∧ (∃ n : Int, 0 ≤ n ∧ n ≤ left ∧ Hid (n + xs.length + ((xs.take k).map pEntryW).sum ≤ left) ∧ l = .int .i64 n) ∧ Below w.heap.size w wr) (fun _ i _ => xs.length - (intOf i).toNat)
    case atStart => exact ⟨0, Nat.zero_le _, rfl, ⟨left - xs.length, by omega, by omega, by show _ ≤ _; simp, rfl⟩, Below.refl _ _⟩
    case round =>
      obtain ⟨k, hk, rfl, ⟨n, hn0, hn1, hn, rfl⟩, hb⟩ := hrel
      have hbs := hb.size
      by_cases hlt : k < xs.length
      · obtain ⟨b, off, rfl, hbb, _, h0, h1, _⟩ := hr k hlt
        rw [← hb.cell (p := ⟨b, _, none⟩) hbb] at h0 h1
        have H := Lib.hid (szpEntry_take xs k hlt)
        have HO := Lib.hid (hok _ (List.getElem_mem hlt))
        clear hr hok
        go_wp2_with fail
        refine (szEntry_c xs[k] n _ HO.out ⟨hn0, by omega⟩).mono ?_
        rintro e w1 ⟨⟨r, rfl, hr0, hr1, hr2⟩, hb1⟩
        by_cases hneg : r < 0
        · go_wp2_with fail
          go_ret
          exact ⟨⟨-1, rfl, by omega, by omega, by omega⟩, hb.trans (hb1.mono hbs)⟩
        · have hpos : ¬ (r < 0) := hneg
          have HR := Lib.hid (hr2 (by omega))
          clear hr2
          go_wp2_with fail
          go_roundw
          case rel => exact ⟨k + 1, by omega, by go_num, ⟨r, by omega, by omega, (by show _ ≤ _; have h1 := hn.out; have h2 := HR.out; rw [H.out]; omega), rfl⟩, hb.trans (hb1.mono hbs)⟩
          case measure => simp [intOf]; omega
      · obtain rfl : k = xs.length := by omega
        clear hr hok
        go_wp2_with fail
        go_ret
        refine ⟨⟨n, rfl, by omega, by omega, fun _ => ?_⟩, hb⟩
        have h1 := hn.out
        rw [List.take_length] at h1
        unfold szpEntry
        omega
/-- The marks from number s on. -/
def markPEntry (n s : Nat) : List PEntry := (List.range n).map fun i : Nat => ⟨markB (s + i * 2), (s : Int) + (i : Int) * 2 + 1⟩
theorem markPEntry_len (n s : Nat) : (markPEntry n s).length = n := by simp [markPEntry]
theorem markPEntry_succ (n s : Nat) : markPEntry (n + 1) s = markPEntry n s ++ [⟨markB (s + n * 2), (s : Int) + (n : Int) * 2 + 1⟩] := by simp [markPEntry, List.range_succ]
theorem markPEntry_ok (n s : Nat) (hn : n ≤ 1048576) (hs : s ≤ 10000000) : ∀ x ∈ markPEntry n s, pEntryOk x := by
  intro x hx
  obtain ⟨i, hi, rfl⟩ := List.mem_map.1 hx
  have hi' : i < n := by simpa using hi
  refine ⟨by have := markB_size (s + i * 2); simp only [maxLen]; omega, ⟨by dsimp only; omega, by dsimp only; omega⟩⟩
end Go.Proofs.Ytkkignkoneeieaa

/- The type Bigram: its data, how it lies in memory, and the law's own helpers over it. Conditions: none. -/
namespace Go.Proofs.Ytkkignkoneeieaa
open Go Go.RowKit

structure PBigram where
  first : ByteArray
  second : ByteArray
  cost : Int
  deriving DecidableEq

def pBigram : Ty PBigram := (str.prod (str.prod int64)).via fun s => (s.first, s.second, s.cost)
theorem pBigram_rep {o : Bool} {w : World} {s : PBigram} {cs : List Value} {F : List Nat} : pBigram.rep o w s cs F ↔ cs = [.string s.first, .string s.second, .int .i64 s.cost] ∧ F = [] ∧ s.first.size ≤ maxLen ∧ s.second.size ≤ maxLen ∧ I64 s.cost := by
  constructor
  · rintro ⟨_, _, _, _, rfl, rfl, ⟨rfl, rfl, h0⟩, ⟨_, _, _, _, rfl, rfl, ⟨rfl, rfl, h1⟩, ⟨rfl, rfl, h2⟩⟩⟩
    exact ⟨rfl, rfl, h0, h1, h2⟩
  · rintro ⟨rfl, rfl, h0, h1, h2⟩
    exact ⟨_, _, [], [], rfl, rfl, ⟨rfl, rfl, h0⟩, ⟨_, _, [], [], rfl, rfl, ⟨rfl, rfl, h1⟩, ⟨rfl, rfl, h2⟩⟩⟩
def pBigrams (e : TypeId) : Ty (List PBigram) := pBigram.slice e
theorem pBigrams_open {o : Bool} {w : World} {e : TypeId} {xs : List PBigram} {v : Value} {F : List Nat} (h : (pBigrams e).rep o w xs [v] F) :
    ∃ A c, v = .slice A xs.length c ∧ xs.length ≤ c ∧ c ≤ maxLen ∧ ∀ k (hk : k < xs.length), ∃ b off, A = some ⟨b, off, none⟩ ∧ b < w.heap.size ∧ b ∈ F ∧
      w.cell? ⟨b, off + k * 3, none⟩ = some (.string xs[k].first) ∧ w.cell? ⟨b, off + k * 3 + 1, none⟩ = some (.string xs[k].second) ∧ w.cell? ⟨b, off + k * 3 + 2, none⟩ = some (.int .i64 xs[k].cost) ∧ xs[k].first.size ≤ maxLen ∧ xs[k].second.size ≤ maxLen ∧ I64 xs[k].cost := by
  obtain ⟨A, c, hv, h1, h2, h3⟩ := slice_open h
  refine ⟨A, c, hv, h1, h2, fun k hk => ?_⟩
  obtain ⟨b, off, ck, Fk, hA, hb, hin, hr, _, hc⟩ := h3 k hk
  obtain ⟨rfl, rfl, i0, i1, i2⟩ := pBigram_rep.1 hr
  exact ⟨b, off, hA, hb, hin, hc 0 _ rfl, by rw [Nat.add_assoc]; exact hc 1 _ rfl, by rw [Nat.add_assoc]; exact hc 2 _ rfl, i0, i1, i2⟩
def pBigramCells (s : PBigram) : List Value := [.string s.first, .string s.second, .int .i64 s.cost]
def pBigramOk (s : PBigram) : Prop := s.first.size ≤ maxLen ∧ s.second.size ≤ maxLen ∧ I64 s.cost
theorem pBigramCells_len (xs : List PBigram) : (xs.flatMap pBigramCells).length = xs.length * 3 := by
  induction xs with
  | nil => rfl
  | cons a r ih => simp only [List.flatMap_cons, List.length_append, ih, List.length_cons]; simp [pBigramCells]; omega
theorem repL_pBigram {o : Bool} {w : World} : ∀ (xs : List PBigram), (∀ s ∈ xs, pBigramOk s) → repL pBigram o w xs (xs.flatMap pBigramCells) []
  | [], _ => ⟨rfl, rfl⟩
  | s :: r, h => ⟨_, _, [], [], rfl, rfl, pBigram_rep.2 ⟨rfl, rfl, h s (by simp)⟩, repL_pBigram r (fun t ht => h t (by simp [ht]))⟩
theorem repL_pBigram_inv {o : Bool} {w : World} : ∀ {xs : List PBigram} {cs : List Value} {F : List Nat}, repL pBigram o w xs cs F → cs = xs.flatMap pBigramCells ∧ F = []
  | [], _, _, ⟨rfl, rfl⟩ => ⟨rfl, rfl⟩
  | s :: r, _, _, ⟨c1, c2, F1, F2, rfl, rfl, h1, h2⟩ => by
    obtain ⟨rfl, rfl, _⟩ := pBigram_rep.1 h1
    obtain ⟨rfl, rfl⟩ := repL_pBigram_inv h2
    exact ⟨rfl, rfl⟩
theorem pBigrams_ok {o : Bool} {w : World} {e : TypeId} {xs : List PBigram} {v : Value} {F : List Nat} (h : (pBigrams e).rep o w xs [v] F) : ∀ s ∈ xs, pBigramOk s := by
  obtain ⟨_, _, _, _, _, hr⟩ := pBigrams_open h
  intro s hs
  obtain ⟨k, hk, rfl⟩ := List.getElem_of_mem hs
  obtain ⟨_, _, _, _, _, _, _, _, h⟩ := hr k hk
  exact h

set_option maxHeartbeats 400000 in
theorem toBigram_c (s : PBigram) (w : World) :
    Calls Try.prog 96 #[.agg #[.string s.first, .string s.second, .int .i64 s.cost]] w fun e w' => e = .returned (.agg #[.string s.first, .string s.second, .int .i64 s.cost]) ∧ Below w.heap.size w w' := by
  go_enter Try.func96, Try.ntmps96
  go_wp2_with fail
  refine bodyPost_ret (v := .agg #[.string s.first, .string s.second, .int .i64 s.cost]) (by simp [results, Try.results96, go_sem]) rfl ⟨rfl, ?_⟩
  exact (((Below.refl _ _).alloc (Nat.le_refl _) _).alloc (by simp) _).alloc (by simp; omega) _
set_option maxHeartbeats 1000000 in
theorem toBigramS_c {o : Bool} {e : TypeId} {xs : List PBigram} {v : Value} {F : List Nat} (w : World) (h : (pBigrams e).rep o w xs [v] F) (hx : xs.length ≤ 1048576) :
    Calls Try.prog 58 #[v] w fun e w' => ∃ u G, e = .returned u ∧ (pBigrams 124).rep true w' xs [u] G ∧ Fresh w.heap.size G ∧ Below w.heap.size w w' := by
  have hok := pBigrams_ok h
  obtain ⟨A, c, rfl, hc1, hc2, hr⟩ := pBigrams_open h
  have hmk := make_run (P := Try.prog) (t := 44) (e := 124) (z := .agg #[.string .empty, .string .empty, .int .i64 0]) (size := 3) (bytes := 40) Try.underlying44 (by kernel_rfl) xs.length xs.length rfl (by omega) (by unfold maxLen; omega)
  go_enter Try.func58, Try.ntmps58
  go_wp2_with fail
  go_loopw [4] (fun i wr => ∃ k : Nat, k ≤ xs.length ∧ i = .int .i64 k ∧ ∃ rest, Row wr w.heap.size 124 ((xs.take k).flatMap pBigramCells ++ rest) ∧ rest.length = (xs.length - k) * 3 ∧ Below w.heap.size w wr) (fun i _ => xs.length - (intOf i).toNat)
  case atStart =>
    exact ⟨0, Nat.zero_le _, rfl, _, Row.new w _ _, by simp [madeCells], (Below.refl _ _).alloc (Nat.le_refl _) _⟩
  case round =>
    obtain ⟨k, hk, rfl, rest, hrow, hrl, hb⟩ := hrel
    by_cases hlt : k < xs.length
    · obtain ⟨b, off, rfl, hbb, _, h0, h1, h2, _⟩ := hr k hlt
      rw [← hb.cell (p := ⟨b, _, none⟩) hbb] at h0 h1 h2
      have hbs := hb.size
      have hrl2 := hrow.lt
      have hpl : ((xs.take k).flatMap pBigramCells).length = k * 3 := by rw [pBigramCells_len, List.length_take]; omega
      obtain ⟨r0, r1, r2, rest', rfl⟩ : ∃ r0 r1 r2 rest', rest = r0 :: r1 :: r2 :: rest' := by
        match rest, hrl with
        | r0 :: r1 :: r2 :: rest', _ => exact ⟨_, _, _, _, rfl⟩
        | [], h => simp at h; omega
        | [_], h => simp at h; omega
        | [_, _], h => simp at h; omega
      clear hr h hmk
      go_wp2_with (go_at_call 96; refine (toBigram_c xs[k] _).mono ?_; rintro e w1 ⟨rfl, hb1⟩; have hrow1 := hrow.later hb1; obtain ⟨⟨v0, hv0⟩, hf0⟩ := hrow1.can (i := k * 3) (by simp [hpl]); obtain ⟨⟨v1, hv1⟩, hf1⟩ := hrow1.can (i := k * 3 + 1) (by simp [hpl]); obtain ⟨⟨v2, hv2⟩, hf2⟩ := hrow1.can (i := k * 3 + 2) (by simp [hpl]))
      go_roundw
      case rel =>
        refine ⟨k + 1, by omega, by go_num, rest', ?_, by simp at hrl; omega, ((((hb.trans (hb1.mono hbs)).setCell (Nat.le_refl _) _).setCell (Nat.le_refl _) _).setCell (Nat.le_refl _) _)⟩
        have R := (((hrow1.put (j := 0) (i := k * 3) (by rw [hpl]; rfl) (.string xs[k].first)).put (j := 1) (i := k * 3 + 1) (by rw [hpl]) (.string xs[k].second)).put (j := 2) (i := k * 3 + 2) (by rw [hpl]) (.int .i64 xs[k].cost))
        rw [List.take_succ_eq_append_getElem hlt, List.flatMap_append, List.append_assoc]
        exact R
      case measure => simp [intOf]; omega
    · obtain rfl : k = xs.length := by omega
      go_wp2_with fail
      go_ret
      have h0 : rest = [] := List.eq_nil_of_length_eq_zero (by simpa using hrl)
      subst h0
      rw [List.append_nil, List.take_length] at hrow
      exact ⟨_, [w.heap.size], rfl, slice_of_row hrow (repL_pBigram xs hok) (by unfold maxLen; omega), ⟨by simp, by simp⟩, hb⟩
set_option maxHeartbeats 400000 in
theorem eqBigram_c (s t : PBigram) (w : World) :
    Calls Try.prog 105 #[.agg #[.string s.first, .string s.second, .int .i64 s.cost], .agg #[.string t.first, .string t.second, .int .i64 t.cost]] w fun e w' => e = .returned (.bool (decide (s = t))) ∧ Below w.heap.size w w' := by
  have e : decide (s = t) = decide (s.first = t.first ∧ s.second = t.second ∧ s.cost = t.cost) := by apply decide_eq_decide.2; cases s; cases t; simp
  rw [e]
  clear e
  go_enter Try.func105, Try.ntmps105
  go_wp2_with fail
  all_goals go_ret
  all_goals refine ⟨?_, ((Below.refl _ _).alloc (Nat.le_refl _) _).alloc (by simp) _⟩
  all_goals simp_all [str_eq]
set_option maxRecDepth 100000 in
set_option maxHeartbeats 1000000 in
theorem eqBigramS_c {oa ob : Bool} {ea eb : TypeId} {xs ys : List PBigram} {v u : Value} {F G : List Nat} (w : World) (h : (pBigrams ea).rep oa w xs [v] F) (h' : (pBigrams eb).rep ob w ys [u] G) (hx : xs.length ≤ 1048576) (hy : ys.length ≤ 1048576) :
    Calls Try.prog 68 #[v, u] w fun e w' => e = .returned (.bool (decide (xs = ys))) ∧ Below w.heap.size w w' := by
  obtain ⟨A, c, rfl, hc1, hc2, hr⟩ := pBigrams_open h
  obtain ⟨B, d, rfl, hd1, hd2, hs⟩ := pBigrams_open h'
  clear h h'
  by_cases hl : xs.length = ys.length
  · have hne : ((xs.length : Int) != (ys.length : Int)) = false := by simp [hl]
    have HL := Lib.hid hl
    clear hl
    go_enter Try.func68, Try.ntmps68
    go_wp2_with fail
    go_loopw [5] (fun i wr => ∃ k : Nat, k ≤ xs.length ∧ i = .int .i64 k ∧ (∀ j (hj : j < xs.length) (hj' : j < ys.length), j < k → xs[j] = ys[j]) ∧ Below w.heap.size w wr) (fun i _ => xs.length - (intOf i).toNat)
    case atStart => exact ⟨0, Nat.zero_le _, rfl, fun _ _ _ h => by omega, Below.refl _ _⟩
    case round =>
      obtain ⟨k, hk, rfl, hall, hb⟩ := hrel
      have hbs := hb.size
      by_cases hlt : k < xs.length
      · have hlt' : k < ys.length := by have := HL.out; omega
        obtain ⟨b, off, rfl, hbb, _, h0, h1, h2, _⟩ := hr k hlt
        obtain ⟨b', off', rfl, hbb', _, g0, g1, g2, _⟩ := hs k hlt'
        rw [← hb.cell (p := ⟨b, _, none⟩) hbb] at h0 h1 h2
        rw [← hb.cell (p := ⟨b', _, none⟩) hbb'] at g0 g1 g2
        have HA := Lib.hid hall
        clear hr hs hall
        have C := eqBigram_c xs[k] ys[k]
        by_cases hkk : xs[k] = ys[k]
        · rw [decide_eq_true hkk] at C
          have HC := Lib.hid C
          have HK := Lib.hid hkk
          clear C hkk
          go_wp2_with fail
          go_still_tail 8, (by kernel_rfl)
          go_wp2_with (go_at_call 105; refine (HC.out _).mono ?_; rintro e w1 ⟨rfl, hb1⟩)
          go_roundw
          case rel =>
            refine ⟨k + 1, by omega, by go_num, fun j hj hj' hjk => ?_, hb.drew.trans (hb1.mono hbs)⟩
            by_cases e : j = k
            · subst e; exact HK.out
            · exact HA.out j hj hj' (by omega)
          case measure => simp [intOf]; omega
        · rw [decide_eq_false hkk] at C
          have HC := Lib.hid C
          have HK := Lib.hid hkk
          clear C hkk
          go_wp2_with fail
          go_still_tail 8, (by kernel_rfl)
          go_wp2_with (go_at_call 105; refine (HC.out _).mono ?_; rintro e w1 ⟨rfl, hb1⟩)
          go_ret
          have hne : ¬ xs = ys := fun e => by subst e; exact HK.out rfl
          exact ⟨by simp [hne], hb.drew.trans (hb1.mono hbs)⟩
      · obtain rfl : k = xs.length := by omega
        have heq : xs = ys := List.ext_getElem HL.out (fun j h1 h2 => hall j h1 h2 h1)
        clear hall
        go_wp2_with fail
        go_ret
        exact ⟨by simp [heq], hb⟩
  · have hne : ((xs.length : Int) != (ys.length : Int)) = true := by rw [bne_iff_ne]; omega
    have hxy : ¬ xs = ys := fun e => hl (by rw [e])
    have HL := Lib.hid hxy
    clear hl hxy
    go_enter Try.func68, Try.ntmps68
    go_wp2_with fail
    go_ret
    exact ⟨by simp [HL.out], Below.refl _ _⟩
/-- What one weighs. -/
def pBigramW (s : PBigram) : Nat := s.first.size + s.second.size
set_option maxHeartbeats 400000 in
theorem szBigram_c (s : PBigram) (left : Int) (w : World) (hs : pBigramOk s) (hl : 0 ≤ left ∧ left ≤ 1048576) :
    Calls Try.prog 89 #[.agg #[.string s.first, .string s.second, .int .i64 s.cost], .int .i64 left] w fun e w' => (∃ r : Int, e = .returned (.int .i64 r) ∧ -1 ≤ r ∧ r ≤ left ∧ (0 ≤ r → r + pBigramW s ≤ left)) ∧ Below w.heap.size w w' := by
  obtain ⟨h0, h1, h2⟩ := hs
  simp only [maxLen, I64] at *
  go_enter Try.func89, Try.ntmps89
  go_wp2_with fail
  all_goals go_ret
  all_goals refine ⟨⟨_, rfl, ?_⟩, ((Below.refl _ _).alloc (Nat.le_refl _) _)⟩
  all_goals (simp only [pBigramW]; omega)
def szpBigram (xs : List PBigram) : Nat := xs.length + (xs.map pBigramW).sum
theorem szpBigram_take (xs : List PBigram) (k : Nat) (h : k < xs.length) : ((xs.take (k+1)).map pBigramW).sum = ((xs.take k).map pBigramW).sum + pBigramW xs[k] := by
  rw [List.take_succ_eq_append_getElem h, List.map_append, List.sum_append]; simp
set_option maxHeartbeats 1000000 in
theorem szBigramS_c {o : Bool} {e : TypeId} {xs : List PBigram} {v : Value} {F : List Nat} (w : World) (h : (pBigrams e).rep o w xs [v] F) (left : Int) (hl : 0 ≤ left ∧ left ≤ 1048576) :
    Calls Try.prog 50 #[v, .int .i64 left] w fun e w' => (∃ r : Int, e = .returned (.int .i64 r) ∧ -1 ≤ r ∧ r ≤ left ∧ (0 ≤ r → r + szpBigram xs ≤ left)) ∧ Below w.heap.size w w' := by
  have hok := pBigrams_ok h
  obtain ⟨A, c, rfl, hc1, hc2, hr⟩ := pBigrams_open h
  clear h
  unfold maxLen at hc2
  by_cases h0 : left - xs.length < 0
  · go_enter Try.func50, Try.ntmps50
    go_wp2_with fail
    go_ret
    exact ⟨⟨-1, rfl, by omega, by omega, by omega⟩, Below.refl _ _⟩
  · have h1 : ¬ (left - (xs.length : Int) < 0) := h0
    go_enter Try.func50, Try.ntmps50
    go_wp2_with fail
    go_loopw [1, 5] (fun l i wr => ∃ k : Nat, k ≤ xs.length ∧ i = .int .i64 k ∧ (∃ n : Int, 0 ≤ n ∧ n ≤ left ∧ Hid (n + xs.length + ((xs.take k).map pBigramW).sum ≤ left) ∧ l = .int .i64 n) ∧ Below w.heap.size w wr) (fun _ i _ => xs.length - (intOf i).toNat)
    case atStart => exact ⟨0, Nat.zero_le _, rfl, ⟨left - xs.length, by omega, by omega, by show _ ≤ _; simp, rfl⟩, Below.refl _ _⟩
    case round =>
      obtain ⟨k, hk, rfl, ⟨n, hn0, hn1, hn, rfl⟩, hb⟩ := hrel
      have hbs := hb.size
      by_cases hlt : k < xs.length
      · obtain ⟨b, off, rfl, hbb, _, h0, h1, h2, _⟩ := hr k hlt
        rw [← hb.cell (p := ⟨b, _, none⟩) hbb] at h0 h1 h2
        have H := Lib.hid (szpBigram_take xs k hlt)
        have HO := Lib.hid (hok _ (List.getElem_mem hlt))
        clear hr hok
        go_wp2_with fail
        refine (szBigram_c xs[k] n _ HO.out ⟨hn0, by omega⟩).mono ?_
        rintro e w1 ⟨⟨r, rfl, hr0, hr1, hr2⟩, hb1⟩
        by_cases hneg : r < 0
        · go_wp2_with fail
          go_ret
          exact ⟨⟨-1, rfl, by omega, by omega, by omega⟩, hb.trans (hb1.mono hbs)⟩
        · have hpos : ¬ (r < 0) := hneg
          have HR := Lib.hid (hr2 (by omega))
          clear hr2
          go_wp2_with fail
          go_roundw
          case rel => exact ⟨k + 1, by omega, by go_num, ⟨r, by omega, by omega, (by show _ ≤ _; have h1 := hn.out; have h2 := HR.out; rw [H.out]; omega), rfl⟩, hb.trans (hb1.mono hbs)⟩
          case measure => simp [intOf]; omega
      · obtain rfl : k = xs.length := by omega
        clear hr hok
        go_wp2_with fail
        go_ret
        refine ⟨⟨n, rfl, by omega, by omega, fun _ => ?_⟩, hb⟩
        have h1 := hn.out
        rw [List.take_length] at h1
        unfold szpBigram
        omega
/-- The marks from number s on. -/
def markPBigram (n s : Nat) : List PBigram := (List.range n).map fun i : Nat => ⟨markB (s + i * 3), markB (s + i * 3 + 1), (s : Int) + (i : Int) * 3 + 1 + 1⟩
theorem markPBigram_len (n s : Nat) : (markPBigram n s).length = n := by simp [markPBigram]
theorem markPBigram_succ (n s : Nat) : markPBigram (n + 1) s = markPBigram n s ++ [⟨markB (s + n * 3), markB (s + n * 3 + 1), (s : Int) + (n : Int) * 3 + 1 + 1⟩] := by simp [markPBigram, List.range_succ]
theorem markPBigram_ok (n s : Nat) (hn : n ≤ 1048576) (hs : s ≤ 10000000) : ∀ x ∈ markPBigram n s, pBigramOk x := by
  intro x hx
  obtain ⟨i, hi, rfl⟩ := List.mem_map.1 hx
  have hi' : i < n := by simpa using hi
  refine ⟨by have := markB_size (s + i * 3); simp only [maxLen]; omega, by have := markB_size (s + i * 3 + 1); simp only [maxLen]; omega, ⟨by dsimp only; omega, by dsimp only; omega⟩⟩
end Go.Proofs.Ytkkignkoneeieaa

/- The type Setting: its data, how it lies in memory, and the law's own helpers over it. Conditions: none. -/
namespace Go.Proofs.Ytkkignkoneeieaa
open Go Go.RowKit

structure PSetting where
  points : Int
  most : Int
  pen : Int
  deriving DecidableEq

def pSetting : Ty PSetting := (int64.prod (int64.prod int64)).via fun s => (s.points, s.most, s.pen)
theorem pSetting_rep {o : Bool} {w : World} {s : PSetting} {cs : List Value} {F : List Nat} : pSetting.rep o w s cs F ↔ cs = [.int .i64 s.points, .int .i64 s.most, .int .i64 s.pen] ∧ F = [] ∧ I64 s.points ∧ I64 s.most ∧ I64 s.pen := by
  constructor
  · rintro ⟨_, _, _, _, rfl, rfl, ⟨rfl, rfl, h0⟩, ⟨_, _, _, _, rfl, rfl, ⟨rfl, rfl, h1⟩, ⟨rfl, rfl, h2⟩⟩⟩
    exact ⟨rfl, rfl, h0, h1, h2⟩
  · rintro ⟨rfl, rfl, h0, h1, h2⟩
    exact ⟨_, _, [], [], rfl, rfl, ⟨rfl, rfl, h0⟩, ⟨_, _, [], [], rfl, rfl, ⟨rfl, rfl, h1⟩, ⟨rfl, rfl, h2⟩⟩⟩
def pSettings (e : TypeId) : Ty (List PSetting) := pSetting.slice e
set_option maxHeartbeats 400000 in
theorem toSetting_c (s : PSetting) (w : World) :
    Calls Try.prog 20 #[.agg #[.int .i64 s.points, .int .i64 s.most, .int .i64 s.pen]] w fun e w' => e = .returned (.agg #[.int .i64 s.points, .int .i64 s.most, .int .i64 s.pen]) ∧ Below w.heap.size w w' := by
  go_enter Try.func20, Try.ntmps20
  go_wp2_with fail
  refine bodyPost_ret (v := .agg #[.int .i64 s.points, .int .i64 s.most, .int .i64 s.pen]) (by simp [results, Try.results20, go_sem]) rfl ⟨rfl, ?_⟩
  exact (((Below.refl _ _).alloc (Nat.le_refl _) _).alloc (by simp) _).alloc (by simp; omega) _
set_option maxHeartbeats 400000 in
theorem eqSetting_c (s t : PSetting) (w : World) :
    Calls Try.prog 29 #[.agg #[.int .i64 s.points, .int .i64 s.most, .int .i64 s.pen], .agg #[.int .i64 t.points, .int .i64 t.most, .int .i64 t.pen]] w fun e w' => e = .returned (.bool (decide (s = t))) ∧ Below w.heap.size w w' := by
  have e : decide (s = t) = decide (s.points = t.points ∧ s.most = t.most ∧ s.pen = t.pen) := by apply decide_eq_decide.2; cases s; cases t; simp
  rw [e]
  clear e
  go_enter Try.func29, Try.ntmps29
  go_wp2_with fail
  all_goals go_ret
  all_goals refine ⟨?_, ((Below.refl _ _).alloc (Nat.le_refl _) _).alloc (by simp) _⟩
  all_goals simp_all [str_eq]
end Go.Proofs.Ytkkignkoneeieaa

/- The type Entry: its data, how it lies in memory, and the law's own helpers over it. Conditions: none. -/
import Derived.Test.YtboijogahclekaaGreatDoorRows
import Derived.Test.YtboijogahclekaaGreatDoorStrSk
namespace Go.Proofs.YtboijogahclekaaGreatDoor
open Go Go.RowKit
structure PEntry where
 word : ByteArray
 cost : Int
 deriving DecidableEq
def pEntry : Ty PEntry := (str.prod int64).via fun s => (s.word, s.cost)
theorem pEntry_rep {o : Bool} {w : World} {s : PEntry} {cs : List Value} {F : List Nat} : pEntry.rep o w s cs F ↔ cs = [.string s.word, .int .i64 s.cost] ∧ F = [] ∧ s.word.size ≤ maxLen ∧ I64 s.cost := by
 constructor
 · rintro ⟨_, _, _, _, rfl, rfl, ⟨rfl, rfl, h0⟩, ⟨rfl, rfl, h1⟩⟩
   exact ⟨rfl, rfl, h0, h1⟩
 · rintro ⟨rfl, rfl, h0, h1⟩
   exact ⟨_, _, [], [], rfl, rfl, ⟨rfl, rfl, h0⟩, ⟨rfl, rfl, h1⟩⟩
def pEntrys (e : TypeId) : Ty (List PEntry) := pEntry.slice e
theorem pEntrys_open {o : Bool} {w : World} {e : TypeId} {xs : List PEntry} {v : Value} {F : List Nat} (h : (pEntrys e).rep o w xs [v] F) :
 ∃ A c, v = .slice A xs.length c ∧ xs.length ≤ c ∧ c ≤ maxLen ∧ ∀ k (hk : k < xs.length), ∃ b off, A = some ⟨b, off, none⟩ ∧ b < w.heap.size ∧ b ∈ F ∧
  w.cell? ⟨b, off + k * 2, none⟩ = some (.string xs[k].word) ∧ w.cell? ⟨b, off + k * 2 + 1, none⟩ = some (.int .i64 xs[k].cost) ∧ xs[k].word.size ≤ maxLen ∧ I64 xs[k].cost := by
 obtain ⟨A, c, hv, h1, h2, h3⟩ := slice_open h
 refine ⟨A, c, hv, h1, h2, fun k hk => ?_⟩
 obtain ⟨b, off, ck, Fk, hA, hb, hin, hr, _, hc⟩ := h3 k hk
 obtain ⟨rfl, rfl, i0, i1⟩ := pEntry_rep.1 hr
 exact ⟨b, off, hA, hb, hin, hc 0 _ rfl, by rw [Nat.add_assoc]; exact hc 1 _ rfl, i0, i1⟩
def pEntryCells (s : PEntry) : List Value := [.string s.word, .int .i64 s.cost]
def pEntryOk (s : PEntry) : Prop := s.word.size ≤ maxLen ∧ I64 s.cost
theorem pEntryCells_len (xs : List PEntry) : (xs.flatMap pEntryCells).length = xs.length * 2 := by
 induction xs with
 | nil => rfl
 | cons a r ih => simp only [List.flatMap_cons, List.length_append, ih, List.length_cons]; simp [pEntryCells]; omega
theorem repL_pEntry {o : Bool} {w : World} : ∀ (xs : List PEntry), (∀ s ∈ xs, pEntryOk s) → repL pEntry o w xs (xs.flatMap pEntryCells) []
 | [], _ => ⟨rfl, rfl⟩
 | s :: r, h => ⟨_, _, [], [], rfl, rfl, pEntry_rep.2 ⟨rfl, rfl, h s (by simp)⟩, repL_pEntry r (fun t ht => h t (by simp [ht]))⟩
theorem pEntrys_ok {o : Bool} {w : World} {e : TypeId} {xs : List PEntry} {v : Value} {F : List Nat} (h : (pEntrys e).rep o w xs [v] F) : ∀ s ∈ xs, pEntryOk s := by
 obtain ⟨_, _, _, _, _, hr⟩ := pEntrys_open h
 intro s hs
 obtain ⟨k, hk, rfl⟩ := List.getElem_of_mem hs
 obtain ⟨_, _, _, _, _, _, _, h⟩ := hr k hk
 exact h
set_option maxHeartbeats 400000 in
theorem toEntry_c (s : PEntry) (w : World) :
 Calls Tryz.prog 141 #[.agg #[.string s.word, .int .i64 s.cost]] w fun e w' => e = .returned (.agg #[.string s.word, .int .i64 s.cost]) ∧ Below w.heap.size w w' := by
 go_enter Tryz.func141, Tryz.ntmps141
 go_wp2_with fail
 refine bodyPost_ret (v := .agg #[.string s.word, .int .i64 s.cost]) (by simp [results, Tryz.results141, go_sem]) rfl ⟨rfl, ?_⟩
 exact (((Below.refl _ _).alloc (Nat.le_refl _) _).alloc (by simp) _).alloc (by simp; omega) _
set_option maxHeartbeats 1000000 in
theorem toEntryS_c {o : Bool} {e : TypeId} {xs : List PEntry} {v : Value} {F : List Nat} (w : World) (h : (pEntrys e).rep o w xs [v] F) (hx : xs.length ≤ 1048576) :
 Calls Tryz.prog 109 #[v] w fun e w' => ∃ u G, e = .returned u ∧ (pEntrys 241).rep true w' xs [u] G ∧ Fresh w.heap.size G ∧ Below w.heap.size w w' := by
 have hok := pEntrys_ok h
 obtain ⟨A, c, rfl, hc1, hc2, hr⟩ := pEntrys_open h
 have hmk := make_run (P := Tryz.prog) (t := 54) (e := 241) (z := .agg #[.string .empty, .int .i64 0]) (size := 2) (bytes := 24) Tryz.underlying54 (by kernel_rfl) xs.length xs.length rfl (by omega) (by unfold maxLen; omega)
 go_enter Tryz.func109, Tryz.ntmps109
 go_wp2_with fail
 go_loopw [4] (fun i wr => ∃ k : Nat, k ≤ xs.length ∧ i = .int .i64 k ∧ ∃ rest, Row wr w.heap.size 241 ((xs.take k).flatMap pEntryCells ++ rest) ∧ rest.length = (xs.length - k) * 2 ∧ Below w.heap.size w wr) (fun i _ => xs.length - (intOf i).toNat)
 case atStart =>
  exact ⟨0, Nat.zero_le _, rfl, _, Row.new w _ _, by simp [madeCells], (Below.refl _ _).alloc (Nat.le_refl _) _⟩
 case round =>
  obtain ⟨k, hk, rfl, rest, hrow, hrl, hb⟩ := hrel
  by_cases hlt : k < xs.length
  · obtain ⟨b, off, rfl, hbb, _, h0, h1, _⟩ := hr k hlt
    rw [← hb.cell (p := ⟨b, _, none⟩) hbb] at h0 h1
    have hbs := hb.size
    have hrl2 := hrow.lt
    have hpl : ((xs.take k).flatMap pEntryCells).length = k * 2 := by rw [pEntryCells_len, List.length_take]; omega
    obtain ⟨r0, r1, rest', rfl⟩ : ∃ r0 r1 rest', rest = r0 :: r1 :: rest' := by
     match rest, hrl with
     | r0 :: r1 :: rest', _ => exact ⟨_, _, _, rfl⟩
     | [], h => simp at h; omega
     | [_], h => simp at h; omega
    clear hr h hmk
    go_wp2_with (go_at_call 141; refine (toEntry_c xs[k] _).mono ?_; rintro e w1 ⟨rfl, hb1⟩; have hrow1 := hrow.later hb1; obtain ⟨⟨v0, hv0⟩, hf0⟩ := hrow1.can (i := k * 2) (by simp [hpl]); obtain ⟨⟨v1, hv1⟩, hf1⟩ := hrow1.can (i := k * 2 + 1) (by simp [hpl]))
    go_roundw
    case rel =>
     refine ⟨k + 1, by omega, by go_num, rest', ?_, by simp at hrl; omega, (((hb.trans (hb1.mono hbs)).setCell (Nat.le_refl _) _).setCell (Nat.le_refl _) _)⟩
     have R := ((hrow1.put (j := 0) (i := k * 2) (by rw [hpl]; rfl) (.string xs[k].word)).put (j := 1) (i := k * 2 + 1) (by rw [hpl]) (.int .i64 xs[k].cost))
     rw [List.take_succ_eq_append_getElem hlt, List.flatMap_append, List.append_assoc]
     exact R
    case measure => simp [intOf]; omega
  · obtain rfl : k = xs.length := by omega
    go_wp2_with fail
    go_ret
    have h0 : rest = [] := List.eq_nil_of_length_eq_zero (by simpa using hrl)
    subst h0
    rw [List.append_nil, List.take_length] at hrow
    exact ⟨_, [w.heap.size], rfl, slice_of_row hrow (repL_pEntry xs hok) (by unfold maxLen; omega), ⟨by simp, by simp⟩, hb⟩
set_option maxHeartbeats 400000 in
theorem eqEntry_c (s t : PEntry) (w : World) :
 Calls Tryz.prog 162 #[.agg #[.string s.word, .int .i64 s.cost], .agg #[.string t.word, .int .i64 t.cost]] w fun e w' => e = .returned (.bool (decide (s = t))) ∧ Below w.heap.size w w' := by
 have e : decide (s = t) = decide (s.word = t.word ∧ s.cost = t.cost) := by apply decide_eq_decide.2; cases s; cases t; simp
 rw [e]
 clear e
 go_enter Tryz.func162, Tryz.ntmps162
 go_wp2_with fail
 all_goals go_ret
 all_goals refine ⟨?_, ((Below.refl _ _).alloc (Nat.le_refl _) _).alloc (by simp) _⟩
 all_goals simp_all [str_eq]
set_option maxRecDepth 100000 in
set_option maxHeartbeats 1000000 in
theorem eqEntryS_c {oa ob : Bool} {ea eb : TypeId} {xs ys : List PEntry} {v u : Value} {F G : List Nat} (w : World) (h : (pEntrys ea).rep oa w xs [v] F) (h' : (pEntrys eb).rep ob w ys [u] G) (hx : xs.length ≤ 1048576) (hy : ys.length ≤ 1048576) :
 Calls Tryz.prog 129 #[v, u] w fun e w' => e = .returned (.bool (decide (xs = ys))) ∧ Below w.heap.size w w' := by
 obtain ⟨A, c, rfl, hc1, hc2, hr⟩ := pEntrys_open h
 obtain ⟨B, d, rfl, hd1, hd2, hs⟩ := pEntrys_open h'
 clear h h'
 by_cases hl : xs.length = ys.length
 · have hne : ((xs.length : Int) != (ys.length : Int)) = false := by simp [hl]
   have HL := Lib.hid hl
   clear hl
   go_enter Tryz.func129, Tryz.ntmps129
   go_wp2_with fail
   go_loopw [5] (fun i wr => ∃ k : Nat, k ≤ xs.length ∧ i = .int .i64 k ∧ (∀ j (hj : j < xs.length) (hj' : j < ys.length), j < k → xs[j] = ys[j]) ∧ Below w.heap.size w wr) (fun i _ => xs.length - (intOf i).toNat)
   case atStart => exact ⟨0, Nat.zero_le _, rfl, fun _ _ _ h => by omega, Below.refl _ _⟩
   case round =>
    obtain ⟨k, hk, rfl, hall, hb⟩ := hrel
    have hbs := hb.size
    by_cases hlt : k < xs.length
    · have hlt' : k < ys.length := by have := HL.out; omega
      obtain ⟨b, off, rfl, hbb, _, h0, h1, _⟩ := hr k hlt
      obtain ⟨b', off', rfl, hbb', _, g0, g1, _⟩ := hs k hlt'
      rw [← hb.cell (p := ⟨b, _, none⟩) hbb] at h0 h1
      rw [← hb.cell (p := ⟨b', _, none⟩) hbb'] at g0 g1
      have HA := Lib.hid hall
      clear hr hs hall
      have C := eqEntry_c xs[k] ys[k]
      by_cases hkk : xs[k] = ys[k]
      · rw [decide_eq_true hkk] at C
        have HC := Lib.hid C
        have HK := Lib.hid hkk
        clear C hkk
        go_wp2_with fail
        go_still_tail 8, (by kernel_rfl)
        go_wp2_with (go_at_call 162; refine (HC.out _).mono ?_; rintro e w1 ⟨rfl, hb1⟩)
        go_roundw
        case rel =>
         refine ⟨k + 1, by omega, by go_num, fun j hj hj' hjk => ?_, hb.drew.trans (hb1.mono hbs)⟩
         by_cases e : j = k
         · subst e; exact HK.out
         · exact HA.out j hj hj' (by omega)
        case measure => simp [intOf]; omega
      · rw [decide_eq_false hkk] at C
        have HC := Lib.hid C
        have HK := Lib.hid hkk
        clear C hkk
        go_wp2_with fail
        go_still_tail 8, (by kernel_rfl)
        go_wp2_with (go_at_call 162; refine (HC.out _).mono ?_; rintro e w1 ⟨rfl, hb1⟩)
        go_ret
        have hne : ¬ xs = ys := fun e => by subst e; exact HK.out rfl
        exact ⟨by simp [hne], hb.drew.trans (hb1.mono hbs)⟩
    · obtain rfl : k = xs.length := by omega
      have heq : xs = ys := List.ext_getElem HL.out (fun j h1 h2 => hall j h1 h2 h1)
      clear hall
      go_wp2_with fail
      go_ret
      exact ⟨by simp [heq], hb⟩
 · have hne : ((xs.length : Int) != (ys.length : Int)) = true := by rw [bne_iff_ne]; omega
   have hxy : ¬ xs = ys := fun e => hl (by rw [e])
   have HL := Lib.hid hxy
   clear hl hxy
   go_enter Tryz.func129, Tryz.ntmps129
   go_wp2_with fail
   go_ret
   exact ⟨by simp [HL.out], Below.refl _ _⟩
def pEntryW (s : PEntry) : Nat := s.word.size
set_option maxHeartbeats 400000 in
theorem szEntry_c (s : PEntry) (left : Int) (w : World) (hs : pEntryOk s) (hl : 0 ≤ left ∧ left ≤ 1048576) :
 Calls Tryz.prog 133 #[.agg #[.string s.word, .int .i64 s.cost], .int .i64 left] w fun e w' => (∃ r : Int, e = .returned (.int .i64 r) ∧ -1 ≤ r ∧ r ≤ left ∧ (0 ≤ r → r + pEntryW s ≤ left)) ∧ Below w.heap.size w w' := by
 obtain ⟨h0, h1⟩ := hs
 simp only [maxLen, I64] at *
 go_enter Tryz.func133, Tryz.ntmps133
 go_wp2_with fail
 all_goals go_ret
 all_goals refine ⟨⟨_, rfl, ?_⟩, ((Below.refl _ _).alloc (Nat.le_refl _) _)⟩
 all_goals (simp only [pEntryW]; omega)
def szpEntry (xs : List PEntry) : Nat := xs.length + (xs.map pEntryW).sum
theorem szpEntry_take (xs : List PEntry) (k : Nat) (h : k < xs.length) : ((xs.take (k+1)).map pEntryW).sum = ((xs.take k).map pEntryW).sum + pEntryW xs[k] := by
 rw [List.take_succ_eq_append_getElem h, List.map_append, List.sum_append]; simp
set_option maxHeartbeats 1000000 in
theorem szEntryS_c {o : Bool} {e : TypeId} {xs : List PEntry} {v : Value} {F : List Nat} (w : World) (h : (pEntrys e).rep o w xs [v] F) (left : Int) (hl : 0 ≤ left ∧ left ≤ 1048576) :
 Calls Tryz.prog 96 #[v, .int .i64 left] w fun e w' => (∃ r : Int, e = .returned (.int .i64 r) ∧ -1 ≤ r ∧ r ≤ left ∧ (0 ≤ r → r + szpEntry xs ≤ left)) ∧ Below w.heap.size w w' := by
 have hok := pEntrys_ok h
 obtain ⟨A, c, rfl, hc1, hc2, hr⟩ := pEntrys_open h
 clear h
 unfold maxLen at hc2
 by_cases h0 : left - xs.length < 0
 · go_enter Tryz.func96, Tryz.ntmps96
   go_wp2_with fail
   go_ret
   exact ⟨⟨-1, rfl, by omega, by omega, by omega⟩, Below.refl _ _⟩
 · have h1 : ¬ (left - (xs.length : Int) < 0) := h0
   go_enter Tryz.func96, Tryz.ntmps96
   go_wp2_with fail
   go_loopw [1, 5] (fun l i wr => ∃ k : Nat, k ≤ xs.length ∧ i = .int .i64 k ∧ (∃ n : Int, 0 ≤ n ∧ n ≤ left ∧ Hid (n + xs.length + ((xs.take k).map pEntryW).sum ≤ left) ∧ l = .int .i64 n) ∧ Below w.heap.size w wr) (fun _ i _ => xs.length - (intOf i).toNat)
   case atStart => exact ⟨0, Nat.zero_le _, rfl, ⟨left - xs.length, by omega, by omega, by show _ ≤ _; simp, rfl⟩, Below.refl _ _⟩
   case round =>
    obtain ⟨k, hk, rfl, ⟨n, hn0, hn1, hn, rfl⟩, hb⟩ := hrel
    have hbs := hb.size
    by_cases hlt : k < xs.length
    · obtain ⟨b, off, rfl, hbb, _, h0, h1, _⟩ := hr k hlt
      rw [← hb.cell (p := ⟨b, _, none⟩) hbb] at h0 h1
      have H := Lib.hid (szpEntry_take xs k hlt)
      have HO := Lib.hid (hok _ (List.getElem_mem hlt))
      clear hr hok
      go_wp2_with fail
      refine (szEntry_c xs[k] n _ HO.out ⟨hn0, by omega⟩).mono ?_
      rintro e w1 ⟨⟨r, rfl, hr0, hr1, hr2⟩, hb1⟩
      by_cases hneg : r < 0
      · go_wp2_with fail
        go_ret
        exact ⟨⟨-1, rfl, by omega, by omega, by omega⟩, hb.trans (hb1.mono hbs)⟩
      · have hpos : ¬ (r < 0) := hneg
        have HR := Lib.hid (hr2 (by omega))
        clear hr2
        go_wp2_with fail
        go_roundw
        case rel => exact ⟨k + 1, by omega, by go_num, ⟨r, by omega, by omega, (by show _ ≤ _; have h1 := hn.out; have h2 := HR.out; rw [H.out]; omega), rfl⟩, hb.trans (hb1.mono hbs)⟩
        case measure => simp [intOf]; omega
    · obtain rfl : k = xs.length := by omega
      clear hr hok
      go_wp2_with fail
      go_ret
      refine ⟨⟨n, rfl, by omega, by omega, fun _ => ?_⟩, hb⟩
      have h1 := hn.out
      rw [List.take_length] at h1
      unfold szpEntry
      omega
end Go.Proofs.YtboijogahclekaaGreatDoor

/- The type Bigram: its data, how it lies in memory, and the law's own helpers over it. Conditions: none. -/
import Derived.Test.YtboijogahclekaaGreatDoorRows
import Derived.Test.YtboijogahclekaaGreatDoorStrSk
namespace Go.Proofs.YtboijogahclekaaGreatDoor
open Go Go.RowKit
structure PBigram where
 first : ByteArray
 second : ByteArray
 cost : Int
 deriving DecidableEq
def pBigram : Ty PBigram := (str.prod (str.prod int64)).via fun s => (s.first, s.second, s.cost)
theorem pBigram_rep {o : Bool} {w : World} {s : PBigram} {cs : List Value} {F : List Nat} : pBigram.rep o w s cs F ↔ cs = [.string s.first, .string s.second, .int .i64 s.cost] ∧ F = [] ∧ s.first.size ≤ maxLen ∧ s.second.size ≤ maxLen ∧ I64 s.cost := by
 constructor
 · rintro ⟨_, _, _, _, rfl, rfl, ⟨rfl, rfl, h0⟩, ⟨_, _, _, _, rfl, rfl, ⟨rfl, rfl, h1⟩, ⟨rfl, rfl, h2⟩⟩⟩
   exact ⟨rfl, rfl, h0, h1, h2⟩
 · rintro ⟨rfl, rfl, h0, h1, h2⟩
   exact ⟨_, _, [], [], rfl, rfl, ⟨rfl, rfl, h0⟩, ⟨_, _, [], [], rfl, rfl, ⟨rfl, rfl, h1⟩, ⟨rfl, rfl, h2⟩⟩⟩
def pBigrams (e : TypeId) : Ty (List PBigram) := pBigram.slice e
theorem pBigrams_open {o : Bool} {w : World} {e : TypeId} {xs : List PBigram} {v : Value} {F : List Nat} (h : (pBigrams e).rep o w xs [v] F) :
 ∃ A c, v = .slice A xs.length c ∧ xs.length ≤ c ∧ c ≤ maxLen ∧ ∀ k (hk : k < xs.length), ∃ b off, A = some ⟨b, off, none⟩ ∧ b < w.heap.size ∧ b ∈ F ∧
  w.cell? ⟨b, off + k * 3, none⟩ = some (.string xs[k].first) ∧ w.cell? ⟨b, off + k * 3 + 1, none⟩ = some (.string xs[k].second) ∧ w.cell? ⟨b, off + k * 3 + 2, none⟩ = some (.int .i64 xs[k].cost) ∧ xs[k].first.size ≤ maxLen ∧ xs[k].second.size ≤ maxLen ∧ I64 xs[k].cost := by
 obtain ⟨A, c, hv, h1, h2, h3⟩ := slice_open h
 refine ⟨A, c, hv, h1, h2, fun k hk => ?_⟩
 obtain ⟨b, off, ck, Fk, hA, hb, hin, hr, _, hc⟩ := h3 k hk
 obtain ⟨rfl, rfl, i0, i1, i2⟩ := pBigram_rep.1 hr
 exact ⟨b, off, hA, hb, hin, hc 0 _ rfl, by rw [Nat.add_assoc]; exact hc 1 _ rfl, by rw [Nat.add_assoc]; exact hc 2 _ rfl, i0, i1, i2⟩
def pBigramCells (s : PBigram) : List Value := [.string s.first, .string s.second, .int .i64 s.cost]
def pBigramOk (s : PBigram) : Prop := s.first.size ≤ maxLen ∧ s.second.size ≤ maxLen ∧ I64 s.cost
theorem pBigramCells_len (xs : List PBigram) : (xs.flatMap pBigramCells).length = xs.length * 3 := by
 induction xs with
 | nil => rfl
 | cons a r ih => simp only [List.flatMap_cons, List.length_append, ih, List.length_cons]; simp [pBigramCells]; omega
theorem repL_pBigram {o : Bool} {w : World} : ∀ (xs : List PBigram), (∀ s ∈ xs, pBigramOk s) → repL pBigram o w xs (xs.flatMap pBigramCells) []
 | [], _ => ⟨rfl, rfl⟩
 | s :: r, h => ⟨_, _, [], [], rfl, rfl, pBigram_rep.2 ⟨rfl, rfl, h s (by simp)⟩, repL_pBigram r (fun t ht => h t (by simp [ht]))⟩
theorem pBigrams_ok {o : Bool} {w : World} {e : TypeId} {xs : List PBigram} {v : Value} {F : List Nat} (h : (pBigrams e).rep o w xs [v] F) : ∀ s ∈ xs, pBigramOk s := by
 obtain ⟨_, _, _, _, _, hr⟩ := pBigrams_open h
 intro s hs
 obtain ⟨k, hk, rfl⟩ := List.getElem_of_mem hs
 obtain ⟨_, _, _, _, _, _, _, _, h⟩ := hr k hk
 exact h
set_option maxHeartbeats 400000 in
theorem toBigram_c (s : PBigram) (w : World) :
 Calls Tryz.prog 142 #[.agg #[.string s.first, .string s.second, .int .i64 s.cost]] w fun e w' => e = .returned (.agg #[.string s.first, .string s.second, .int .i64 s.cost]) ∧ Below w.heap.size w w' := by
 go_enter Tryz.func142, Tryz.ntmps142
 go_wp2_with fail
 refine bodyPost_ret (v := .agg #[.string s.first, .string s.second, .int .i64 s.cost]) (by simp [results, Tryz.results142, go_sem]) rfl ⟨rfl, ?_⟩
 exact (((Below.refl _ _).alloc (Nat.le_refl _) _).alloc (by simp) _).alloc (by simp; omega) _
set_option maxHeartbeats 1000000 in
theorem toBigramS_c {o : Bool} {e : TypeId} {xs : List PBigram} {v : Value} {F : List Nat} (w : World) (h : (pBigrams e).rep o w xs [v] F) (hx : xs.length ≤ 1048576) :
 Calls Tryz.prog 110 #[v] w fun e w' => ∃ u G, e = .returned u ∧ (pBigrams 244).rep true w' xs [u] G ∧ Fresh w.heap.size G ∧ Below w.heap.size w w' := by
 have hok := pBigrams_ok h
 obtain ⟨A, c, rfl, hc1, hc2, hr⟩ := pBigrams_open h
 have hmk := make_run (P := Tryz.prog) (t := 57) (e := 244) (z := .agg #[.string .empty, .string .empty, .int .i64 0]) (size := 3) (bytes := 40) Tryz.underlying57 (by kernel_rfl) xs.length xs.length rfl (by omega) (by unfold maxLen; omega)
 go_enter Tryz.func110, Tryz.ntmps110
 go_wp2_with fail
 go_loopw [4] (fun i wr => ∃ k : Nat, k ≤ xs.length ∧ i = .int .i64 k ∧ ∃ rest, Row wr w.heap.size 244 ((xs.take k).flatMap pBigramCells ++ rest) ∧ rest.length = (xs.length - k) * 3 ∧ Below w.heap.size w wr) (fun i _ => xs.length - (intOf i).toNat)
 case atStart =>
  exact ⟨0, Nat.zero_le _, rfl, _, Row.new w _ _, by simp [madeCells], (Below.refl _ _).alloc (Nat.le_refl _) _⟩
 case round =>
  obtain ⟨k, hk, rfl, rest, hrow, hrl, hb⟩ := hrel
  by_cases hlt : k < xs.length
  · obtain ⟨b, off, rfl, hbb, _, h0, h1, h2, _⟩ := hr k hlt
    rw [← hb.cell (p := ⟨b, _, none⟩) hbb] at h0 h1 h2
    have hbs := hb.size
    have hrl2 := hrow.lt
    have hpl : ((xs.take k).flatMap pBigramCells).length = k * 3 := by rw [pBigramCells_len, List.length_take]; omega
    obtain ⟨r0, r1, r2, rest', rfl⟩ : ∃ r0 r1 r2 rest', rest = r0 :: r1 :: r2 :: rest' := by
     match rest, hrl with
     | r0 :: r1 :: r2 :: rest', _ => exact ⟨_, _, _, _, rfl⟩
     | [], h => simp at h; omega
     | [_], h => simp at h; omega
     | [_, _], h => simp at h; omega
    clear hr h hmk
    go_wp2_with (go_at_call 142; refine (toBigram_c xs[k] _).mono ?_; rintro e w1 ⟨rfl, hb1⟩; have hrow1 := hrow.later hb1; obtain ⟨⟨v0, hv0⟩, hf0⟩ := hrow1.can (i := k * 3) (by simp [hpl]); obtain ⟨⟨v1, hv1⟩, hf1⟩ := hrow1.can (i := k * 3 + 1) (by simp [hpl]); obtain ⟨⟨v2, hv2⟩, hf2⟩ := hrow1.can (i := k * 3 + 2) (by simp [hpl]))
    go_roundw
    case rel =>
     refine ⟨k + 1, by omega, by go_num, rest', ?_, by simp at hrl; omega, ((((hb.trans (hb1.mono hbs)).setCell (Nat.le_refl _) _).setCell (Nat.le_refl _) _).setCell (Nat.le_refl _) _)⟩
     have R := (((hrow1.put (j := 0) (i := k * 3) (by rw [hpl]; rfl) (.string xs[k].first)).put (j := 1) (i := k * 3 + 1) (by rw [hpl]) (.string xs[k].second)).put (j := 2) (i := k * 3 + 2) (by rw [hpl]) (.int .i64 xs[k].cost))
     rw [List.take_succ_eq_append_getElem hlt, List.flatMap_append, List.append_assoc]
     exact R
    case measure => simp [intOf]; omega
  · obtain rfl : k = xs.length := by omega
    go_wp2_with fail
    go_ret
    have h0 : rest = [] := List.eq_nil_of_length_eq_zero (by simpa using hrl)
    subst h0
    rw [List.append_nil, List.take_length] at hrow
    exact ⟨_, [w.heap.size], rfl, slice_of_row hrow (repL_pBigram xs hok) (by unfold maxLen; omega), ⟨by simp, by simp⟩, hb⟩
set_option maxHeartbeats 400000 in
theorem eqBigram_c (s t : PBigram) (w : World) :
 Calls Tryz.prog 163 #[.agg #[.string s.first, .string s.second, .int .i64 s.cost], .agg #[.string t.first, .string t.second, .int .i64 t.cost]] w fun e w' => e = .returned (.bool (decide (s = t))) ∧ Below w.heap.size w w' := by
 have e : decide (s = t) = decide (s.first = t.first ∧ s.second = t.second ∧ s.cost = t.cost) := by apply decide_eq_decide.2; cases s; cases t; simp
 rw [e]
 clear e
 go_enter Tryz.func163, Tryz.ntmps163
 go_wp2_with fail
 all_goals go_ret
 all_goals refine ⟨?_, ((Below.refl _ _).alloc (Nat.le_refl _) _).alloc (by simp) _⟩
 all_goals simp_all [str_eq]
set_option maxRecDepth 100000 in
set_option maxHeartbeats 1000000 in
theorem eqBigramS_c {oa ob : Bool} {ea eb : TypeId} {xs ys : List PBigram} {v u : Value} {F G : List Nat} (w : World) (h : (pBigrams ea).rep oa w xs [v] F) (h' : (pBigrams eb).rep ob w ys [u] G) (hx : xs.length ≤ 1048576) (hy : ys.length ≤ 1048576) :
 Calls Tryz.prog 130 #[v, u] w fun e w' => e = .returned (.bool (decide (xs = ys))) ∧ Below w.heap.size w w' := by
 obtain ⟨A, c, rfl, hc1, hc2, hr⟩ := pBigrams_open h
 obtain ⟨B, d, rfl, hd1, hd2, hs⟩ := pBigrams_open h'
 clear h h'
 by_cases hl : xs.length = ys.length
 · have hne : ((xs.length : Int) != (ys.length : Int)) = false := by simp [hl]
   have HL := Lib.hid hl
   clear hl
   go_enter Tryz.func130, Tryz.ntmps130
   go_wp2_with fail
   go_loopw [5] (fun i wr => ∃ k : Nat, k ≤ xs.length ∧ i = .int .i64 k ∧ (∀ j (hj : j < xs.length) (hj' : j < ys.length), j < k → xs[j] = ys[j]) ∧ Below w.heap.size w wr) (fun i _ => xs.length - (intOf i).toNat)
   case atStart => exact ⟨0, Nat.zero_le _, rfl, fun _ _ _ h => by omega, Below.refl _ _⟩
   case round =>
    obtain ⟨k, hk, rfl, hall, hb⟩ := hrel
    have hbs := hb.size
    by_cases hlt : k < xs.length
    · have hlt' : k < ys.length := by have := HL.out; omega
      obtain ⟨b, off, rfl, hbb, _, h0, h1, h2, _⟩ := hr k hlt
      obtain ⟨b', off', rfl, hbb', _, g0, g1, g2, _⟩ := hs k hlt'
      rw [← hb.cell (p := ⟨b, _, none⟩) hbb] at h0 h1 h2
      rw [← hb.cell (p := ⟨b', _, none⟩) hbb'] at g0 g1 g2
      have HA := Lib.hid hall
      clear hr hs hall
      have C := eqBigram_c xs[k] ys[k]
      by_cases hkk : xs[k] = ys[k]
      · rw [decide_eq_true hkk] at C
        have HC := Lib.hid C
        have HK := Lib.hid hkk
        clear C hkk
        go_wp2_with fail
        go_still_tail 8, (by kernel_rfl)
        go_wp2_with (go_at_call 163; refine (HC.out _).mono ?_; rintro e w1 ⟨rfl, hb1⟩)
        go_roundw
        case rel =>
         refine ⟨k + 1, by omega, by go_num, fun j hj hj' hjk => ?_, hb.drew.trans (hb1.mono hbs)⟩
         by_cases e : j = k
         · subst e; exact HK.out
         · exact HA.out j hj hj' (by omega)
        case measure => simp [intOf]; omega
      · rw [decide_eq_false hkk] at C
        have HC := Lib.hid C
        have HK := Lib.hid hkk
        clear C hkk
        go_wp2_with fail
        go_still_tail 8, (by kernel_rfl)
        go_wp2_with (go_at_call 163; refine (HC.out _).mono ?_; rintro e w1 ⟨rfl, hb1⟩)
        go_ret
        have hne : ¬ xs = ys := fun e => by subst e; exact HK.out rfl
        exact ⟨by simp [hne], hb.drew.trans (hb1.mono hbs)⟩
    · obtain rfl : k = xs.length := by omega
      have heq : xs = ys := List.ext_getElem HL.out (fun j h1 h2 => hall j h1 h2 h1)
      clear hall
      go_wp2_with fail
      go_ret
      exact ⟨by simp [heq], hb⟩
 · have hne : ((xs.length : Int) != (ys.length : Int)) = true := by rw [bne_iff_ne]; omega
   have hxy : ¬ xs = ys := fun e => hl (by rw [e])
   have HL := Lib.hid hxy
   clear hl hxy
   go_enter Tryz.func130, Tryz.ntmps130
   go_wp2_with fail
   go_ret
   exact ⟨by simp [HL.out], Below.refl _ _⟩
def pBigramW (s : PBigram) : Nat := s.first.size + s.second.size
set_option maxHeartbeats 400000 in
theorem szBigram_c (s : PBigram) (left : Int) (w : World) (hs : pBigramOk s) (hl : 0 ≤ left ∧ left ≤ 1048576) :
 Calls Tryz.prog 134 #[.agg #[.string s.first, .string s.second, .int .i64 s.cost], .int .i64 left] w fun e w' => (∃ r : Int, e = .returned (.int .i64 r) ∧ -1 ≤ r ∧ r ≤ left ∧ (0 ≤ r → r + pBigramW s ≤ left)) ∧ Below w.heap.size w w' := by
 obtain ⟨h0, h1, h2⟩ := hs
 simp only [maxLen, I64] at *
 go_enter Tryz.func134, Tryz.ntmps134
 go_wp2_with fail
 all_goals go_ret
 all_goals refine ⟨⟨_, rfl, ?_⟩, ((Below.refl _ _).alloc (Nat.le_refl _) _)⟩
 all_goals (simp only [pBigramW]; omega)
def szpBigram (xs : List PBigram) : Nat := xs.length + (xs.map pBigramW).sum
theorem szpBigram_take (xs : List PBigram) (k : Nat) (h : k < xs.length) : ((xs.take (k+1)).map pBigramW).sum = ((xs.take k).map pBigramW).sum + pBigramW xs[k] := by
 rw [List.take_succ_eq_append_getElem h, List.map_append, List.sum_append]; simp
set_option maxHeartbeats 1000000 in
theorem szBigramS_c {o : Bool} {e : TypeId} {xs : List PBigram} {v : Value} {F : List Nat} (w : World) (h : (pBigrams e).rep o w xs [v] F) (left : Int) (hl : 0 ≤ left ∧ left ≤ 1048576) :
 Calls Tryz.prog 97 #[v, .int .i64 left] w fun e w' => (∃ r : Int, e = .returned (.int .i64 r) ∧ -1 ≤ r ∧ r ≤ left ∧ (0 ≤ r → r + szpBigram xs ≤ left)) ∧ Below w.heap.size w w' := by
 have hok := pBigrams_ok h
 obtain ⟨A, c, rfl, hc1, hc2, hr⟩ := pBigrams_open h
 clear h
 unfold maxLen at hc2
 by_cases h0 : left - xs.length < 0
 · go_enter Tryz.func97, Tryz.ntmps97
   go_wp2_with fail
   go_ret
   exact ⟨⟨-1, rfl, by omega, by omega, by omega⟩, Below.refl _ _⟩
 · have h1 : ¬ (left - (xs.length : Int) < 0) := h0
   go_enter Tryz.func97, Tryz.ntmps97
   go_wp2_with fail
   go_loopw [1, 5] (fun l i wr => ∃ k : Nat, k ≤ xs.length ∧ i = .int .i64 k ∧ (∃ n : Int, 0 ≤ n ∧ n ≤ left ∧ Hid (n + xs.length + ((xs.take k).map pBigramW).sum ≤ left) ∧ l = .int .i64 n) ∧ Below w.heap.size w wr) (fun _ i _ => xs.length - (intOf i).toNat)
   case atStart => exact ⟨0, Nat.zero_le _, rfl, ⟨left - xs.length, by omega, by omega, by show _ ≤ _; simp, rfl⟩, Below.refl _ _⟩
   case round =>
    obtain ⟨k, hk, rfl, ⟨n, hn0, hn1, hn, rfl⟩, hb⟩ := hrel
    have hbs := hb.size
    by_cases hlt : k < xs.length
    · obtain ⟨b, off, rfl, hbb, _, h0, h1, h2, _⟩ := hr k hlt
      rw [← hb.cell (p := ⟨b, _, none⟩) hbb] at h0 h1 h2
      have H := Lib.hid (szpBigram_take xs k hlt)
      have HO := Lib.hid (hok _ (List.getElem_mem hlt))
      clear hr hok
      go_wp2_with fail
      refine (szBigram_c xs[k] n _ HO.out ⟨hn0, by omega⟩).mono ?_
      rintro e w1 ⟨⟨r, rfl, hr0, hr1, hr2⟩, hb1⟩
      by_cases hneg : r < 0
      · go_wp2_with fail
        go_ret
        exact ⟨⟨-1, rfl, by omega, by omega, by omega⟩, hb.trans (hb1.mono hbs)⟩
      · have hpos : ¬ (r < 0) := hneg
        have HR := Lib.hid (hr2 (by omega))
        clear hr2
        go_wp2_with fail
        go_roundw
        case rel => exact ⟨k + 1, by omega, by go_num, ⟨r, by omega, by omega, (by show _ ≤ _; have h1 := hn.out; have h2 := HR.out; rw [H.out]; omega), rfl⟩, hb.trans (hb1.mono hbs)⟩
        case measure => simp [intOf]; omega
    · obtain rfl : k = xs.length := by omega
      clear hr hok
      go_wp2_with fail
      go_ret
      refine ⟨⟨n, rfl, by omega, by omega, fun _ => ?_⟩, hb⟩
      have h1 := hn.out
      rw [List.take_length] at h1
      unfold szpBigram
      omega
structure PSetting where
 points : Int
 most : Int
 pen : Int
 deriving DecidableEq
def pSetting : Ty PSetting := (int64.prod (int64.prod int64)).via fun s => (s.points, s.most, s.pen)
theorem pSetting_rep {o : Bool} {w : World} {s : PSetting} {cs : List Value} {F : List Nat} : pSetting.rep o w s cs F ↔ cs = [.int .i64 s.points, .int .i64 s.most, .int .i64 s.pen] ∧ F = [] ∧ I64 s.points ∧ I64 s.most ∧ I64 s.pen := by
 constructor
 · rintro ⟨_, _, _, _, rfl, rfl, ⟨rfl, rfl, h0⟩, ⟨_, _, _, _, rfl, rfl, ⟨rfl, rfl, h1⟩, ⟨rfl, rfl, h2⟩⟩⟩
   exact ⟨rfl, rfl, h0, h1, h2⟩
 · rintro ⟨rfl, rfl, h0, h1, h2⟩
   exact ⟨_, _, [], [], rfl, rfl, ⟨rfl, rfl, h0⟩, ⟨_, _, [], [], rfl, rfl, ⟨rfl, rfl, h1⟩, ⟨rfl, rfl, h2⟩⟩⟩
set_option maxHeartbeats 400000 in
theorem toSetting_c (s : PSetting) (w : World) :
 Calls Tryz.prog 63 #[.agg #[.int .i64 s.points, .int .i64 s.most, .int .i64 s.pen]] w fun e w' => e = .returned (.agg #[.int .i64 s.points, .int .i64 s.most, .int .i64 s.pen]) ∧ Below w.heap.size w w' := by
 go_enter Tryz.func63, Tryz.ntmps63
 go_wp2_with fail
 refine bodyPost_ret (v := .agg #[.int .i64 s.points, .int .i64 s.most, .int .i64 s.pen]) (by simp [results, Tryz.results63, go_sem]) rfl ⟨rfl, ?_⟩
 exact (((Below.refl _ _).alloc (Nat.le_refl _) _).alloc (by simp) _).alloc (by simp; omega) _
set_option maxHeartbeats 400000 in
theorem eqSetting_c (s t : PSetting) (w : World) :
 Calls Tryz.prog 88 #[.agg #[.int .i64 s.points, .int .i64 s.most, .int .i64 s.pen], .agg #[.int .i64 t.points, .int .i64 t.most, .int .i64 t.pen]] w fun e w' => e = .returned (.bool (decide (s = t))) ∧ Below w.heap.size w w' := by
 have e : decide (s = t) = decide (s.points = t.points ∧ s.most = t.most ∧ s.pen = t.pen) := by apply decide_eq_decide.2; cases s; cases t; simp
 rw [e]
 clear e
 go_enter Tryz.func88, Tryz.ntmps88
 go_wp2_with fail
 all_goals go_ret
 all_goals refine ⟨?_, ((Below.refl _ _).alloc (Nat.le_refl _) _).alloc (by simp) _⟩
 all_goals simp_all
structure PPoint where
 x : Int
 y : Int
 t : Int
 deriving DecidableEq
def pPoint : Ty PPoint := (int64.prod (int64.prod int64)).via fun s => (s.x, s.y, s.t)
theorem pPoint_rep {o : Bool} {w : World} {s : PPoint} {cs : List Value} {F : List Nat} : pPoint.rep o w s cs F ↔ cs = [.int .i64 s.x, .int .i64 s.y, .int .i64 s.t] ∧ F = [] ∧ I64 s.x ∧ I64 s.y ∧ I64 s.t := by
 constructor
 · rintro ⟨_, _, _, _, rfl, rfl, ⟨rfl, rfl, h0⟩, ⟨_, _, _, _, rfl, rfl, ⟨rfl, rfl, h1⟩, ⟨rfl, rfl, h2⟩⟩⟩
   exact ⟨rfl, rfl, h0, h1, h2⟩
 · rintro ⟨rfl, rfl, h0, h1, h2⟩
   exact ⟨_, _, [], [], rfl, rfl, ⟨rfl, rfl, h0⟩, ⟨_, _, [], [], rfl, rfl, ⟨rfl, rfl, h1⟩, ⟨rfl, rfl, h2⟩⟩⟩
def pPoints (e : TypeId) : Ty (List PPoint) := pPoint.slice e
theorem pPoints_open {o : Bool} {w : World} {e : TypeId} {xs : List PPoint} {v : Value} {F : List Nat} (h : (pPoints e).rep o w xs [v] F) :
 ∃ A c, v = .slice A xs.length c ∧ xs.length ≤ c ∧ c ≤ maxLen ∧ ∀ k (hk : k < xs.length), ∃ b off, A = some ⟨b, off, none⟩ ∧ b < w.heap.size ∧ b ∈ F ∧
  w.cell? ⟨b, off + k * 3, none⟩ = some (.int .i64 xs[k].x) ∧ w.cell? ⟨b, off + k * 3 + 1, none⟩ = some (.int .i64 xs[k].y) ∧ w.cell? ⟨b, off + k * 3 + 2, none⟩ = some (.int .i64 xs[k].t) ∧ I64 xs[k].x ∧ I64 xs[k].y ∧ I64 xs[k].t := by
 obtain ⟨A, c, hv, h1, h2, h3⟩ := slice_open h
 refine ⟨A, c, hv, h1, h2, fun k hk => ?_⟩
 obtain ⟨b, off, ck, Fk, hA, hb, hin, hr, _, hc⟩ := h3 k hk
 obtain ⟨rfl, rfl, i0, i1, i2⟩ := pPoint_rep.1 hr
 exact ⟨b, off, hA, hb, hin, hc 0 _ rfl, by rw [Nat.add_assoc]; exact hc 1 _ rfl, by rw [Nat.add_assoc]; exact hc 2 _ rfl, i0, i1, i2⟩
def pPointCells (s : PPoint) : List Value := [.int .i64 s.x, .int .i64 s.y, .int .i64 s.t]
def pPointOk (s : PPoint) : Prop := I64 s.x ∧ I64 s.y ∧ I64 s.t
theorem pPointCells_len (xs : List PPoint) : (xs.flatMap pPointCells).length = xs.length * 3 := by
 induction xs with
 | nil => rfl
 | cons a r ih => simp only [List.flatMap_cons, List.length_append, ih, List.length_cons]; simp [pPointCells]; omega
theorem repL_pPoint {o : Bool} {w : World} : ∀ (xs : List PPoint), (∀ s ∈ xs, pPointOk s) → repL pPoint o w xs (xs.flatMap pPointCells) []
 | [], _ => ⟨rfl, rfl⟩
 | s :: r, h => ⟨_, _, [], [], rfl, rfl, pPoint_rep.2 ⟨rfl, rfl, h s (by simp)⟩, repL_pPoint r (fun t ht => h t (by simp [ht]))⟩
theorem pPoints_ok {o : Bool} {w : World} {e : TypeId} {xs : List PPoint} {v : Value} {F : List Nat} (h : (pPoints e).rep o w xs [v] F) : ∀ s ∈ xs, pPointOk s := by
 obtain ⟨_, _, _, _, _, hr⟩ := pPoints_open h
 intro s hs
 obtain ⟨k, hk, rfl⟩ := List.getElem_of_mem hs
 obtain ⟨_, _, _, _, _, _, _, _, h⟩ := hr k hk
 exact h
set_option maxHeartbeats 400000 in
theorem toPoint_c (s : PPoint) (w : World) :
 Calls Tryz.prog 67 #[.agg #[.int .i64 s.x, .int .i64 s.y, .int .i64 s.t]] w fun e w' => e = .returned (.agg #[.int .i64 s.x, .int .i64 s.y, .int .i64 s.t]) ∧ Below w.heap.size w w' := by
 go_enter Tryz.func67, Tryz.ntmps67
 go_wp2_with fail
 refine bodyPost_ret (v := .agg #[.int .i64 s.x, .int .i64 s.y, .int .i64 s.t]) (by simp [results, Tryz.results67, go_sem]) rfl ⟨rfl, ?_⟩
 exact (((Below.refl _ _).alloc (Nat.le_refl _) _).alloc (by simp) _).alloc (by simp; omega) _
set_option maxHeartbeats 1000000 in
theorem toPointS_c {o : Bool} {e : TypeId} {xs : List PPoint} {v : Value} {F : List Nat} (w : World) (h : (pPoints e).rep o w xs [v] F) (hx : xs.length ≤ 1048576) :
 Calls Tryz.prog 31 #[v] w fun e w' => ∃ u G, e = .returned u ∧ (pPoints 147).rep true w' xs [u] G ∧ Fresh w.heap.size G ∧ Below w.heap.size w w' := by
 have hok := pPoints_ok h
 obtain ⟨A, c, rfl, hc1, hc2, hr⟩ := pPoints_open h
 have hmk := make_run (P := Tryz.prog) (t := 65) (e := 147) (z := .agg #[.int .i64 0, .int .i64 0, .int .i64 0]) (size := 3) (bytes := 24) Tryz.underlying65 (by kernel_rfl) xs.length xs.length rfl (by omega) (by unfold maxLen; omega)
 go_enter Tryz.func31, Tryz.ntmps31
 go_wp2_with fail
 go_loopw [4] (fun i wr => ∃ k : Nat, k ≤ xs.length ∧ i = .int .i64 k ∧ ∃ rest, Row wr w.heap.size 147 ((xs.take k).flatMap pPointCells ++ rest) ∧ rest.length = (xs.length - k) * 3 ∧ Below w.heap.size w wr) (fun i _ => xs.length - (intOf i).toNat)
 case atStart =>
  exact ⟨0, Nat.zero_le _, rfl, _, Row.new w _ _, by simp [madeCells], (Below.refl _ _).alloc (Nat.le_refl _) _⟩
 case round =>
  obtain ⟨k, hk, rfl, rest, hrow, hrl, hb⟩ := hrel
  by_cases hlt : k < xs.length
  · obtain ⟨b, off, rfl, hbb, _, h0, h1, h2, _⟩ := hr k hlt
    rw [← hb.cell (p := ⟨b, _, none⟩) hbb] at h0 h1 h2
    have hbs := hb.size
    have hrl2 := hrow.lt
    have hpl : ((xs.take k).flatMap pPointCells).length = k * 3 := by rw [pPointCells_len, List.length_take]; omega
    obtain ⟨r0, r1, r2, rest', rfl⟩ : ∃ r0 r1 r2 rest', rest = r0 :: r1 :: r2 :: rest' := by
     match rest, hrl with
     | r0 :: r1 :: r2 :: rest', _ => exact ⟨_, _, _, _, rfl⟩
     | [], h => simp at h; omega
     | [_], h => simp at h; omega
     | [_, _], h => simp at h; omega
    clear hr h hmk
    go_wp2_with (go_at_call 67; refine (toPoint_c xs[k] _).mono ?_; rintro e w1 ⟨rfl, hb1⟩; have hrow1 := hrow.later hb1; obtain ⟨⟨v0, hv0⟩, hf0⟩ := hrow1.can (i := k * 3) (by simp [hpl]); obtain ⟨⟨v1, hv1⟩, hf1⟩ := hrow1.can (i := k * 3 + 1) (by simp [hpl]); obtain ⟨⟨v2, hv2⟩, hf2⟩ := hrow1.can (i := k * 3 + 2) (by simp [hpl]))
    go_roundw
    case rel =>
     refine ⟨k + 1, by omega, by go_num, rest', ?_, by simp at hrl; omega, ((((hb.trans (hb1.mono hbs)).setCell (Nat.le_refl _) _).setCell (Nat.le_refl _) _).setCell (Nat.le_refl _) _)⟩
     have R := (((hrow1.put (j := 0) (i := k * 3) (by rw [hpl]; rfl) (.int .i64 xs[k].x)).put (j := 1) (i := k * 3 + 1) (by rw [hpl]) (.int .i64 xs[k].y)).put (j := 2) (i := k * 3 + 2) (by rw [hpl]) (.int .i64 xs[k].t))
     rw [List.take_succ_eq_append_getElem hlt, List.flatMap_append, List.append_assoc]
     exact R
    case measure => simp [intOf]; omega
  · obtain rfl : k = xs.length := by omega
    go_wp2_with fail
    go_ret
    have h0 : rest = [] := List.eq_nil_of_length_eq_zero (by simpa using hrl)
    subst h0
    rw [List.append_nil, List.take_length] at hrow
    exact ⟨_, [w.heap.size], rfl, slice_of_row hrow (repL_pPoint xs hok) (by unfold maxLen; omega), ⟨by simp, by simp⟩, hb⟩
set_option maxHeartbeats 400000 in
theorem eqPoint_c (s t : PPoint) (w : World) :
 Calls Tryz.prog 92 #[.agg #[.int .i64 s.x, .int .i64 s.y, .int .i64 s.t], .agg #[.int .i64 t.x, .int .i64 t.y, .int .i64 t.t]] w fun e w' => e = .returned (.bool (decide (s = t))) ∧ Below w.heap.size w w' := by
 have e : decide (s = t) = decide (s.x = t.x ∧ s.y = t.y ∧ s.t = t.t) := by apply decide_eq_decide.2; cases s; cases t; simp
 rw [e]
 clear e
 go_enter Tryz.func92, Tryz.ntmps92
 go_wp2_with fail
 all_goals go_ret
 all_goals refine ⟨?_, ((Below.refl _ _).alloc (Nat.le_refl _) _).alloc (by simp) _⟩
 all_goals simp_all
set_option maxRecDepth 100000 in
set_option maxHeartbeats 1000000 in
theorem eqPointS_c {oa ob : Bool} {ea eb : TypeId} {xs ys : List PPoint} {v u : Value} {F G : List Nat} (w : World) (h : (pPoints ea).rep oa w xs [v] F) (h' : (pPoints eb).rep ob w ys [u] G) (hx : xs.length ≤ 1048576) (hy : ys.length ≤ 1048576) :
 Calls Tryz.prog 43 #[v, u] w fun e w' => e = .returned (.bool (decide (xs = ys))) ∧ Below w.heap.size w w' := by
 obtain ⟨A, c, rfl, hc1, hc2, hr⟩ := pPoints_open h
 obtain ⟨B, d, rfl, hd1, hd2, hs⟩ := pPoints_open h'
 clear h h'
 by_cases hl : xs.length = ys.length
 · have hne : ((xs.length : Int) != (ys.length : Int)) = false := by simp [hl]
   have HL := Lib.hid hl
   clear hl
   go_enter Tryz.func43, Tryz.ntmps43
   go_wp2_with fail
   go_loopw [5] (fun i wr => ∃ k : Nat, k ≤ xs.length ∧ i = .int .i64 k ∧ (∀ j (hj : j < xs.length) (hj' : j < ys.length), j < k → xs[j] = ys[j]) ∧ Below w.heap.size w wr) (fun i _ => xs.length - (intOf i).toNat)
   case atStart => exact ⟨0, Nat.zero_le _, rfl, fun _ _ _ h => by omega, Below.refl _ _⟩
   case round =>
    obtain ⟨k, hk, rfl, hall, hb⟩ := hrel
    have hbs := hb.size
    by_cases hlt : k < xs.length
    · have hlt' : k < ys.length := by have := HL.out; omega
      obtain ⟨b, off, rfl, hbb, _, h0, h1, h2, _⟩ := hr k hlt
      obtain ⟨b', off', rfl, hbb', _, g0, g1, g2, _⟩ := hs k hlt'
      rw [← hb.cell (p := ⟨b, _, none⟩) hbb] at h0 h1 h2
      rw [← hb.cell (p := ⟨b', _, none⟩) hbb'] at g0 g1 g2
      have HA := Lib.hid hall
      clear hr hs hall
      have C := eqPoint_c xs[k] ys[k]
      by_cases hkk : xs[k] = ys[k]
      · rw [decide_eq_true hkk] at C
        have HC := Lib.hid C
        have HK := Lib.hid hkk
        clear C hkk
        go_wp2_with fail
        go_still_tail 8, (by kernel_rfl)
        go_wp2_with (go_at_call 92; refine (HC.out _).mono ?_; rintro e w1 ⟨rfl, hb1⟩)
        go_roundw
        case rel =>
         refine ⟨k + 1, by omega, by go_num, fun j hj hj' hjk => ?_, hb.drew.trans (hb1.mono hbs)⟩
         by_cases e : j = k
         · subst e; exact HK.out
         · exact HA.out j hj hj' (by omega)
        case measure => simp [intOf]; omega
      · rw [decide_eq_false hkk] at C
        have HC := Lib.hid C
        have HK := Lib.hid hkk
        clear C hkk
        go_wp2_with fail
        go_still_tail 8, (by kernel_rfl)
        go_wp2_with (go_at_call 92; refine (HC.out _).mono ?_; rintro e w1 ⟨rfl, hb1⟩)
        go_ret
        have hne : ¬ xs = ys := fun e => by subst e; exact HK.out rfl
        exact ⟨by simp [hne], hb.drew.trans (hb1.mono hbs)⟩
    · obtain rfl : k = xs.length := by omega
      have heq : xs = ys := List.ext_getElem HL.out (fun j h1 h2 => hall j h1 h2 h1)
      clear hall
      go_wp2_with fail
      go_ret
      exact ⟨by simp [heq], hb⟩
 · have hne : ((xs.length : Int) != (ys.length : Int)) = true := by rw [bne_iff_ne]; omega
   have hxy : ¬ xs = ys := fun e => hl (by rw [e])
   have HL := Lib.hid hxy
   clear hl hxy
   go_enter Tryz.func43, Tryz.ntmps43
   go_wp2_with fail
   go_ret
   exact ⟨by simp [HL.out], Below.refl _ _⟩
set_option maxHeartbeats 400000 in
theorem szPointS_c {o : Bool} {e : TypeId} {xs : List PPoint} {v : Value} {F : List Nat} (w : World) (h : (pPoints e).rep o w xs [v] F) (left : Int) (hl : 0 ≤ left ∧ left ≤ 1048576) :
 Calls Tryz.prog 22 #[v, .int .i64 left] w fun e w' => (∃ r : Int, e = .returned (.int .i64 r) ∧ -1 ≤ r ∧ r ≤ left ∧ (0 ≤ r → r + xs.length ≤ left)) ∧ Below w.heap.size w w' := by
 obtain ⟨A, c, rfl, hc1, hc2, hr⟩ := pPoints_open h
 clear hr h
 unfold maxLen at hc2
 go_enter Tryz.func22, Tryz.ntmps22
 go_wp2_with fail
 all_goals go_ret
 all_goals exact ⟨⟨_, rfl, by omega⟩, Below.refl _ _⟩
end Go.Proofs.YtboijogahclekaaGreatDoor

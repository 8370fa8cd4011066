/- The type Step: its data, how it lies in memory, and the law's own helpers over it. Conditions: none. -/
import Derived.Test.YtboijogahclekaaGreatDoorRows
import Derived.Test.YtboijogahclekaaGreatDoorStrSk
namespace Go.Proofs.YtboijogahclekaaGreatDoor
open Go Go.RowKit
structure PStep where
 kind : Int
 line : Int
 pos : Int
 word : ByteArray
 old : ByteArray
 deriving DecidableEq
def pStep : Ty PStep := (int64.prod (int64.prod (int64.prod (str.prod str)))).via fun s => (s.kind, s.line, s.pos, s.word, s.old)
theorem pStep_rep {o : Bool} {w : World} {s : PStep} {cs : List Value} {F : List Nat} : pStep.rep o w s cs F ↔ cs = [.int .i64 s.kind, .int .i64 s.line, .int .i64 s.pos, .string s.word, .string s.old] ∧ F = [] ∧ I64 s.kind ∧ I64 s.line ∧ I64 s.pos ∧ s.word.size ≤ maxLen ∧ s.old.size ≤ maxLen := by
 constructor
 · rintro ⟨_, _, _, _, rfl, rfl, ⟨rfl, rfl, h0⟩, ⟨_, _, _, _, rfl, rfl, ⟨rfl, rfl, h1⟩, ⟨_, _, _, _, rfl, rfl, ⟨rfl, rfl, h2⟩, ⟨_, _, _, _, rfl, rfl, ⟨rfl, rfl, h3⟩, ⟨rfl, rfl, h4⟩⟩⟩⟩⟩
   exact ⟨rfl, rfl, h0, h1, h2, h3, h4⟩
 · rintro ⟨rfl, rfl, h0, h1, h2, h3, h4⟩
   exact ⟨_, _, [], [], rfl, rfl, ⟨rfl, rfl, h0⟩, ⟨_, _, [], [], rfl, rfl, ⟨rfl, rfl, h1⟩, ⟨_, _, [], [], rfl, rfl, ⟨rfl, rfl, h2⟩, ⟨_, _, [], [], rfl, rfl, ⟨rfl, rfl, h3⟩, ⟨rfl, rfl, h4⟩⟩⟩⟩⟩
def pSteps (e : TypeId) : Ty (List PStep) := pStep.slice e
theorem pSteps_open {o : Bool} {w : World} {e : TypeId} {xs : List PStep} {v : Value} {F : List Nat} (h : (pSteps e).rep o w xs [v] F) :
 ∃ A c, v = .slice A xs.length c ∧ xs.length ≤ c ∧ c ≤ maxLen ∧ ∀ k (hk : k < xs.length), ∃ b off, A = some ⟨b, off, none⟩ ∧ b < w.heap.size ∧ b ∈ F ∧
  w.cell? ⟨b, off + k * 5, none⟩ = some (.int .i64 xs[k].kind) ∧ w.cell? ⟨b, off + k * 5 + 1, none⟩ = some (.int .i64 xs[k].line) ∧ w.cell? ⟨b, off + k * 5 + 2, none⟩ = some (.int .i64 xs[k].pos) ∧ w.cell? ⟨b, off + k * 5 + 3, none⟩ = some (.string xs[k].word) ∧ w.cell? ⟨b, off + k * 5 + 4, none⟩ = some (.string xs[k].old) ∧ I64 xs[k].kind ∧ I64 xs[k].line ∧ I64 xs[k].pos ∧ xs[k].word.size ≤ maxLen ∧ xs[k].old.size ≤ maxLen := by
 obtain ⟨A, c, hv, h1, h2, h3⟩ := slice_open h
 refine ⟨A, c, hv, h1, h2, fun k hk => ?_⟩
 obtain ⟨b, off, ck, Fk, hA, hb, hin, hr, _, hc⟩ := h3 k hk
 obtain ⟨rfl, rfl, i0, i1, i2, i3, i4⟩ := pStep_rep.1 hr
 exact ⟨b, off, hA, hb, hin, hc 0 _ rfl, by rw [Nat.add_assoc]; exact hc 1 _ rfl, by rw [Nat.add_assoc]; exact hc 2 _ rfl, by rw [Nat.add_assoc]; exact hc 3 _ rfl, by rw [Nat.add_assoc]; exact hc 4 _ rfl, i0, i1, i2, i3, i4⟩
def pStepCells (s : PStep) : List Value := [.int .i64 s.kind, .int .i64 s.line, .int .i64 s.pos, .string s.word, .string s.old]
def pStepOk (s : PStep) : Prop := I64 s.kind ∧ I64 s.line ∧ I64 s.pos ∧ s.word.size ≤ maxLen ∧ s.old.size ≤ maxLen
theorem pStepCells_len (xs : List PStep) : (xs.flatMap pStepCells).length = xs.length * 5 := by
 induction xs with
 | nil => rfl
 | cons a r ih => simp only [List.flatMap_cons, List.length_append, ih, List.length_cons]; simp [pStepCells]; omega
theorem repL_pStep {o : Bool} {w : World} : ∀ (xs : List PStep), (∀ s ∈ xs, pStepOk s) → repL pStep o w xs (xs.flatMap pStepCells) []
 | [], _ => ⟨rfl, rfl⟩
 | s :: r, h => ⟨_, _, [], [], rfl, rfl, pStep_rep.2 ⟨rfl, rfl, h s (by simp)⟩, repL_pStep r (fun t ht => h t (by simp [ht]))⟩
theorem pSteps_ok {o : Bool} {w : World} {e : TypeId} {xs : List PStep} {v : Value} {F : List Nat} (h : (pSteps e).rep o w xs [v] F) : ∀ s ∈ xs, pStepOk s := by
 obtain ⟨_, _, _, _, _, hr⟩ := pSteps_open h
 intro s hs
 obtain ⟨k, hk, rfl⟩ := List.getElem_of_mem hs
 obtain ⟨_, _, _, _, _, _, _, _, _, _, h⟩ := hr k hk
 exact h
set_option maxHeartbeats 400000 in
theorem toStep_c (s : PStep) (w : World) :
 Calls Tryz.prog 69 #[.agg #[.int .i64 s.kind, .int .i64 s.line, .int .i64 s.pos, .string s.word, .string s.old]] w fun e w' => e = .returned (.agg #[.int .i64 s.kind, .int .i64 s.line, .int .i64 s.pos, .string s.word, .string s.old]) ∧ Below w.heap.size w w' := by
 go_enter Tryz.func69, Tryz.ntmps69
 go_wp2_with fail
 refine bodyPost_ret (v := .agg #[.int .i64 s.kind, .int .i64 s.line, .int .i64 s.pos, .string s.word, .string s.old]) (by simp [results, Tryz.results69, go_sem]) rfl ⟨rfl, ?_⟩
 exact (((Below.refl _ _).alloc (Nat.le_refl _) _).alloc (by simp) _).alloc (by simp; omega) _
set_option maxHeartbeats 1000000 in
theorem toStepS_c {o : Bool} {e : TypeId} {xs : List PStep} {v : Value} {F : List Nat} (w : World) (h : (pSteps e).rep o w xs [v] F) (hx : xs.length ≤ 1048576) :
 Calls Tryz.prog 34 #[v] w fun e w' => ∃ u G, e = .returned u ∧ (pSteps 161).rep true w' xs [u] G ∧ Fresh w.heap.size G ∧ Below w.heap.size w w' := by
 have hok := pSteps_ok h
 obtain ⟨A, c, rfl, hc1, hc2, hr⟩ := pSteps_open h
 have hmk := make_run (P := Tryz.prog) (t := 69) (e := 161) (z := .agg #[.int .i64 0, .int .i64 0, .int .i64 0, .string .empty, .string .empty]) (size := 5) (bytes := 56) Tryz.underlying69 (by kernel_rfl) xs.length xs.length rfl (by omega) (by unfold maxLen; omega)
 go_enter Tryz.func34, Tryz.ntmps34
 go_wp2_with fail
 go_loopw [4] (fun i wr => ∃ k : Nat, k ≤ xs.length ∧ i = .int .i64 k ∧ ∃ rest, Row wr w.heap.size 161 ((xs.take k).flatMap pStepCells ++ rest) ∧ rest.length = (xs.length - k) * 5 ∧ Below w.heap.size w wr) (fun i _ => xs.length - (intOf i).toNat)
 case atStart =>
  exact ⟨0, Nat.zero_le _, rfl, _, Row.new w _ _, by simp [madeCells], (Below.refl _ _).alloc (Nat.le_refl _) _⟩
 case round =>
  obtain ⟨k, hk, rfl, rest, hrow, hrl, hb⟩ := hrel
  by_cases hlt : k < xs.length
  · obtain ⟨b, off, rfl, hbb, _, h0, h1, h2, h3, h4, _⟩ := hr k hlt
    rw [← hb.cell (p := ⟨b, _, none⟩) hbb] at h0 h1 h2 h3 h4
    have hbs := hb.size
    have hrl2 := hrow.lt
    have hpl : ((xs.take k).flatMap pStepCells).length = k * 5 := by rw [pStepCells_len, List.length_take]; omega
    obtain ⟨r0, r1, r2, r3, r4, rest', rfl⟩ : ∃ r0 r1 r2 r3 r4 rest', rest = r0 :: r1 :: r2 :: r3 :: r4 :: rest' := by
     match rest, hrl with
     | r0 :: r1 :: r2 :: r3 :: r4 :: rest', _ => exact ⟨_, _, _, _, _, _, rfl⟩
     | [], h => simp at h; omega
     | [_], h => simp at h; omega
     | [_, _], h => simp at h; omega
     | [_, _, _], h => simp at h; omega
     | [_, _, _, _], h => simp at h; omega
    clear hr h hmk
    go_wp2_with (go_at_call 69; refine (toStep_c xs[k] _).mono ?_; rintro e w1 ⟨rfl, hb1⟩; have hrow1 := hrow.later hb1; obtain ⟨⟨v0, hv0⟩, hf0⟩ := hrow1.can (i := k * 5) (by simp [hpl]); obtain ⟨⟨v1, hv1⟩, hf1⟩ := hrow1.can (i := k * 5 + 1) (by simp [hpl]); obtain ⟨⟨v2, hv2⟩, hf2⟩ := hrow1.can (i := k * 5 + 2) (by simp [hpl]); obtain ⟨⟨v3, hv3⟩, hf3⟩ := hrow1.can (i := k * 5 + 3) (by simp [hpl]); obtain ⟨⟨v4, hv4⟩, hf4⟩ := hrow1.can (i := k * 5 + 4) (by simp [hpl]))
    go_roundw
    case rel =>
     refine ⟨k + 1, by omega, by go_num, rest', ?_, by simp at hrl; omega, ((((((hb.trans (hb1.mono hbs)).setCell (Nat.le_refl _) _).setCell (Nat.le_refl _) _).setCell (Nat.le_refl _) _).setCell (Nat.le_refl _) _).setCell (Nat.le_refl _) _)⟩
     have R := (((((hrow1.put (j := 0) (i := k * 5) (by rw [hpl]; rfl) (.int .i64 xs[k].kind)).put (j := 1) (i := k * 5 + 1) (by rw [hpl]) (.int .i64 xs[k].line)).put (j := 2) (i := k * 5 + 2) (by rw [hpl]) (.int .i64 xs[k].pos)).put (j := 3) (i := k * 5 + 3) (by rw [hpl]) (.string xs[k].word)).put (j := 4) (i := k * 5 + 4) (by rw [hpl]) (.string xs[k].old))
     rw [List.take_succ_eq_append_getElem hlt, List.flatMap_append, List.append_assoc]
     exact R
    case measure => simp [intOf]; omega
  · obtain rfl : k = xs.length := by omega
    go_wp2_with fail
    go_ret
    have h0 : rest = [] := List.eq_nil_of_length_eq_zero (by simpa using hrl)
    subst h0
    rw [List.append_nil, List.take_length] at hrow
    exact ⟨_, [w.heap.size], rfl, slice_of_row hrow (repL_pStep xs hok) (by unfold maxLen; omega), ⟨by simp, by simp⟩, hb⟩
set_option maxHeartbeats 400000 in
theorem eqStep_c (s t : PStep) (w : World) :
 Calls Tryz.prog 94 #[.agg #[.int .i64 s.kind, .int .i64 s.line, .int .i64 s.pos, .string s.word, .string s.old], .agg #[.int .i64 t.kind, .int .i64 t.line, .int .i64 t.pos, .string t.word, .string t.old]] w fun e w' => e = .returned (.bool (decide (s = t))) ∧ Below w.heap.size w w' := by
 have e : decide (s = t) = decide (s.kind = t.kind ∧ s.line = t.line ∧ s.pos = t.pos ∧ s.word = t.word ∧ s.old = t.old) := by apply decide_eq_decide.2; cases s; cases t; simp
 rw [e]
 clear e
 go_enter Tryz.func94, Tryz.ntmps94
 go_wp2_with fail
 all_goals go_ret
 all_goals refine ⟨?_, ((Below.refl _ _).alloc (Nat.le_refl _) _).alloc (by simp) _⟩
 all_goals simp_all [str_eq]
set_option maxRecDepth 100000 in
set_option maxHeartbeats 1000000 in
theorem eqStepS_c {oa ob : Bool} {ea eb : TypeId} {xs ys : List PStep} {v u : Value} {F G : List Nat} (w : World) (h : (pSteps ea).rep oa w xs [v] F) (h' : (pSteps eb).rep ob w ys [u] G) (hx : xs.length ≤ 1048576) (hy : ys.length ≤ 1048576) :
 Calls Tryz.prog 46 #[v, u] w fun e w' => e = .returned (.bool (decide (xs = ys))) ∧ Below w.heap.size w w' := by
 obtain ⟨A, c, rfl, hc1, hc2, hr⟩ := pSteps_open h
 obtain ⟨B, d, rfl, hd1, hd2, hs⟩ := pSteps_open h'
 clear h h'
 by_cases hl : xs.length = ys.length
 · have hne : ((xs.length : Int) != (ys.length : Int)) = false := by simp [hl]
   have HL := Lib.hid hl
   clear hl
   go_enter Tryz.func46, Tryz.ntmps46
   go_wp2_with fail
   go_loopw [5] (fun i wr => ∃ k : Nat, k ≤ xs.length ∧ i = .int .i64 k ∧ (∀ j (hj : j < xs.length) (hj' : j < ys.length), j < k → xs[j] = ys[j]) ∧ Below w.heap.size w wr) (fun i _ => xs.length - (intOf i).toNat)
   case atStart => exact ⟨0, Nat.zero_le _, rfl, fun _ _ _ h => by omega, Below.refl _ _⟩
   case round =>
    obtain ⟨k, hk, rfl, hall, hb⟩ := hrel
    have hbs := hb.size
    by_cases hlt : k < xs.length
    · have hlt' : k < ys.length := by have := HL.out; omega
      obtain ⟨b, off, rfl, hbb, _, h0, h1, h2, h3, h4, _⟩ := hr k hlt
      obtain ⟨b', off', rfl, hbb', _, g0, g1, g2, g3, g4, _⟩ := hs k hlt'
      rw [← hb.cell (p := ⟨b, _, none⟩) hbb] at h0 h1 h2 h3 h4
      rw [← hb.cell (p := ⟨b', _, none⟩) hbb'] at g0 g1 g2 g3 g4
      have HA := Lib.hid hall
      clear hr hs hall
      have C := eqStep_c xs[k] ys[k]
      by_cases hkk : xs[k] = ys[k]
      · rw [decide_eq_true hkk] at C
        have HC := Lib.hid C
        have HK := Lib.hid hkk
        clear C hkk
        go_wp2_with fail
        go_still_tail 8, (by kernel_rfl)
        go_wp2_with (go_at_call 94; refine (HC.out _).mono ?_; rintro e w1 ⟨rfl, hb1⟩)
        go_roundw
        case rel =>
         refine ⟨k + 1, by omega, by go_num, fun j hj hj' hjk => ?_, hb.drew.trans (hb1.mono hbs)⟩
         by_cases e : j = k
         · subst e; exact HK.out
         · exact HA.out j hj hj' (by omega)
        case measure => simp [intOf]; omega
      · rw [decide_eq_false hkk] at C
        have HC := Lib.hid C
        have HK := Lib.hid hkk
        clear C hkk
        go_wp2_with fail
        go_still_tail 8, (by kernel_rfl)
        go_wp2_with (go_at_call 94; refine (HC.out _).mono ?_; rintro e w1 ⟨rfl, hb1⟩)
        go_ret
        have hne : ¬ xs = ys := fun e => by subst e; exact HK.out rfl
        exact ⟨by simp [hne], hb.drew.trans (hb1.mono hbs)⟩
    · obtain rfl : k = xs.length := by omega
      have heq : xs = ys := List.ext_getElem HL.out (fun j h1 h2 => hall j h1 h2 h1)
      clear hall
      go_wp2_with fail
      go_ret
      exact ⟨by simp [heq], hb⟩
 · have hne : ((xs.length : Int) != (ys.length : Int)) = true := by rw [bne_iff_ne]; omega
   have hxy : ¬ xs = ys := fun e => hl (by rw [e])
   have HL := Lib.hid hxy
   clear hl hxy
   go_enter Tryz.func46, Tryz.ntmps46
   go_wp2_with fail
   go_ret
   exact ⟨by simp [HL.out], Below.refl _ _⟩
def pStepW (s : PStep) : Nat := s.word.size + s.old.size
set_option maxHeartbeats 400000 in
theorem szStep_c (s : PStep) (left : Int) (w : World) (hs : pStepOk s) (hl : 0 ≤ left ∧ left ≤ 1048576) :
 Calls Tryz.prog 52 #[.agg #[.int .i64 s.kind, .int .i64 s.line, .int .i64 s.pos, .string s.word, .string s.old], .int .i64 left] w fun e w' => (∃ r : Int, e = .returned (.int .i64 r) ∧ -1 ≤ r ∧ r ≤ left ∧ (0 ≤ r → r + pStepW s ≤ left)) ∧ Below w.heap.size w w' := by
 obtain ⟨h0, h1, h2, h3, h4⟩ := hs
 simp only [maxLen, I64] at *
 go_enter Tryz.func52, Tryz.ntmps52
 go_wp2_with fail
 all_goals go_ret
 all_goals refine ⟨⟨_, rfl, ?_⟩, ((Below.refl _ _).alloc (Nat.le_refl _) _)⟩
 all_goals (simp only [pStepW]; omega)
def szpStep (xs : List PStep) : Nat := xs.length + (xs.map pStepW).sum
theorem szpStep_take (xs : List PStep) (k : Nat) (h : k < xs.length) : ((xs.take (k+1)).map pStepW).sum = ((xs.take k).map pStepW).sum + pStepW xs[k] := by
 rw [List.take_succ_eq_append_getElem h, List.map_append, List.sum_append]; simp
set_option maxHeartbeats 1000000 in
theorem szStepS_c {o : Bool} {e : TypeId} {xs : List PStep} {v : Value} {F : List Nat} (w : World) (h : (pSteps e).rep o w xs [v] F) (left : Int) (hl : 0 ≤ left ∧ left ≤ 1048576) :
 Calls Tryz.prog 25 #[v, .int .i64 left] w fun e w' => (∃ r : Int, e = .returned (.int .i64 r) ∧ -1 ≤ r ∧ r ≤ left ∧ (0 ≤ r → r + szpStep xs ≤ left)) ∧ Below w.heap.size w w' := by
 have hok := pSteps_ok h
 obtain ⟨A, c, rfl, hc1, hc2, hr⟩ := pSteps_open h
 clear h
 unfold maxLen at hc2
 by_cases h0 : left - xs.length < 0
 · go_enter Tryz.func25, Tryz.ntmps25
   go_wp2_with fail
   go_ret
   exact ⟨⟨-1, rfl, by omega, by omega, by omega⟩, Below.refl _ _⟩
 · have h1 : ¬ (left - (xs.length : Int) < 0) := h0
   go_enter Tryz.func25, Tryz.ntmps25
   go_wp2_with fail
   go_loopw [1, 5] (fun l i wr => ∃ k : Nat, k ≤ xs.length ∧ i = .int .i64 k ∧ (∃ n : Int, 0 ≤ n ∧ n ≤ left ∧ Hid (n + xs.length + ((xs.take k).map pStepW).sum ≤ left) ∧ l = .int .i64 n) ∧ Below w.heap.size w wr) (fun _ i _ => xs.length - (intOf i).toNat)
   case atStart => exact ⟨0, Nat.zero_le _, rfl, ⟨left - xs.length, by omega, by omega, by show _ ≤ _; simp, rfl⟩, Below.refl _ _⟩
   case round =>
    obtain ⟨k, hk, rfl, ⟨n, hn0, hn1, hn, rfl⟩, hb⟩ := hrel
    have hbs := hb.size
    by_cases hlt : k < xs.length
    · obtain ⟨b, off, rfl, hbb, _, h0, h1, h2, h3, h4, _⟩ := hr k hlt
      rw [← hb.cell (p := ⟨b, _, none⟩) hbb] at h0 h1 h2 h3 h4
      have H := Lib.hid (szpStep_take xs k hlt)
      have HO := Lib.hid (hok _ (List.getElem_mem hlt))
      clear hr hok
      go_wp2_with fail
      refine (szStep_c xs[k] n _ HO.out ⟨hn0, by omega⟩).mono ?_
      rintro e w1 ⟨⟨r, rfl, hr0, hr1, hr2⟩, hb1⟩
      by_cases hneg : r < 0
      · go_wp2_with fail
        go_ret
        exact ⟨⟨-1, rfl, by omega, by omega, by omega⟩, hb.trans (hb1.mono hbs)⟩
      · have hpos : ¬ (r < 0) := hneg
        have HR := Lib.hid (hr2 (by omega))
        clear hr2
        go_wp2_with fail
        go_roundw
        case rel => exact ⟨k + 1, by omega, by go_num, ⟨r, by omega, by omega, (by show _ ≤ _; have h1 := hn.out; have h2 := HR.out; rw [H.out]; omega), rfl⟩, hb.trans (hb1.mono hbs)⟩
        case measure => simp [intOf]; omega
    · obtain rfl : k = xs.length := by omega
      clear hr hok
      go_wp2_with fail
      go_ret
      refine ⟨⟨n, rfl, by omega, by omega, fun _ => ?_⟩, hb⟩
      have h1 := hn.out
      rw [List.take_length] at h1
      unfold szpStep
      omega
end Go.Proofs.YtboijogahclekaaGreatDoor

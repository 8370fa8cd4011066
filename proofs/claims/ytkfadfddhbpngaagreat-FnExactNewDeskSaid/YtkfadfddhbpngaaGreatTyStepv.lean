/- The type Step: its data, how it lies in memory, and the law's own helpers over it. Conditions: none. -/
import Derived.Test.YtkfadfddhbpngaaGreatRows
import Derived.Test.YtkfadfddhbpngaaGreatStrSv
namespace Go.Proofs.YtkfadfddhbpngaaGreat
open Go Go.RowKit

structure PStep where
 kind : Int
 line : Int
 pos : Int
 word : ByteArray
 old : ByteArray
 deriving DecidableEq

def pStep : Ty PStep := (int64.prod (int64.prod (int64.prod (str.prod str)))).via fun s => (s.kind, s.line, s.pos, s.word, s.old)
theorem pStep_rep {o : Bool} {w : World} {s : PStep} {cs : List Value} {F : List Nat} : pStep.rep o w s cs F ↔ cs = [.int .i64 s.kind, .int .i64 s.line, .int .i64 s.pos, .string s.word, .string s.old] ∧ F = [] ∧ I64 s.kind ∧ I64 s.line ∧ I64 s.pos ∧ s.word.size ≤ maxLen ∧ s.old.size ≤ maxLen := by
 constructor
 · rintro ⟨_, _, _, _, rfl, rfl, ⟨rfl, rfl, h0⟩, ⟨_, _, _, _, rfl, rfl, ⟨rfl, rfl, h1⟩, ⟨_, _, _, _, rfl, rfl, ⟨rfl, rfl, h2⟩, ⟨_, _, _, _, rfl, rfl, ⟨rfl, rfl, h3⟩, ⟨rfl, rfl, h4⟩⟩⟩⟩⟩
   exact ⟨rfl, rfl, h0, h1, h2, h3, h4⟩
 · rintro ⟨rfl, rfl, h0, h1, h2, h3, h4⟩
   exact ⟨_, _, [], [], rfl, rfl, ⟨rfl, rfl, h0⟩, ⟨_, _, [], [], rfl, rfl, ⟨rfl, rfl, h1⟩, ⟨_, _, [], [], rfl, rfl, ⟨rfl, rfl, h2⟩, ⟨_, _, [], [], rfl, rfl, ⟨rfl, rfl, h3⟩, ⟨rfl, rfl, h4⟩⟩⟩⟩⟩
def pSteps (e : TypeId) : Ty (List PStep) := pStep.slice e
theorem pSteps_open {o : Bool} {w : World} {e : TypeId} {xs : List PStep} {v : Value} {F : List Nat} (h : (pSteps e).rep o w xs [v] F) :
 ∃ A c, v = .slice A xs.length c ∧ xs.length ≤ c ∧ c ≤ maxLen ∧ ∀ k (hk : k < xs.length), ∃ b off, A = some ⟨b, off, none⟩ ∧ b < w.heap.size ∧ b ∈ F ∧
  w.cell? ⟨b, off + k * 5, none⟩ = some (.int .i64 xs[k].kind) ∧ w.cell? ⟨b, off + k * 5 + 1, none⟩ = some (.int .i64 xs[k].line) ∧ w.cell? ⟨b, off + k * 5 + 2, none⟩ = some (.int .i64 xs[k].pos) ∧ w.cell? ⟨b, off + k * 5 + 3, none⟩ = some (.string xs[k].word) ∧ w.cell? ⟨b, off + k * 5 + 4, none⟩ = some (.string xs[k].old) ∧ I64 xs[k].kind ∧ I64 xs[k].line ∧ I64 xs[k].pos ∧ xs[k].word.size ≤ maxLen ∧ xs[k].old.size ≤ maxLen := by
 obtain ⟨A, c, hv, h1, h2, h3⟩ := slice_open h
 refine ⟨A, c, hv, h1, h2, fun k hk => ?_⟩
 obtain ⟨b, off, ck, Fk, hA, hb, hin, hr, _, hc⟩ := h3 k hk
 obtain ⟨rfl, rfl, i0, i1, i2, i3, i4⟩ := pStep_rep.1 hr
 exact ⟨b, off, hA, hb, hin, hc 0 _ rfl, by rw [Nat.add_assoc]; exact hc 1 _ rfl, by rw [Nat.add_assoc]; exact hc 2 _ rfl, by rw [Nat.add_assoc]; exact hc 3 _ rfl, by rw [Nat.add_assoc]; exact hc 4 _ rfl, i0, i1, i2, i3, i4⟩
def pStepCells (s : PStep) : List Value := [.int .i64 s.kind, .int .i64 s.line, .int .i64 s.pos, .string s.word, .string s.old]
def pStepOk (s : PStep) : Prop := I64 s.kind ∧ I64 s.line ∧ I64 s.pos ∧ s.word.size ≤ maxLen ∧ s.old.size ≤ maxLen
theorem pStepCells_len (xs : List PStep) : (xs.flatMap pStepCells).length = xs.length * 5 := by
 induction xs with
 | nil => rfl
 | cons a r ih => simp only [List.flatMap_cons, List.length_append, ih, List.length_cons]; simp [pStepCells]; omega
theorem repL_pStep {o : Bool} {w : World} : ∀ (xs : List PStep), (∀ s ∈ xs, pStepOk s) → repL pStep o w xs (xs.flatMap pStepCells) []
 | [], _ => ⟨rfl, rfl⟩
 | s :: r, h => ⟨_, _, [], [], rfl, rfl, pStep_rep.2 ⟨rfl, rfl, h s (by simp)⟩, repL_pStep r (fun t ht => h t (by simp [ht]))⟩
theorem repL_pStep_inv {o : Bool} {w : World} : ∀ {xs : List PStep} {cs : List Value} {F : List Nat}, repL pStep o w xs cs F → cs = xs.flatMap pStepCells ∧ F = []
 | [], _, _, ⟨rfl, rfl⟩ => ⟨rfl, rfl⟩
 | s :: r, _, _, ⟨c1, c2, F1, F2, rfl, rfl, h1, h2⟩ => by
  obtain ⟨rfl, rfl, _⟩ := pStep_rep.1 h1
  obtain ⟨rfl, rfl⟩ := repL_pStep_inv h2
  exact ⟨rfl, rfl⟩
set_option maxHeartbeats 400000 in
theorem eqStep_c (s t : PStep) (w : World) :
 Calls Tryz.prog 168 #[.agg #[.int .i64 s.kind, .int .i64 s.line, .int .i64 s.pos, .string s.word, .string s.old], .agg #[.int .i64 t.kind, .int .i64 t.line, .int .i64 t.pos, .string t.word, .string t.old]] w fun e w' => e = .returned (.bool (decide (s = t))) ∧ Below w.heap.size w w' := by
 have e : decide (s = t) = decide (s.kind = t.kind ∧ s.line = t.line ∧ s.pos = t.pos ∧ s.word = t.word ∧ s.old = t.old) := by apply decide_eq_decide.2; cases s; cases t; simp
 rw [e]
 clear e
 go_enter Tryz.func168, Tryz.ntmps168
 go_wp2_with fail
 all_goals go_ret
 all_goals refine ⟨?_, ((Below.refl _ _).alloc (Nat.le_refl _) _).alloc (by simp) _⟩
 all_goals simp_all [str_eq]
set_option maxRecDepth 100000 in
set_option maxHeartbeats 1000000 in
theorem eqStepS_c {oa ob : Bool} {ea eb : TypeId} {xs ys : List PStep} {v u : Value} {F G : List Nat} (w : World) (h : (pSteps ea).rep oa w xs [v] F) (h' : (pSteps eb).rep ob w ys [u] G) (hx : xs.length ≤ 1048576) (hy : ys.length ≤ 1048576) :
 Calls Tryz.prog 98 #[v, u] w fun e w' => e = .returned (.bool (decide (xs = ys))) ∧ Below w.heap.size w w' := by
 obtain ⟨A, c, rfl, hc1, hc2, hr⟩ := pSteps_open h
 obtain ⟨B, d, rfl, hd1, hd2, hs⟩ := pSteps_open h'
 clear h h'
 by_cases hl : xs.length = ys.length
 · have hne : ((xs.length : Int) != (ys.length : Int)) = false := by simp [hl]
   have HL := Lib.hid hl
   clear hl
   go_enter Tryz.func98, Tryz.ntmps98
   go_wp2_with fail
   go_loopw [5] (fun i wr => ∃ k : Nat, k ≤ xs.length ∧ i = .int .i64 k ∧ (∀ j (hj : j < xs.length) (hj' : j < ys.length), j < k → xs[j] = ys[j]) ∧ Below w.heap.size w wr) (fun i _ => xs.length - (intOf i).toNat)
   case atStart => exact ⟨0, Nat.zero_le _, rfl, fun _ _ _ h => by omega, Below.refl _ _⟩
   case round =>
    obtain ⟨k, hk, rfl, hall, hb⟩ := hrel
    have hbs := hb.size
    by_cases hlt : k < xs.length
    · have hlt' : k < ys.length := by have := HL.out; omega
      obtain ⟨b, off, rfl, hbb, _, h0, h1, h2, h3, h4, _⟩ := hr k hlt
      obtain ⟨b', off', rfl, hbb', _, g0, g1, g2, g3, g4, _⟩ := hs k hlt'
      rw [← hb.cell (p := ⟨b, _, none⟩) hbb] at h0 h1 h2 h3 h4
      rw [← hb.cell (p := ⟨b', _, none⟩) hbb'] at g0 g1 g2 g3 g4
      have HA := Lib.hid hall
      clear hr hs hall
      have C := eqStep_c xs[k] ys[k]
      by_cases hkk : xs[k] = ys[k]
      · rw [decide_eq_true hkk] at C
        have HC := Lib.hid C
        have HK := Lib.hid hkk
        clear C hkk
        go_wp2_with fail
        go_still_tail 8, (by kernel_rfl)
        go_wp2_with (go_at_call 168; refine (HC.out _).mono ?_; rintro e w1 ⟨rfl, hb1⟩)
        go_roundw
        case rel =>
         refine ⟨k + 1, by omega, by go_num, fun j hj hj' hjk => ?_, hb.drew.trans (hb1.mono hbs)⟩
         by_cases e : j = k
         · subst e; exact HK.out
         · exact HA.out j hj hj' (by omega)
        case measure => simp [intOf]; omega
      · rw [decide_eq_false hkk] at C
        have HC := Lib.hid C
        have HK := Lib.hid hkk
        clear C hkk
        go_wp2_with fail
        go_still_tail 8, (by kernel_rfl)
        go_wp2_with (go_at_call 168; refine (HC.out _).mono ?_; rintro e w1 ⟨rfl, hb1⟩)
        go_ret
        have hne : ¬ xs = ys := fun e => by subst e; exact HK.out rfl
        exact ⟨by simp [hne], hb.drew.trans (hb1.mono hbs)⟩
    · obtain rfl : k = xs.length := by omega
      have heq : xs = ys := List.ext_getElem HL.out (fun j h1 h2 => hall j h1 h2 h1)
      clear hall
      go_wp2_with fail
      go_ret
      exact ⟨by simp [heq], hb⟩
 · have hne : ((xs.length : Int) != (ys.length : Int)) = true := by rw [bne_iff_ne]; omega
   have hxy : ¬ xs = ys := fun e => hl (by rw [e])
   have HL := Lib.hid hxy
   clear hl hxy
   go_enter Tryz.func98, Tryz.ntmps98
   go_wp2_with fail
   go_ret
   exact ⟨by simp [HL.out], Below.refl _ _⟩
/-- What one weighs. -/
def pStepW (s : PStep) : Nat := s.word.size + s.old.size
def szpStep (xs : List PStep) : Nat := xs.length + (xs.map pStepW).sum
/-- The marks from number s on. -/
def markPStep (n s : Nat) : List PStep := (List.range n).map fun i : Nat => ⟨(s : Int) + (i : Int) * 5, (s : Int) + (i : Int) * 5 + 1, (s : Int) + (i : Int) * 5 + 1 + 1, markB (s + i * 5 + 1 + 1 + 1), markB (s + i * 5 + 1 + 1 + 1 + 1)⟩
theorem markPStep_len (n s : Nat) : (markPStep n s).length = n := by simp [markPStep]
theorem markPStep_succ (n s : Nat) : markPStep (n + 1) s = markPStep n s ++ [⟨(s : Int) + (n : Int) * 5, (s : Int) + (n : Int) * 5 + 1, (s : Int) + (n : Int) * 5 + 1 + 1, markB (s + n * 5 + 1 + 1 + 1), markB (s + n * 5 + 1 + 1 + 1 + 1)⟩] := by simp [markPStep, List.range_succ]
theorem markPStep_ok (n s : Nat) (hn : n ≤ 1048576) (hs : s ≤ 10000000) : ∀ x ∈ markPStep n s, pStepOk x := by
 intro x hx
 obtain ⟨i, hi, rfl⟩ := List.mem_map.1 hx
 have hi' : i < n := by simpa using hi
 refine ⟨⟨by dsimp only; omega, by dsimp only; omega⟩, ⟨by dsimp only; omega, by dsimp only; omega⟩, ⟨by dsimp only; omega, by dsimp only; omega⟩, by have := markB_size (s + i * 5 + 1 + 1 + 1); simp only [maxLen]; omega, by have := markB_size (s + i * 5 + 1 + 1 + 1 + 1); simp only [maxLen]; omega⟩
set_option maxRecDepth 100000 in
set_option maxHeartbeats 1000000 in
theorem markStepS_c {e : TypeId} {xs : List PStep} {v : Value} {F : List Nat} (w : World) (h : (pSteps e).rep true w xs [v] F) (hx : xs.length ≤ 1048576) (s : Nat) (hs0 : 0 < s) (hs : s ≤ 10000000) :
 Calls Tryz.prog 101 #[v, .int .i64 s] w fun e' w' => e' = .returned (.int .i64 ((s : Int) + (xs.length : Int) * 5)) ∧ (pSteps e).rep true w' (markPStep xs.length s) [v] F ∧ Only F w w' := by
 by_cases hn : xs.length = 0
 · obtain ⟨A, c, hv, hc1, hc2, hr⟩ := slice_open h
   have hxs : xs = [] := List.eq_nil_of_length_eq_zero hn
   have h' : (pSteps e).rep true w (markPStep xs.length s) [v] F := by rw [hn]; rw [hxs] at h; exact h
   rw [hn] at hv
   subst hv
   rw [hn] at h' ⊢
   clear hn hr h hx hc1
   go_enter Tryz.func101, Tryz.ntmps101
   go_wp2_with fail
   refine wp_loop_rounds 1 ?_; rw [rounds_succ]
   go_wp2_with fail
   go_ret
   exact ⟨ret_int (by omega), h', Only.refl _ _⟩
 · obtain ⟨g, c, cs, rest, G, rfl, hl, hc, hrow, hrp, hlen, rfl⟩ := row_of_slice h (by omega)
   obtain ⟨rfl, rfl⟩ := repL_pStep_inv hrp
   have hgl := hrow.lt
   clear hrp h
   go_enter Tryz.func101, Tryz.ntmps101
   go_wp2_with fail
   go_loopw [1, 5] (fun m i wr => ∃ k : Nat, k ≤ xs.length ∧ i = .int .i64 k ∧ m = .int .i64 ((s : Int) + (k : Int) * 5) ∧ Row wr g e ((markPStep k s).flatMap pStepCells ++ ((xs.drop k).flatMap pStepCells ++ rest)) ∧ Only [g] w wr) (fun _ i _ => xs.length - (intOf i).toNat)
   case atStart => exact ⟨0, Nat.zero_le _, rfl, by simp, by simpa [markPStep] using hrow, Only.refl _ _⟩
   case round =>
    obtain ⟨k, hk, rfl, rfl, hrk, hb⟩ := hrel
    have hbs := hb.size
    by_cases hlt : k < xs.length
    · have hpl : ((markPStep k s).flatMap pStepCells).length = k * 5 := by rw [pStepCells_len, markPStep_len]
      have hgw : g < wr.heap.size := hrk.lt
      rw [List.drop_eq_getElem_cons hlt, List.flatMap_cons] at hrk
      have HP := Lib.hid hpl
      have HN := Lib.hid hn
      have HE := Lib.hid hlen
      have HR := Lib.hid hrk
      clear hpl hn hlen hrow hrk
      have R0 := HR.out
      obtain ⟨⟨v0, hv0⟩, hf0⟩ := Row.canJ R0 (i := k * 5) (j := 0) (by rw [HP.out]; rfl) (by simp [pStepCells])
      have R1 := Row.put R0 (i := k * 5) (j := 0) (by rw [HP.out]; rfl) (.int .i64 ((s : Int) + (k : Int) * 5))
      obtain ⟨⟨v1, hv1⟩, hf1⟩ := Row.canJ R1 (i := k * 5 + 1) (j := 1) (by rw [HP.out]) (by simp [pStepCells])
      have R2 := Row.put R1 (i := k * 5 + 1) (j := 1) (by rw [HP.out]) (.int .i64 ((s : Int) + (k : Int) * 5 + 1))
      obtain ⟨⟨v2, hv2⟩, hf2⟩ := Row.canJ R2 (i := k * 5 + 2) (j := 2) (by rw [HP.out]) (by simp [pStepCells])
      have R3 := Row.put R2 (i := k * 5 + 2) (j := 2) (by rw [HP.out]) (.int .i64 ((s : Int) + (k : Int) * 5 + 1 + 1))
      go_wp2_with fail
      refine (markText_i _ _ (by omega) (by omega)).mono ?_
      rintro e' w3 ⟨rfl, hb3⟩
      have S3 := Row.later R3 hb3
      have R4 := S3
      clear S3
      obtain ⟨⟨v3, hv3⟩, hf3⟩ := Row.canJ R4 (i := k * 5 + 3) (j := 3) (by rw [HP.out]) (by simp [pStepCells])
      have R5 := Row.put R4 (i := k * 5 + 3) (j := 3) (by rw [HP.out]) (.string (markB (s + k * 5 + 1 + 1 + 1)))
      go_wp2_with fail
      refine (markText_i _ _ (by omega) (by omega)).mono ?_
      rintro e' w4 ⟨rfl, hb4⟩
      have S5 := Row.later R5 hb4
      have R6 := S5
      clear S5
      obtain ⟨⟨v4, hv4⟩, hf4⟩ := Row.canJ R6 (i := k * 5 + 4) (j := 4) (by rw [HP.out]) (by simp [pStepCells])
      have R7 := Row.put R6 (i := k * 5 + 4) (j := 4) (by rw [HP.out]) (.string (markB (s + k * 5 + 1 + 1 + 1 + 1)))
      have HZ := Lib.hid R7
      clear R0 R1 R2 R3 R4 R5 R6 R7
      go_wp2_with fail
      go_roundw
      case rel =>
       refine ⟨k + 1, by omega, by go_num, by go_num, ?_, (((((((hb.set (by simp) _).set (by simp) _).set (by simp) _).trans (Only.of_below hb3)).set (by simp) _).trans (Only.of_below hb4)).set (by simp) _)⟩
       have R := HZ.out
       rw [markPStep_succ, List.flatMap_append, List.append_assoc]
       exact R
      case measure => simp [intOf]; omega
    · obtain rfl : k = xs.length := by omega
      have HN := Lib.hid hn
      clear hn
      go_wp2_with fail
      go_ret
      rw [List.drop_length, List.flatMap_nil, List.nil_append] at hrk
      exact ⟨rfl, slice_of_room hrk (repL_pStep _ (markPStep_ok _ _ hx hs)) (by simp [markPStep]) hl hc (by rw [← hlen, List.length_append, List.length_append, pStepCells_len, pStepCells_len, markPStep_len]), hb⟩
set_option maxRecDepth 100000 in
set_option maxHeartbeats 1000000 in
theorem heldStepS_c {o : Bool} {e : TypeId} {n : Nat} {v : Value} {F : List Nat} (w : World) (s : Nat) (h : (pSteps e).rep o w (markPStep n s) [v] F) (hx : n ≤ 1048576) (hs0 : 0 < s) (hs : s ≤ 10000000) :
 Calls Tryz.prog 103 #[v, .int .i64 s] w fun e' w' => e' = .returned (.int .i64 ((s : Int) + (n : Int) * 5)) ∧ Below w.heap.size w w' := by
 obtain ⟨A, c, rfl, hc1, hc2, hr⟩ := pSteps_open h
 have hn := markPStep_len n s
 rw [hn] at hc1 ⊢
 have hr' : ∀ k, k < n → ∃ b off, A = some ⟨b, off, none⟩ ∧ b < w.heap.size ∧ w.cell? ⟨b, off + k * 5, none⟩ = some (.int .i64 ((s : Int) + (k : Int) * 5)) ∧ w.cell? ⟨b, off + k * 5 + 1, none⟩ = some (.int .i64 ((s : Int) + (k : Int) * 5 + 1)) ∧ w.cell? ⟨b, off + k * 5 + 2, none⟩ = some (.int .i64 ((s : Int) + (k : Int) * 5 + 1 + 1)) ∧ w.cell? ⟨b, off + k * 5 + 3, none⟩ = some (.string (markB (s + k * 5 + 1 + 1 + 1))) ∧ w.cell? ⟨b, off + k * 5 + 4, none⟩ = some (.string (markB (s + k * 5 + 1 + 1 + 1 + 1))) := by
  intro k hk
  obtain ⟨b, off, hA, hb, _, c0, c1, c2, c3, c4, _⟩ := hr k (by rw [hn]; exact hk)
  have e : (markPStep n s)[k]'(by rw [hn]; exact hk) = ⟨(s : Int) + (k : Int) * 5, (s : Int) + (k : Int) * 5 + 1, (s : Int) + (k : Int) * 5 + 1 + 1, markB (s + k * 5 + 1 + 1 + 1), markB (s + k * 5 + 1 + 1 + 1 + 1)⟩ := by simp [markPStep]
  rw [e] at c0 c1 c2 c3 c4
  exact ⟨b, off, hA, hb, c0, c1, c2, c3, c4⟩
 clear hr h hn
 go_enter Tryz.func103, Tryz.ntmps103
 go_wp2_with fail
 go_loopw [1, 5] (fun m i wr => ∃ k : Nat, k ≤ n ∧ i = .int .i64 k ∧ m = .int .i64 ((s : Int) + (k : Int) * 5) ∧ Below w.heap.size w wr) (fun _ i _ => n - (intOf i).toNat)
 case atStart => exact ⟨0, Nat.zero_le _, rfl, by simp, Below.refl _ _⟩
 case round =>
  obtain ⟨k, hk, rfl, rfl, hb⟩ := hrel
  have hbs := hb.size
  by_cases hlt : k < n
  · obtain ⟨b, off, rfl, hbb, c0, c1, c2, c3, c4⟩ := hr' k hlt
    have hbw : b < wr.heap.size := by omega
    rw [← hb.cell (p := ⟨b, _, none⟩) hbb] at c0 c1 c2 c3 c4
    clear hr'
    go_wp2_with fail
    go_region_held3 (fun w' => w'.cell? ⟨b, off + k * 5 + 3, none⟩ = some (.string (markB (s + k * 5 + 1 + 1 + 1)))) (first | exact c3 | exact (Below.cell (p := ⟨b, _, none⟩) hb3 (by simpa using hbw)).trans c3) (first | (go_at_call 133; refine (markText_i _ _ (by omega) (by omega)).mono ?_; rintro e' w3 ⟨rfl, hb3⟩))
    have c4 := (Below.cell (p := ⟨b, _, none⟩) hb3 (by simpa using hbw)).trans c4
    have hbw : b < w3.heap.size := by have := hb3.size; simp at this; omega
    have ek3 : ((s : Int) + (k : Int) * 5 + 1 + 1 + 1).toNat = s + k * 5 + 1 + 1 + 1 := by omega
    try rw [ek3]
    clear ek3
    go_wp2_with fail
    · exact absurd rfl (str_ne (a := markB (s + k * 5 + 1 + 1 + 1)) (b := markB (s + k * 5 + 1 + 1 + 1)) (by assumption))
    go_wp2_with fail
    go_region_held3 (fun w' => w'.cell? ⟨b, off + k * 5 + 4, none⟩ = some (.string (markB (s + k * 5 + 1 + 1 + 1 + 1)))) (first | exact c4 | exact (Below.cell (p := ⟨b, _, none⟩) hb4 (by simpa using hbw)).trans c4) (first | (go_at_call 133; refine (markText_i _ _ (by omega) (by omega)).mono ?_; rintro e' w4 ⟨rfl, hb4⟩))
    have hbw : b < w4.heap.size := by have := hb4.size; simp at this; omega
    have ek4 : ((s : Int) + (k : Int) * 5 + 1 + 1 + 1 + 1).toNat = s + k * 5 + 1 + 1 + 1 + 1 := by omega
    try rw [ek4]
    clear ek4
    go_wp2_with fail
    · exact absurd rfl (str_ne (a := markB (s + k * 5 + 1 + 1 + 1 + 1)) (b := markB (s + k * 5 + 1 + 1 + 1 + 1)) (by assumption))
    go_roundw
    case rel => exact ⟨k + 1, by omega, by go_num, by go_num, ((hb.drew.trans (hb3.mono (by have := hb.size;  simp; omega))).drew.trans (hb4.mono (by have := hb.size; have := hb3.size; simp at this; simp; omega)))⟩
    case measure => simp [intOf]; omega
  · obtain rfl : k = n := by omega
    go_wp2_with fail
    go_ret
    exact ⟨rfl, hb⟩
end Go.Proofs.YtkfadfddhbpngaaGreat

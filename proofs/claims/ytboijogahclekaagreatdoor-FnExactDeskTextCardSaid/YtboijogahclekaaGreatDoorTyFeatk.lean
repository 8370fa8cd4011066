/- The type Feat: its data, how it lies in memory, and the law's own helpers over it. Conditions: none. -/
import Derived.Test.YtboijogahclekaaGreatDoorRows
import Derived.Test.YtboijogahclekaaGreatDoorStrSk
namespace Go.Proofs.YtboijogahclekaaGreatDoor
open Go Go.RowKit
structure PFeat where
 x : Int
 y : Int
 d : Int
 deriving DecidableEq
def pFeat : Ty PFeat := (int64.prod (int64.prod int64)).via fun s => (s.x, s.y, s.d)
theorem pFeat_rep {o : Bool} {w : World} {s : PFeat} {cs : List Value} {F : List Nat} : pFeat.rep o w s cs F ↔ cs = [.int .i64 s.x, .int .i64 s.y, .int .i64 s.d] ∧ F = [] ∧ I64 s.x ∧ I64 s.y ∧ I64 s.d := by
 constructor
 · rintro ⟨_, _, _, _, rfl, rfl, ⟨rfl, rfl, h0⟩, ⟨_, _, _, _, rfl, rfl, ⟨rfl, rfl, h1⟩, ⟨rfl, rfl, h2⟩⟩⟩
   exact ⟨rfl, rfl, h0, h1, h2⟩
 · rintro ⟨rfl, rfl, h0, h1, h2⟩
   exact ⟨_, _, [], [], rfl, rfl, ⟨rfl, rfl, h0⟩, ⟨_, _, [], [], rfl, rfl, ⟨rfl, rfl, h1⟩, ⟨rfl, rfl, h2⟩⟩⟩
def pFeats (e : TypeId) : Ty (List PFeat) := pFeat.slice e
theorem pFeats_open {o : Bool} {w : World} {e : TypeId} {xs : List PFeat} {v : Value} {F : List Nat} (h : (pFeats e).rep o w xs [v] F) :
 ∃ A c, v = .slice A xs.length c ∧ xs.length ≤ c ∧ c ≤ maxLen ∧ ∀ k (hk : k < xs.length), ∃ b off, A = some ⟨b, off, none⟩ ∧ b < w.heap.size ∧ b ∈ F ∧
  w.cell? ⟨b, off + k * 3, none⟩ = some (.int .i64 xs[k].x) ∧ w.cell? ⟨b, off + k * 3 + 1, none⟩ = some (.int .i64 xs[k].y) ∧ w.cell? ⟨b, off + k * 3 + 2, none⟩ = some (.int .i64 xs[k].d) ∧ I64 xs[k].x ∧ I64 xs[k].y ∧ I64 xs[k].d := by
 obtain ⟨A, c, hv, h1, h2, h3⟩ := slice_open h
 refine ⟨A, c, hv, h1, h2, fun k hk => ?_⟩
 obtain ⟨b, off, ck, Fk, hA, hb, hin, hr, _, hc⟩ := h3 k hk
 obtain ⟨rfl, rfl, i0, i1, i2⟩ := pFeat_rep.1 hr
 exact ⟨b, off, hA, hb, hin, hc 0 _ rfl, by rw [Nat.add_assoc]; exact hc 1 _ rfl, by rw [Nat.add_assoc]; exact hc 2 _ rfl, i0, i1, i2⟩
def pFeatCells (s : PFeat) : List Value := [.int .i64 s.x, .int .i64 s.y, .int .i64 s.d]
def pFeatOk (s : PFeat) : Prop := I64 s.x ∧ I64 s.y ∧ I64 s.d
theorem pFeatCells_len (xs : List PFeat) : (xs.flatMap pFeatCells).length = xs.length * 3 := by
 induction xs with
 | nil => rfl
 | cons a r ih => simp only [List.flatMap_cons, List.length_append, ih, List.length_cons]; simp [pFeatCells]; omega
theorem repL_pFeat {o : Bool} {w : World} : ∀ (xs : List PFeat), (∀ s ∈ xs, pFeatOk s) → repL pFeat o w xs (xs.flatMap pFeatCells) []
 | [], _ => ⟨rfl, rfl⟩
 | s :: r, h => ⟨_, _, [], [], rfl, rfl, pFeat_rep.2 ⟨rfl, rfl, h s (by simp)⟩, repL_pFeat r (fun t ht => h t (by simp [ht]))⟩
theorem pFeats_ok {o : Bool} {w : World} {e : TypeId} {xs : List PFeat} {v : Value} {F : List Nat} (h : (pFeats e).rep o w xs [v] F) : ∀ s ∈ xs, pFeatOk s := by
 obtain ⟨_, _, _, _, _, hr⟩ := pFeats_open h
 intro s hs
 obtain ⟨k, hk, rfl⟩ := List.getElem_of_mem hs
 obtain ⟨_, _, _, _, _, _, _, _, h⟩ := hr k hk
 exact h
set_option maxHeartbeats 400000 in
theorem toFeat_c (s : PFeat) (w : World) :
 Calls Tryz.prog 183 #[.agg #[.int .i64 s.x, .int .i64 s.y, .int .i64 s.d]] w fun e w' => e = .returned (.agg #[.int .i64 s.x, .int .i64 s.y, .int .i64 s.d]) ∧ Below w.heap.size w w' := by
 go_enter Tryz.func183, Tryz.ntmps183
 go_wp2_with fail
 refine bodyPost_ret (v := .agg #[.int .i64 s.x, .int .i64 s.y, .int .i64 s.d]) (by simp [results, Tryz.results183, go_sem]) rfl ⟨rfl, ?_⟩
 exact (((Below.refl _ _).alloc (Nat.le_refl _) _).alloc (by simp) _).alloc (by simp; omega) _
set_option maxHeartbeats 1000000 in
theorem toFeatS_c {o : Bool} {e : TypeId} {xs : List PFeat} {v : Value} {F : List Nat} (w : World) (h : (pFeats e).rep o w xs [v] F) (hx : xs.length ≤ 1048576) :
 Calls Tryz.prog 168 #[v] w fun e w' => ∃ u G, e = .returned u ∧ (pFeats 282).rep true w' xs [u] G ∧ Fresh w.heap.size G ∧ Below w.heap.size w w' := by
 have hok := pFeats_ok h
 obtain ⟨A, c, rfl, hc1, hc2, hr⟩ := pFeats_open h
 have hmk := make_run (P := Tryz.prog) (t := 237) (e := 282) (z := .agg #[.int .i64 0, .int .i64 0, .int .i64 0]) (size := 3) (bytes := 24) Tryz.underlying237 (by kernel_rfl) xs.length xs.length rfl (by omega) (by unfold maxLen; omega)
 go_enter Tryz.func168, Tryz.ntmps168
 go_wp2_with fail
 go_loopw [4] (fun i wr => ∃ k : Nat, k ≤ xs.length ∧ i = .int .i64 k ∧ ∃ rest, Row wr w.heap.size 282 ((xs.take k).flatMap pFeatCells ++ rest) ∧ rest.length = (xs.length - k) * 3 ∧ Below w.heap.size w wr) (fun i _ => xs.length - (intOf i).toNat)
 case atStart =>
  exact ⟨0, Nat.zero_le _, rfl, _, Row.new w _ _, by simp [madeCells], (Below.refl _ _).alloc (Nat.le_refl _) _⟩
 case round =>
  obtain ⟨k, hk, rfl, rest, hrow, hrl, hb⟩ := hrel
  by_cases hlt : k < xs.length
  · obtain ⟨b, off, rfl, hbb, _, h0, h1, h2, _⟩ := hr k hlt
    rw [← hb.cell (p := ⟨b, _, none⟩) hbb] at h0 h1 h2
    have hbs := hb.size
    have hrl2 := hrow.lt
    have hpl : ((xs.take k).flatMap pFeatCells).length = k * 3 := by rw [pFeatCells_len, List.length_take]; omega
    obtain ⟨r0, r1, r2, rest', rfl⟩ : ∃ r0 r1 r2 rest', rest = r0 :: r1 :: r2 :: rest' := by
     match rest, hrl with
     | r0 :: r1 :: r2 :: rest', _ => exact ⟨_, _, _, _, rfl⟩
     | [], h => simp at h; omega
     | [_], h => simp at h; omega
     | [_, _], h => simp at h; omega
    clear hr h hmk
    go_wp2_with (go_at_call 183; refine (toFeat_c xs[k] _).mono ?_; rintro e w1 ⟨rfl, hb1⟩; have hrow1 := hrow.later hb1; obtain ⟨⟨v0, hv0⟩, hf0⟩ := hrow1.can (i := k * 3) (by simp [hpl]); obtain ⟨⟨v1, hv1⟩, hf1⟩ := hrow1.can (i := k * 3 + 1) (by simp [hpl]); obtain ⟨⟨v2, hv2⟩, hf2⟩ := hrow1.can (i := k * 3 + 2) (by simp [hpl]))
    go_roundw
    case rel =>
     refine ⟨k + 1, by omega, by go_num, rest', ?_, by simp at hrl; omega, ((((hb.trans (hb1.mono hbs)).setCell (Nat.le_refl _) _).setCell (Nat.le_refl _) _).setCell (Nat.le_refl _) _)⟩
     have R := (((hrow1.put (j := 0) (i := k * 3) (by rw [hpl]; rfl) (.int .i64 xs[k].x)).put (j := 1) (i := k * 3 + 1) (by rw [hpl]) (.int .i64 xs[k].y)).put (j := 2) (i := k * 3 + 2) (by rw [hpl]) (.int .i64 xs[k].d))
     rw [List.take_succ_eq_append_getElem hlt, List.flatMap_append, List.append_assoc]
     exact R
    case measure => simp [intOf]; omega
  · obtain rfl : k = xs.length := by omega
    go_wp2_with fail
    go_ret
    have h0 : rest = [] := List.eq_nil_of_length_eq_zero (by simpa using hrl)
    subst h0
    rw [List.append_nil, List.take_length] at hrow
    exact ⟨_, [w.heap.size], rfl, slice_of_row hrow (repL_pFeat xs hok) (by unfold maxLen; omega), ⟨by simp, by simp⟩, hb⟩
set_option maxHeartbeats 400000 in
theorem eqFeat_c (s t : PFeat) (w : World) :
 Calls Tryz.prog 189 #[.agg #[.int .i64 s.x, .int .i64 s.y, .int .i64 s.d], .agg #[.int .i64 t.x, .int .i64 t.y, .int .i64 t.d]] w fun e w' => e = .returned (.bool (decide (s = t))) ∧ Below w.heap.size w w' := by
 have e : decide (s = t) = decide (s.x = t.x ∧ s.y = t.y ∧ s.d = t.d) := by apply decide_eq_decide.2; cases s; cases t; simp
 rw [e]
 clear e
 go_enter Tryz.func189, Tryz.ntmps189
 go_wp2_with fail
 all_goals go_ret
 all_goals refine ⟨?_, ((Below.refl _ _).alloc (Nat.le_refl _) _).alloc (by simp) _⟩
 all_goals simp_all
set_option maxRecDepth 100000 in
set_option maxHeartbeats 1000000 in
theorem eqFeatS_c {oa ob : Bool} {ea eb : TypeId} {xs ys : List PFeat} {v u : Value} {F G : List Nat} (w : World) (h : (pFeats ea).rep oa w xs [v] F) (h' : (pFeats eb).rep ob w ys [u] G) (hx : xs.length ≤ 1048576) (hy : ys.length ≤ 1048576) :
 Calls Tryz.prog 180 #[v, u] w fun e w' => e = .returned (.bool (decide (xs = ys))) ∧ Below w.heap.size w w' := by
 obtain ⟨A, c, rfl, hc1, hc2, hr⟩ := pFeats_open h
 obtain ⟨B, d, rfl, hd1, hd2, hs⟩ := pFeats_open h'
 clear h h'
 by_cases hl : xs.length = ys.length
 · have hne : ((xs.length : Int) != (ys.length : Int)) = false := by simp [hl]
   have HL := Lib.hid hl
   clear hl
   go_enter Tryz.func180, Tryz.ntmps180
   go_wp2_with fail
   go_loopw [5] (fun i wr => ∃ k : Nat, k ≤ xs.length ∧ i = .int .i64 k ∧ (∀ j (hj : j < xs.length) (hj' : j < ys.length), j < k → xs[j] = ys[j]) ∧ Below w.heap.size w wr) (fun i _ => xs.length - (intOf i).toNat)
   case atStart => exact ⟨0, Nat.zero_le _, rfl, fun _ _ _ h => by omega, Below.refl _ _⟩
   case round =>
    obtain ⟨k, hk, rfl, hall, hb⟩ := hrel
    have hbs := hb.size
    by_cases hlt : k < xs.length
    · have hlt' : k < ys.length := by have := HL.out; omega
      obtain ⟨b, off, rfl, hbb, _, h0, h1, h2, _⟩ := hr k hlt
      obtain ⟨b', off', rfl, hbb', _, g0, g1, g2, _⟩ := hs k hlt'
      rw [← hb.cell (p := ⟨b, _, none⟩) hbb] at h0 h1 h2
      rw [← hb.cell (p := ⟨b', _, none⟩) hbb'] at g0 g1 g2
      have HA := Lib.hid hall
      clear hr hs hall
      have C := eqFeat_c xs[k] ys[k]
      by_cases hkk : xs[k] = ys[k]
      · rw [decide_eq_true hkk] at C
        have HC := Lib.hid C
        have HK := Lib.hid hkk
        clear C hkk
        go_wp2_with fail
        go_still_tail 8, (by kernel_rfl)
        go_wp2_with (go_at_call 189; refine (HC.out _).mono ?_; rintro e w1 ⟨rfl, hb1⟩)
        go_roundw
        case rel =>
         refine ⟨k + 1, by omega, by go_num, fun j hj hj' hjk => ?_, hb.drew.trans (hb1.mono hbs)⟩
         by_cases e : j = k
         · subst e; exact HK.out
         · exact HA.out j hj hj' (by omega)
        case measure => simp [intOf]; omega
      · rw [decide_eq_false hkk] at C
        have HC := Lib.hid C
        have HK := Lib.hid hkk
        clear C hkk
        go_wp2_with fail
        go_still_tail 8, (by kernel_rfl)
        go_wp2_with (go_at_call 189; refine (HC.out _).mono ?_; rintro e w1 ⟨rfl, hb1⟩)
        go_ret
        have hne : ¬ xs = ys := fun e => by subst e; exact HK.out rfl
        exact ⟨by simp [hne], hb.drew.trans (hb1.mono hbs)⟩
    · obtain rfl : k = xs.length := by omega
      have heq : xs = ys := List.ext_getElem HL.out (fun j h1 h2 => hall j h1 h2 h1)
      clear hall
      go_wp2_with fail
      go_ret
      exact ⟨by simp [heq], hb⟩
 · have hne : ((xs.length : Int) != (ys.length : Int)) = true := by rw [bne_iff_ne]; omega
   have hxy : ¬ xs = ys := fun e => hl (by rw [e])
   have HL := Lib.hid hxy
   clear hl hxy
   go_enter Tryz.func180, Tryz.ntmps180
   go_wp2_with fail
   go_ret
   exact ⟨by simp [HL.out], Below.refl _ _⟩
set_option maxHeartbeats 400000 in
theorem szFeatS_c {o : Bool} {e : TypeId} {xs : List PFeat} {v : Value} {F : List Nat} (w : World) (h : (pFeats e).rep o w xs [v] F) (left : Int) (hl : 0 ≤ left ∧ left ≤ 1048576) :
 Calls Tryz.prog 164 #[v, .int .i64 left] w fun e w' => (∃ r : Int, e = .returned (.int .i64 r) ∧ -1 ≤ r ∧ r ≤ left ∧ (0 ≤ r → r + xs.length ≤ left)) ∧ Below w.heap.size w w' := by
 obtain ⟨A, c, rfl, hc1, hc2, hr⟩ := pFeats_open h
 clear hr h
 unfold maxLen at hc2
 go_enter Tryz.func164, Tryz.ntmps164
 go_wp2_with fail
 all_goals go_ret
 all_goals exact ⟨⟨_, rfl, by omega⟩, Below.refl _ _⟩
end Go.Proofs.YtboijogahclekaaGreatDoor

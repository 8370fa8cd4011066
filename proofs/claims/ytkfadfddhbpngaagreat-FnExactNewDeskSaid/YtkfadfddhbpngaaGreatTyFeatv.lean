/- The type Feat: its data, how it lies in memory, and the law's own helpers over it. Conditions: none. -/
import Derived.Test.YtkfadfddhbpngaaGreatRows
import Derived.Test.YtkfadfddhbpngaaGreatStrSv
namespace Go.Proofs.YtkfadfddhbpngaaGreat
open Go Go.RowKit

structure PFeat where
 x : Int
 y : Int
 d : Int
 deriving DecidableEq

def pFeat : Ty PFeat := (int64.prod (int64.prod int64)).via fun s => (s.x, s.y, s.d)
theorem pFeat_rep {o : Bool} {w : World} {s : PFeat} {cs : List Value} {F : List Nat} : pFeat.rep o w s cs F ↔ cs = [.int .i64 s.x, .int .i64 s.y, .int .i64 s.d] ∧ F = [] ∧ I64 s.x ∧ I64 s.y ∧ I64 s.d := by
 constructor
 · rintro ⟨_, _, _, _, rfl, rfl, ⟨rfl, rfl, h0⟩, ⟨_, _, _, _, rfl, rfl, ⟨rfl, rfl, h1⟩, ⟨rfl, rfl, h2⟩⟩⟩
   exact ⟨rfl, rfl, h0, h1, h2⟩
 · rintro ⟨rfl, rfl, h0, h1, h2⟩
   exact ⟨_, _, [], [], rfl, rfl, ⟨rfl, rfl, h0⟩, ⟨_, _, [], [], rfl, rfl, ⟨rfl, rfl, h1⟩, ⟨rfl, rfl, h2⟩⟩⟩
def pFeats (e : TypeId) : Ty (List PFeat) := pFeat.slice e
theorem pFeats_open {o : Bool} {w : World} {e : TypeId} {xs : List PFeat} {v : Value} {F : List Nat} (h : (pFeats e).rep o w xs [v] F) :
 ∃ A c, v = .slice A xs.length c ∧ xs.length ≤ c ∧ c ≤ maxLen ∧ ∀ k (hk : k < xs.length), ∃ b off, A = some ⟨b, off, none⟩ ∧ b < w.heap.size ∧ b ∈ F ∧
  w.cell? ⟨b, off + k * 3, none⟩ = some (.int .i64 xs[k].x) ∧ w.cell? ⟨b, off + k * 3 + 1, none⟩ = some (.int .i64 xs[k].y) ∧ w.cell? ⟨b, off + k * 3 + 2, none⟩ = some (.int .i64 xs[k].d) ∧ I64 xs[k].x ∧ I64 xs[k].y ∧ I64 xs[k].d := by
 obtain ⟨A, c, hv, h1, h2, h3⟩ := slice_open h
 refine ⟨A, c, hv, h1, h2, fun k hk => ?_⟩
 obtain ⟨b, off, ck, Fk, hA, hb, hin, hr, _, hc⟩ := h3 k hk
 obtain ⟨rfl, rfl, i0, i1, i2⟩ := pFeat_rep.1 hr
 exact ⟨b, off, hA, hb, hin, hc 0 _ rfl, by rw [Nat.add_assoc]; exact hc 1 _ rfl, by rw [Nat.add_assoc]; exact hc 2 _ rfl, i0, i1, i2⟩
def pFeatCells (s : PFeat) : List Value := [.int .i64 s.x, .int .i64 s.y, .int .i64 s.d]
def pFeatOk (s : PFeat) : Prop := I64 s.x ∧ I64 s.y ∧ I64 s.d
theorem pFeatCells_len (xs : List PFeat) : (xs.flatMap pFeatCells).length = xs.length * 3 := by
 induction xs with
 | nil => rfl
 | cons a r ih => simp only [List.flatMap_cons, List.length_append, ih, List.length_cons]; simp [pFeatCells]; omega
theorem repL_pFeat {o : Bool} {w : World} : ∀ (xs : List PFeat), (∀ s ∈ xs, pFeatOk s) → repL pFeat o w xs (xs.flatMap pFeatCells) []
 | [], _ => ⟨rfl, rfl⟩
 | s :: r, h => ⟨_, _, [], [], rfl, rfl, pFeat_rep.2 ⟨rfl, rfl, h s (by simp)⟩, repL_pFeat r (fun t ht => h t (by simp [ht]))⟩
theorem repL_pFeat_inv {o : Bool} {w : World} : ∀ {xs : List PFeat} {cs : List Value} {F : List Nat}, repL pFeat o w xs cs F → cs = xs.flatMap pFeatCells ∧ F = []
 | [], _, _, ⟨rfl, rfl⟩ => ⟨rfl, rfl⟩
 | s :: r, _, _, ⟨c1, c2, F1, F2, rfl, rfl, h1, h2⟩ => by
  obtain ⟨rfl, rfl, _⟩ := pFeat_rep.1 h1
  obtain ⟨rfl, rfl⟩ := repL_pFeat_inv h2
  exact ⟨rfl, rfl⟩
set_option maxHeartbeats 400000 in
theorem eqFeat_c (s t : PFeat) (w : World) :
 Calls Tryz.prog 240 #[.agg #[.int .i64 s.x, .int .i64 s.y, .int .i64 s.d], .agg #[.int .i64 t.x, .int .i64 t.y, .int .i64 t.d]] w fun e w' => e = .returned (.bool (decide (s = t))) ∧ Below w.heap.size w w' := by
 have e : decide (s = t) = decide (s.x = t.x ∧ s.y = t.y ∧ s.d = t.d) := by apply decide_eq_decide.2; cases s; cases t; simp
 rw [e]
 clear e
 go_enter Tryz.func240, Tryz.ntmps240
 go_wp2_with fail
 all_goals go_ret
 all_goals refine ⟨?_, ((Below.refl _ _).alloc (Nat.le_refl _) _).alloc (by simp) _⟩
 all_goals simp_all
set_option maxRecDepth 100000 in
set_option maxHeartbeats 1000000 in
theorem eqFeatS_c {oa ob : Bool} {ea eb : TypeId} {xs ys : List PFeat} {v u : Value} {F G : List Nat} (w : World) (h : (pFeats ea).rep oa w xs [v] F) (h' : (pFeats eb).rep ob w ys [u] G) (hx : xs.length ≤ 1048576) (hy : ys.length ≤ 1048576) :
 Calls Tryz.prog 221 #[v, u] w fun e w' => e = .returned (.bool (decide (xs = ys))) ∧ Below w.heap.size w w' := by
 obtain ⟨A, c, rfl, hc1, hc2, hr⟩ := pFeats_open h
 obtain ⟨B, d, rfl, hd1, hd2, hs⟩ := pFeats_open h'
 clear h h'
 by_cases hl : xs.length = ys.length
 · have hne : ((xs.length : Int) != (ys.length : Int)) = false := by simp [hl]
   have HL := Lib.hid hl
   clear hl
   go_enter Tryz.func221, Tryz.ntmps221
   go_wp2_with fail
   go_loopw [5] (fun i wr => ∃ k : Nat, k ≤ xs.length ∧ i = .int .i64 k ∧ (∀ j (hj : j < xs.length) (hj' : j < ys.length), j < k → xs[j] = ys[j]) ∧ Below w.heap.size w wr) (fun i _ => xs.length - (intOf i).toNat)
   case atStart => exact ⟨0, Nat.zero_le _, rfl, fun _ _ _ h => by omega, Below.refl _ _⟩
   case round =>
    obtain ⟨k, hk, rfl, hall, hb⟩ := hrel
    have hbs := hb.size
    by_cases hlt : k < xs.length
    · have hlt' : k < ys.length := by have := HL.out; omega
      obtain ⟨b, off, rfl, hbb, _, h0, h1, h2, _⟩ := hr k hlt
      obtain ⟨b', off', rfl, hbb', _, g0, g1, g2, _⟩ := hs k hlt'
      rw [← hb.cell (p := ⟨b, _, none⟩) hbb] at h0 h1 h2
      rw [← hb.cell (p := ⟨b', _, none⟩) hbb'] at g0 g1 g2
      have HA := Lib.hid hall
      clear hr hs hall
      have C := eqFeat_c xs[k] ys[k]
      by_cases hkk : xs[k] = ys[k]
      · rw [decide_eq_true hkk] at C
        have HC := Lib.hid C
        have HK := Lib.hid hkk
        clear C hkk
        go_wp2_with fail
        go_still_tail 8, (by kernel_rfl)
        go_wp2_with (go_at_call 240; refine (HC.out _).mono ?_; rintro e w1 ⟨rfl, hb1⟩)
        go_roundw
        case rel =>
         refine ⟨k + 1, by omega, by go_num, fun j hj hj' hjk => ?_, hb.drew.trans (hb1.mono hbs)⟩
         by_cases e : j = k
         · subst e; exact HK.out
         · exact HA.out j hj hj' (by omega)
        case measure => simp [intOf]; omega
      · rw [decide_eq_false hkk] at C
        have HC := Lib.hid C
        have HK := Lib.hid hkk
        clear C hkk
        go_wp2_with fail
        go_still_tail 8, (by kernel_rfl)
        go_wp2_with (go_at_call 240; refine (HC.out _).mono ?_; rintro e w1 ⟨rfl, hb1⟩)
        go_ret
        have hne : ¬ xs = ys := fun e => by subst e; exact HK.out rfl
        exact ⟨by simp [hne], hb.drew.trans (hb1.mono hbs)⟩
    · obtain rfl : k = xs.length := by omega
      have heq : xs = ys := List.ext_getElem HL.out (fun j h1 h2 => hall j h1 h2 h1)
      clear hall
      go_wp2_with fail
      go_ret
      exact ⟨by simp [heq], hb⟩
 · have hne : ((xs.length : Int) != (ys.length : Int)) = true := by rw [bne_iff_ne]; omega
   have hxy : ¬ xs = ys := fun e => hl (by rw [e])
   have HL := Lib.hid hxy
   clear hl hxy
   go_enter Tryz.func221, Tryz.ntmps221
   go_wp2_with fail
   go_ret
   exact ⟨by simp [HL.out], Below.refl _ _⟩
/-- The marks from number s on. -/
def markPFeat (n s : Nat) : List PFeat := (List.range n).map fun i : Nat => ⟨(s : Int) + (i : Int) * 3, (s : Int) + (i : Int) * 3 + 1, (s : Int) + (i : Int) * 3 + 1 + 1⟩
theorem markPFeat_len (n s : Nat) : (markPFeat n s).length = n := by simp [markPFeat]
theorem markPFeat_succ (n s : Nat) : markPFeat (n + 1) s = markPFeat n s ++ [⟨(s : Int) + (n : Int) * 3, (s : Int) + (n : Int) * 3 + 1, (s : Int) + (n : Int) * 3 + 1 + 1⟩] := by simp [markPFeat, List.range_succ]
theorem markPFeat_ok (n s : Nat) (hn : n ≤ 1048576) (hs : s ≤ 10000000) : ∀ x ∈ markPFeat n s, pFeatOk x := by
 intro x hx
 obtain ⟨i, hi, rfl⟩ := List.mem_map.1 hx
 have hi' : i < n := by simpa using hi
 refine ⟨⟨by dsimp only; omega, by dsimp only; omega⟩, ⟨by dsimp only; omega, by dsimp only; omega⟩, ⟨by dsimp only; omega, by dsimp only; omega⟩⟩
set_option maxRecDepth 100000 in
set_option maxHeartbeats 1000000 in
theorem markFeatS_c {e : TypeId} {xs : List PFeat} {v : Value} {F : List Nat} (w : World) (h : (pFeats e).rep true w xs [v] F) (hx : xs.length ≤ 1048576) (s : Nat) (hs0 : 0 < s) (hs : s ≤ 10000000) :
 Calls Tryz.prog 190 #[v, .int .i64 s] w fun e' w' => e' = .returned (.int .i64 ((s : Int) + (xs.length : Int) * 3)) ∧ (pFeats e).rep true w' (markPFeat xs.length s) [v] F ∧ Only F w w' := by
 by_cases hn : xs.length = 0
 · obtain ⟨A, c, hv, hc1, hc2, hr⟩ := slice_open h
   have hxs : xs = [] := List.eq_nil_of_length_eq_zero hn
   have h' : (pFeats e).rep true w (markPFeat xs.length s) [v] F := by rw [hn]; rw [hxs] at h; exact h
   rw [hn] at hv
   subst hv
   rw [hn] at h' ⊢
   clear hn hr h hx hc1
   go_enter Tryz.func190, Tryz.ntmps190
   go_wp2_with fail
   refine wp_loop_rounds 1 ?_; rw [rounds_succ]
   go_wp2_with fail
   go_ret
   exact ⟨ret_int (by omega), h', Only.refl _ _⟩
 · obtain ⟨g, c, cs, rest, G, rfl, hl, hc, hrow, hrp, hlen, rfl⟩ := row_of_slice h (by omega)
   obtain ⟨rfl, rfl⟩ := repL_pFeat_inv hrp
   have hgl := hrow.lt
   clear hrp h
   go_enter Tryz.func190, Tryz.ntmps190
   go_wp2_with fail
   go_loopw [1, 5] (fun m i wr => ∃ k : Nat, k ≤ xs.length ∧ i = .int .i64 k ∧ m = .int .i64 ((s : Int) + (k : Int) * 3) ∧ Row wr g e ((markPFeat k s).flatMap pFeatCells ++ ((xs.drop k).flatMap pFeatCells ++ rest)) ∧ Only [g] w wr) (fun _ i _ => xs.length - (intOf i).toNat)
   case atStart => exact ⟨0, Nat.zero_le _, rfl, by simp, by simpa [markPFeat] using hrow, Only.refl _ _⟩
   case round =>
    obtain ⟨k, hk, rfl, rfl, hrk, hb⟩ := hrel
    have hbs := hb.size
    by_cases hlt : k < xs.length
    · have hpl : ((markPFeat k s).flatMap pFeatCells).length = k * 3 := by rw [pFeatCells_len, markPFeat_len]
      have hgw : g < wr.heap.size := hrk.lt
      rw [List.drop_eq_getElem_cons hlt, List.flatMap_cons] at hrk
      have HP := Lib.hid hpl
      have HN := Lib.hid hn
      have HE := Lib.hid hlen
      have HR := Lib.hid hrk
      clear hpl hn hlen hrow hrk
      have R0 := HR.out
      obtain ⟨⟨v0, hv0⟩, hf0⟩ := Row.canJ R0 (i := k * 3) (j := 0) (by rw [HP.out]; rfl) (by simp [pFeatCells])
      have R1 := Row.put R0 (i := k * 3) (j := 0) (by rw [HP.out]; rfl) (.int .i64 ((s : Int) + (k : Int) * 3))
      obtain ⟨⟨v1, hv1⟩, hf1⟩ := Row.canJ R1 (i := k * 3 + 1) (j := 1) (by rw [HP.out]) (by simp [pFeatCells])
      have R2 := Row.put R1 (i := k * 3 + 1) (j := 1) (by rw [HP.out]) (.int .i64 ((s : Int) + (k : Int) * 3 + 1))
      obtain ⟨⟨v2, hv2⟩, hf2⟩ := Row.canJ R2 (i := k * 3 + 2) (j := 2) (by rw [HP.out]) (by simp [pFeatCells])
      have R3 := Row.put R2 (i := k * 3 + 2) (j := 2) (by rw [HP.out]) (.int .i64 ((s : Int) + (k : Int) * 3 + 1 + 1))
      have HZ := Lib.hid R3
      clear R0 R1 R2 R3
      go_wp2_with fail
      go_roundw
      case rel =>
       refine ⟨k + 1, by omega, by go_num, by go_num, ?_, (((hb.set (by simp) _).set (by simp) _).set (by simp) _)⟩
       have R := HZ.out
       rw [markPFeat_succ, List.flatMap_append, List.append_assoc]
       exact R
      case measure => simp [intOf]; omega
    · obtain rfl : k = xs.length := by omega
      have HN := Lib.hid hn
      clear hn
      go_wp2_with fail
      go_ret
      rw [List.drop_length, List.flatMap_nil, List.nil_append] at hrk
      exact ⟨rfl, slice_of_room hrk (repL_pFeat _ (markPFeat_ok _ _ hx hs)) (by simp [markPFeat]) hl hc (by rw [← hlen, List.length_append, List.length_append, pFeatCells_len, pFeatCells_len, markPFeat_len]), hb⟩
set_option maxRecDepth 100000 in
set_option maxHeartbeats 1000000 in
theorem heldFeatS_c {o : Bool} {e : TypeId} {n : Nat} {v : Value} {F : List Nat} (w : World) (s : Nat) (h : (pFeats e).rep o w (markPFeat n s) [v] F) (hx : n ≤ 1048576) (hs0 : 0 < s) (hs : s ≤ 10000000) :
 Calls Tryz.prog 222 #[v, .int .i64 s] w fun e' w' => e' = .returned (.int .i64 ((s : Int) + (n : Int) * 3)) ∧ Below w.heap.size w w' := by
 obtain ⟨A, c, rfl, hc1, hc2, hr⟩ := pFeats_open h
 have hn := markPFeat_len n s
 rw [hn] at hc1 ⊢
 have hr' : ∀ k, k < n → ∃ b off, A = some ⟨b, off, none⟩ ∧ b < w.heap.size ∧ w.cell? ⟨b, off + k * 3, none⟩ = some (.int .i64 ((s : Int) + (k : Int) * 3)) ∧ w.cell? ⟨b, off + k * 3 + 1, none⟩ = some (.int .i64 ((s : Int) + (k : Int) * 3 + 1)) ∧ w.cell? ⟨b, off + k * 3 + 2, none⟩ = some (.int .i64 ((s : Int) + (k : Int) * 3 + 1 + 1)) := by
  intro k hk
  obtain ⟨b, off, hA, hb, _, c0, c1, c2, _⟩ := hr k (by rw [hn]; exact hk)
  have e : (markPFeat n s)[k]'(by rw [hn]; exact hk) = ⟨(s : Int) + (k : Int) * 3, (s : Int) + (k : Int) * 3 + 1, (s : Int) + (k : Int) * 3 + 1 + 1⟩ := by simp [markPFeat]
  rw [e] at c0 c1 c2
  exact ⟨b, off, hA, hb, c0, c1, c2⟩
 clear hr h hn
 go_enter Tryz.func222, Tryz.ntmps222
 go_wp2_with fail
 go_loopw [1, 5] (fun m i wr => ∃ k : Nat, k ≤ n ∧ i = .int .i64 k ∧ m = .int .i64 ((s : Int) + (k : Int) * 3) ∧ Below w.heap.size w wr) (fun _ i _ => n - (intOf i).toNat)
 case atStart => exact ⟨0, Nat.zero_le _, rfl, by simp, Below.refl _ _⟩
 case round =>
  obtain ⟨k, hk, rfl, rfl, hb⟩ := hrel
  have hbs := hb.size
  by_cases hlt : k < n
  · obtain ⟨b, off, rfl, hbb, c0, c1, c2⟩ := hr' k hlt
    have hbw : b < wr.heap.size := by omega
    rw [← hb.cell (p := ⟨b, _, none⟩) hbb] at c0 c1 c2
    clear hr'
    go_wp2_with fail
    go_roundw
    case rel => exact ⟨k + 1, by omega, by go_num, by go_num, hb⟩
    case measure => simp [intOf]; omega
  · obtain rfl : k = n := by omega
    go_wp2_with fail
    go_ret
    exact ⟨rfl, hb⟩
end Go.Proofs.YtkfadfddhbpngaaGreat

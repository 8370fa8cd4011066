/- The type Entry: its data, how it lies in memory, and the law's own helpers over it. Conditions: none. -/
import Derived.Test.YtkfadfddhbpngaaGreatRows
import Derived.Test.YtkfadfddhbpngaaGreatStrSv
namespace Go.Proofs.YtkfadfddhbpngaaGreat
open Go Go.RowKit

structure PEntry where
 word : ByteArray
 cost : Int
 deriving DecidableEq

def pEntry : Ty PEntry := (str.prod int64).via fun s => (s.word, s.cost)
theorem pEntry_rep {o : Bool} {w : World} {s : PEntry} {cs : List Value} {F : List Nat} : pEntry.rep o w s cs F ↔ cs = [.string s.word, .int .i64 s.cost] ∧ F = [] ∧ s.word.size ≤ maxLen ∧ I64 s.cost := by
 constructor
 · rintro ⟨_, _, _, _, rfl, rfl, ⟨rfl, rfl, h0⟩, ⟨rfl, rfl, h1⟩⟩
   exact ⟨rfl, rfl, h0, h1⟩
 · rintro ⟨rfl, rfl, h0, h1⟩
   exact ⟨_, _, [], [], rfl, rfl, ⟨rfl, rfl, h0⟩, ⟨rfl, rfl, h1⟩⟩
def pEntrys (e : TypeId) : Ty (List PEntry) := pEntry.slice e
theorem pEntrys_open {o : Bool} {w : World} {e : TypeId} {xs : List PEntry} {v : Value} {F : List Nat} (h : (pEntrys e).rep o w xs [v] F) :
 ∃ A c, v = .slice A xs.length c ∧ xs.length ≤ c ∧ c ≤ maxLen ∧ ∀ k (hk : k < xs.length), ∃ b off, A = some ⟨b, off, none⟩ ∧ b < w.heap.size ∧ b ∈ F ∧
  w.cell? ⟨b, off + k * 2, none⟩ = some (.string xs[k].word) ∧ w.cell? ⟨b, off + k * 2 + 1, none⟩ = some (.int .i64 xs[k].cost) ∧ xs[k].word.size ≤ maxLen ∧ I64 xs[k].cost := by
 obtain ⟨A, c, hv, h1, h2, h3⟩ := slice_open h
 refine ⟨A, c, hv, h1, h2, fun k hk => ?_⟩
 obtain ⟨b, off, ck, Fk, hA, hb, hin, hr, _, hc⟩ := h3 k hk
 obtain ⟨rfl, rfl, i0, i1⟩ := pEntry_rep.1 hr
 exact ⟨b, off, hA, hb, hin, hc 0 _ rfl, by rw [Nat.add_assoc]; exact hc 1 _ rfl, i0, i1⟩
def pEntryCells (s : PEntry) : List Value := [.string s.word, .int .i64 s.cost]
def pEntryOk (s : PEntry) : Prop := s.word.size ≤ maxLen ∧ I64 s.cost
theorem pEntryCells_len (xs : List PEntry) : (xs.flatMap pEntryCells).length = xs.length * 2 := by
 induction xs with
 | nil => rfl
 | cons a r ih => simp only [List.flatMap_cons, List.length_append, ih, List.length_cons]; simp [pEntryCells]; omega
theorem repL_pEntry {o : Bool} {w : World} : ∀ (xs : List PEntry), (∀ s ∈ xs, pEntryOk s) → repL pEntry o w xs (xs.flatMap pEntryCells) []
 | [], _ => ⟨rfl, rfl⟩
 | s :: r, h => ⟨_, _, [], [], rfl, rfl, pEntry_rep.2 ⟨rfl, rfl, h s (by simp)⟩, repL_pEntry r (fun t ht => h t (by simp [ht]))⟩
theorem repL_pEntry_inv {o : Bool} {w : World} : ∀ {xs : List PEntry} {cs : List Value} {F : List Nat}, repL pEntry o w xs cs F → cs = xs.flatMap pEntryCells ∧ F = []
 | [], _, _, ⟨rfl, rfl⟩ => ⟨rfl, rfl⟩
 | s :: r, _, _, ⟨c1, c2, F1, F2, rfl, rfl, h1, h2⟩ => by
  obtain ⟨rfl, rfl, _⟩ := pEntry_rep.1 h1
  obtain ⟨rfl, rfl⟩ := repL_pEntry_inv h2
  exact ⟨rfl, rfl⟩
set_option maxHeartbeats 400000 in
theorem eqEntry_c (s t : PEntry) (w : World) :
 Calls Tryz.prog 188 #[.agg #[.string s.word, .int .i64 s.cost], .agg #[.string t.word, .int .i64 t.cost]] w fun e w' => e = .returned (.bool (decide (s = t))) ∧ Below w.heap.size w w' := by
 have e : decide (s = t) = decide (s.word = t.word ∧ s.cost = t.cost) := by apply decide_eq_decide.2; cases s; cases t; simp
 rw [e]
 clear e
 go_enter Tryz.func188, Tryz.ntmps188
 go_wp2_with fail
 all_goals go_ret
 all_goals refine ⟨?_, ((Below.refl _ _).alloc (Nat.le_refl _) _).alloc (by simp) _⟩
 all_goals simp_all [str_eq]
set_option maxRecDepth 100000 in
set_option maxHeartbeats 1000000 in
theorem eqEntryS_c {oa ob : Bool} {ea eb : TypeId} {xs ys : List PEntry} {v u : Value} {F G : List Nat} (w : World) (h : (pEntrys ea).rep oa w xs [v] F) (h' : (pEntrys eb).rep ob w ys [u] G) (hx : xs.length ≤ 1048576) (hy : ys.length ≤ 1048576) :
 Calls Tryz.prog 127 #[v, u] w fun e w' => e = .returned (.bool (decide (xs = ys))) ∧ Below w.heap.size w w' := by
 obtain ⟨A, c, rfl, hc1, hc2, hr⟩ := pEntrys_open h
 obtain ⟨B, d, rfl, hd1, hd2, hs⟩ := pEntrys_open h'
 clear h h'
 by_cases hl : xs.length = ys.length
 · have hne : ((xs.length : Int) != (ys.length : Int)) = false := by simp [hl]
   have HL := Lib.hid hl
   clear hl
   go_enter Tryz.func127, Tryz.ntmps127
   go_wp2_with fail
   go_loopw [5] (fun i wr => ∃ k : Nat, k ≤ xs.length ∧ i = .int .i64 k ∧ (∀ j (hj : j < xs.length) (hj' : j < ys.length), j < k → xs[j] = ys[j]) ∧ Below w.heap.size w wr) (fun i _ => xs.length - (intOf i).toNat)
   case atStart => exact ⟨0, Nat.zero_le _, rfl, fun _ _ _ h => by omega, Below.refl _ _⟩
   case round =>
    obtain ⟨k, hk, rfl, hall, hb⟩ := hrel
    have hbs := hb.size
    by_cases hlt : k < xs.length
    · have hlt' : k < ys.length := by have := HL.out; omega
      obtain ⟨b, off, rfl, hbb, _, h0, h1, _⟩ := hr k hlt
      obtain ⟨b', off', rfl, hbb', _, g0, g1, _⟩ := hs k hlt'
      rw [← hb.cell (p := ⟨b, _, none⟩) hbb] at h0 h1
      rw [← hb.cell (p := ⟨b', _, none⟩) hbb'] at g0 g1
      have HA := Lib.hid hall
      clear hr hs hall
      have C := eqEntry_c xs[k] ys[k]
      by_cases hkk : xs[k] = ys[k]
      · rw [decide_eq_true hkk] at C
        have HC := Lib.hid C
        have HK := Lib.hid hkk
        clear C hkk
        go_wp2_with fail
        go_still_tail 8, (by kernel_rfl)
        go_wp2_with (go_at_call 188; refine (HC.out _).mono ?_; rintro e w1 ⟨rfl, hb1⟩)
        go_roundw
        case rel =>
         refine ⟨k + 1, by omega, by go_num, fun j hj hj' hjk => ?_, hb.drew.trans (hb1.mono hbs)⟩
         by_cases e : j = k
         · subst e; exact HK.out
         · exact HA.out j hj hj' (by omega)
        case measure => simp [intOf]; omega
      · rw [decide_eq_false hkk] at C
        have HC := Lib.hid C
        have HK := Lib.hid hkk
        clear C hkk
        go_wp2_with fail
        go_still_tail 8, (by kernel_rfl)
        go_wp2_with (go_at_call 188; refine (HC.out _).mono ?_; rintro e w1 ⟨rfl, hb1⟩)
        go_ret
        have hne : ¬ xs = ys := fun e => by subst e; exact HK.out rfl
        exact ⟨by simp [hne], hb.drew.trans (hb1.mono hbs)⟩
    · obtain rfl : k = xs.length := by omega
      have heq : xs = ys := List.ext_getElem HL.out (fun j h1 h2 => hall j h1 h2 h1)
      clear hall
      go_wp2_with fail
      go_ret
      exact ⟨by simp [heq], hb⟩
 · have hne : ((xs.length : Int) != (ys.length : Int)) = true := by rw [bne_iff_ne]; omega
   have hxy : ¬ xs = ys := fun e => hl (by rw [e])
   have HL := Lib.hid hxy
   clear hl hxy
   go_enter Tryz.func127, Tryz.ntmps127
   go_wp2_with fail
   go_ret
   exact ⟨by simp [HL.out], Below.refl _ _⟩
/-- What one weighs. -/
def pEntryW (s : PEntry) : Nat := s.word.size
def szpEntry (xs : List PEntry) : Nat := xs.length + (xs.map pEntryW).sum
/-- The marks from number s on. -/
def markPEntry (n s : Nat) : List PEntry := (List.range n).map fun i : Nat => ⟨markB (s + i * 2), (s : Int) + (i : Int) * 2 + 1⟩
theorem markPEntry_len (n s : Nat) : (markPEntry n s).length = n := by simp [markPEntry]
theorem markPEntry_succ (n s : Nat) : markPEntry (n + 1) s = markPEntry n s ++ [⟨markB (s + n * 2), (s : Int) + (n : Int) * 2 + 1⟩] := by simp [markPEntry, List.range_succ]
theorem markPEntry_ok (n s : Nat) (hn : n ≤ 1048576) (hs : s ≤ 10000000) : ∀ x ∈ markPEntry n s, pEntryOk x := by
 intro x hx
 obtain ⟨i, hi, rfl⟩ := List.mem_map.1 hx
 have hi' : i < n := by simpa using hi
 refine ⟨by have := markB_size (s + i * 2); simp only [maxLen]; omega, ⟨by dsimp only; omega, by dsimp only; omega⟩⟩
set_option maxRecDepth 100000 in
set_option maxHeartbeats 1000000 in
theorem markEntryS_c {e : TypeId} {xs : List PEntry} {v : Value} {F : List Nat} (w : World) (h : (pEntrys e).rep true w xs [v] F) (hx : xs.length ≤ 1048576) (s : Nat) (hs0 : 0 < s) (hs : s ≤ 10000000) :
 Calls Tryz.prog 130 #[v, .int .i64 s] w fun e' w' => e' = .returned (.int .i64 ((s : Int) + (xs.length : Int) * 2)) ∧ (pEntrys e).rep true w' (markPEntry xs.length s) [v] F ∧ Only F w w' := by
 by_cases hn : xs.length = 0
 · obtain ⟨A, c, hv, hc1, hc2, hr⟩ := slice_open h
   have hxs : xs = [] := List.eq_nil_of_length_eq_zero hn
   have h' : (pEntrys e).rep true w (markPEntry xs.length s) [v] F := by rw [hn]; rw [hxs] at h; exact h
   rw [hn] at hv
   subst hv
   rw [hn] at h' ⊢
   clear hn hr h hx hc1
   go_enter Tryz.func130, Tryz.ntmps130
   go_wp2_with fail
   refine wp_loop_rounds 1 ?_; rw [rounds_succ]
   go_wp2_with fail
   go_ret
   exact ⟨ret_int (by omega), h', Only.refl _ _⟩
 · obtain ⟨g, c, cs, rest, G, rfl, hl, hc, hrow, hrp, hlen, rfl⟩ := row_of_slice h (by omega)
   obtain ⟨rfl, rfl⟩ := repL_pEntry_inv hrp
   have hgl := hrow.lt
   clear hrp h
   go_enter Tryz.func130, Tryz.ntmps130
   go_wp2_with fail
   go_loopw [1, 5] (fun m i wr => ∃ k : Nat, k ≤ xs.length ∧ i = .int .i64 k ∧ m = .int .i64 ((s : Int) + (k : Int) * 2) ∧ Row wr g e ((markPEntry k s).flatMap pEntryCells ++ ((xs.drop k).flatMap pEntryCells ++ rest)) ∧ Only [g] w wr) (fun _ i _ => xs.length - (intOf i).toNat)
   case atStart => exact ⟨0, Nat.zero_le _, rfl, by simp, by simpa [markPEntry] using hrow, Only.refl _ _⟩
   case round =>
    obtain ⟨k, hk, rfl, rfl, hrk, hb⟩ := hrel
    have hbs := hb.size
    by_cases hlt : k < xs.length
    · have hpl : ((markPEntry k s).flatMap pEntryCells).length = k * 2 := by rw [pEntryCells_len, markPEntry_len]
      have hgw : g < wr.heap.size := hrk.lt
      rw [List.drop_eq_getElem_cons hlt, List.flatMap_cons] at hrk
      have HP := Lib.hid hpl
      have HN := Lib.hid hn
      have HE := Lib.hid hlen
      have HR := Lib.hid hrk
      clear hpl hn hlen hrow hrk
      have R0 := HR.out
      go_wp2_with fail
      refine (markText_i _ _ (by omega) (by omega)).mono ?_
      rintro e' w0 ⟨rfl, hb0⟩
      have S0 := Row.later R0 hb0
      have R1 := S0
      clear S0
      obtain ⟨⟨v0, hv0⟩, hf0⟩ := Row.canJ R1 (i := k * 2) (j := 0) (by rw [HP.out]; rfl) (by simp [pEntryCells])
      have R2 := Row.put R1 (i := k * 2) (j := 0) (by rw [HP.out]; rfl) (.string (markB (s + k * 2)))
      obtain ⟨⟨v1, hv1⟩, hf1⟩ := Row.canJ R2 (i := k * 2 + 1) (j := 1) (by rw [HP.out]) (by simp [pEntryCells])
      have R3 := Row.put R2 (i := k * 2 + 1) (j := 1) (by rw [HP.out]) (.int .i64 ((s : Int) + (k : Int) * 2 + 1))
      have HZ := Lib.hid R3
      clear R0 R1 R2 R3
      go_wp2_with fail
      go_roundw
      case rel =>
       refine ⟨k + 1, by omega, by go_num, by go_num, ?_, (((hb.trans (Only.of_below hb0)).set (by simp) _).set (by simp) _)⟩
       have R := HZ.out
       rw [markPEntry_succ, List.flatMap_append, List.append_assoc]
       exact R
      case measure => simp [intOf]; omega
    · obtain rfl : k = xs.length := by omega
      have HN := Lib.hid hn
      clear hn
      go_wp2_with fail
      go_ret
      rw [List.drop_length, List.flatMap_nil, List.nil_append] at hrk
      exact ⟨rfl, slice_of_room hrk (repL_pEntry _ (markPEntry_ok _ _ hx hs)) (by simp [markPEntry]) hl hc (by rw [← hlen, List.length_append, List.length_append, pEntryCells_len, pEntryCells_len, markPEntry_len]), hb⟩
set_option maxRecDepth 100000 in
set_option maxHeartbeats 1000000 in
theorem heldEntryS_c {o : Bool} {e : TypeId} {n : Nat} {v : Value} {F : List Nat} (w : World) (s : Nat) (h : (pEntrys e).rep o w (markPEntry n s) [v] F) (hx : n ≤ 1048576) (hs0 : 0 < s) (hs : s ≤ 10000000) :
 Calls Tryz.prog 192 #[v, .int .i64 s] w fun e' w' => e' = .returned (.int .i64 ((s : Int) + (n : Int) * 2)) ∧ Below w.heap.size w w' := by
 obtain ⟨A, c, rfl, hc1, hc2, hr⟩ := pEntrys_open h
 have hn := markPEntry_len n s
 rw [hn] at hc1 ⊢
 have hr' : ∀ k, k < n → ∃ b off, A = some ⟨b, off, none⟩ ∧ b < w.heap.size ∧ w.cell? ⟨b, off + k * 2, none⟩ = some (.string (markB (s + k * 2))) ∧ w.cell? ⟨b, off + k * 2 + 1, none⟩ = some (.int .i64 ((s : Int) + (k : Int) * 2 + 1)) := by
  intro k hk
  obtain ⟨b, off, hA, hb, _, c0, c1, _⟩ := hr k (by rw [hn]; exact hk)
  have e : (markPEntry n s)[k]'(by rw [hn]; exact hk) = ⟨markB (s + k * 2), (s : Int) + (k : Int) * 2 + 1⟩ := by simp [markPEntry]
  rw [e] at c0 c1
  exact ⟨b, off, hA, hb, c0, c1⟩
 clear hr h hn
 go_enter Tryz.func192, Tryz.ntmps192
 go_wp2_with fail
 go_loopw [1, 5] (fun m i wr => ∃ k : Nat, k ≤ n ∧ i = .int .i64 k ∧ m = .int .i64 ((s : Int) + (k : Int) * 2) ∧ Below w.heap.size w wr) (fun _ i _ => n - (intOf i).toNat)
 case atStart => exact ⟨0, Nat.zero_le _, rfl, by simp, Below.refl _ _⟩
 case round =>
  obtain ⟨k, hk, rfl, rfl, hb⟩ := hrel
  have hbs := hb.size
  by_cases hlt : k < n
  · obtain ⟨b, off, rfl, hbb, c0, c1⟩ := hr' k hlt
    have hbw : b < wr.heap.size := by omega
    rw [← hb.cell (p := ⟨b, _, none⟩) hbb] at c0 c1
    clear hr'
    go_wp2_with fail
    go_region_held3 (fun w' => w'.cell? ⟨b, off + k * 2, none⟩ = some (.string (markB (s + k * 2)))) (first | exact c0 | exact (Below.cell (p := ⟨b, _, none⟩) hb0 (by simpa using hbw)).trans c0) (first | (go_at_call 133; refine (markText_i _ _ (by omega) (by omega)).mono ?_; rintro e' w0 ⟨rfl, hb0⟩))
    have c1 := (Below.cell (p := ⟨b, _, none⟩) hb0 (by simpa using hbw)).trans c1
    have hbw : b < w0.heap.size := by have := hb0.size; simp at this; omega
    have ek0 : ((s : Int) + (k : Int) * 2).toNat = s + k * 2 := by omega
    try rw [ek0]
    clear ek0
    go_wp2_with fail
    · exact absurd rfl (str_ne (a := markB (s + k * 2)) (b := markB (s + k * 2)) (by assumption))
    go_roundw
    case rel => exact ⟨k + 1, by omega, by go_num, by go_num, (hb.drew.trans (hb0.mono (by have := hb.size;  simp; omega)))⟩
    case measure => simp [intOf]; omega
  · obtain rfl : k = n := by omega
    go_wp2_with fail
    go_ret
    exact ⟨rfl, hb⟩
end Go.Proofs.YtkfadfddhbpngaaGreat

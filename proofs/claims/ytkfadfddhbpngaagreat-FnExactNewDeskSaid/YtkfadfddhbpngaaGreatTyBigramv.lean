/- The type Bigram: its data, how it lies in memory, and the law's own helpers over it. Conditions: none. -/
import Derived.Test.YtkfadfddhbpngaaGreatRows
import Derived.Test.YtkfadfddhbpngaaGreatStrSv
namespace Go.Proofs.YtkfadfddhbpngaaGreat
open Go Go.RowKit

structure PBigram where
 first : ByteArray
 second : ByteArray
 cost : Int
 deriving DecidableEq

def pBigram : Ty PBigram := (str.prod (str.prod int64)).via fun s => (s.first, s.second, s.cost)
theorem pBigram_rep {o : Bool} {w : World} {s : PBigram} {cs : List Value} {F : List Nat} : pBigram.rep o w s cs F ↔ cs = [.string s.first, .string s.second, .int .i64 s.cost] ∧ F = [] ∧ s.first.size ≤ maxLen ∧ s.second.size ≤ maxLen ∧ I64 s.cost := by
 constructor
 · rintro ⟨_, _, _, _, rfl, rfl, ⟨rfl, rfl, h0⟩, ⟨_, _, _, _, rfl, rfl, ⟨rfl, rfl, h1⟩, ⟨rfl, rfl, h2⟩⟩⟩
   exact ⟨rfl, rfl, h0, h1, h2⟩
 · rintro ⟨rfl, rfl, h0, h1, h2⟩
   exact ⟨_, _, [], [], rfl, rfl, ⟨rfl, rfl, h0⟩, ⟨_, _, [], [], rfl, rfl, ⟨rfl, rfl, h1⟩, ⟨rfl, rfl, h2⟩⟩⟩
def pBigrams (e : TypeId) : Ty (List PBigram) := pBigram.slice e
theorem pBigrams_open {o : Bool} {w : World} {e : TypeId} {xs : List PBigram} {v : Value} {F : List Nat} (h : (pBigrams e).rep o w xs [v] F) :
 ∃ A c, v = .slice A xs.length c ∧ xs.length ≤ c ∧ c ≤ maxLen ∧ ∀ k (hk : k < xs.length), ∃ b off, A = some ⟨b, off, none⟩ ∧ b < w.heap.size ∧ b ∈ F ∧
  w.cell? ⟨b, off + k * 3, none⟩ = some (.string xs[k].first) ∧ w.cell? ⟨b, off + k * 3 + 1, none⟩ = some (.string xs[k].second) ∧ w.cell? ⟨b, off + k * 3 + 2, none⟩ = some (.int .i64 xs[k].cost) ∧ xs[k].first.size ≤ maxLen ∧ xs[k].second.size ≤ maxLen ∧ I64 xs[k].cost := by
 obtain ⟨A, c, hv, h1, h2, h3⟩ := slice_open h
 refine ⟨A, c, hv, h1, h2, fun k hk => ?_⟩
 obtain ⟨b, off, ck, Fk, hA, hb, hin, hr, _, hc⟩ := h3 k hk
 obtain ⟨rfl, rfl, i0, i1, i2⟩ := pBigram_rep.1 hr
 exact ⟨b, off, hA, hb, hin, hc 0 _ rfl, by rw [Nat.add_assoc]; exact hc 1 _ rfl, by rw [Nat.add_assoc]; exact hc 2 _ rfl, i0, i1, i2⟩
def pBigramCells (s : PBigram) : List Value := [.string s.first, .string s.second, .int .i64 s.cost]
def pBigramOk (s : PBigram) : Prop := s.first.size ≤ maxLen ∧ s.second.size ≤ maxLen ∧ I64 s.cost
theorem pBigramCells_len (xs : List PBigram) : (xs.flatMap pBigramCells).length = xs.length * 3 := by
 induction xs with
 | nil => rfl
 | cons a r ih => simp only [List.flatMap_cons, List.length_append, ih, List.length_cons]; simp [pBigramCells]; omega
theorem repL_pBigram {o : Bool} {w : World} : ∀ (xs : List PBigram), (∀ s ∈ xs, pBigramOk s) → repL pBigram o w xs (xs.flatMap pBigramCells) []
 | [], _ => ⟨rfl, rfl⟩
 | s :: r, h => ⟨_, _, [], [], rfl, rfl, pBigram_rep.2 ⟨rfl, rfl, h s (by simp)⟩, repL_pBigram r (fun t ht => h t (by simp [ht]))⟩
theorem repL_pBigram_inv {o : Bool} {w : World} : ∀ {xs : List PBigram} {cs : List Value} {F : List Nat}, repL pBigram o w xs cs F → cs = xs.flatMap pBigramCells ∧ F = []
 | [], _, _, ⟨rfl, rfl⟩ => ⟨rfl, rfl⟩
 | s :: r, _, _, ⟨c1, c2, F1, F2, rfl, rfl, h1, h2⟩ => by
  obtain ⟨rfl, rfl, _⟩ := pBigram_rep.1 h1
  obtain ⟨rfl, rfl⟩ := repL_pBigram_inv h2
  exact ⟨rfl, rfl⟩
set_option maxHeartbeats 400000 in
theorem eqBigram_c (s t : PBigram) (w : World) :
 Calls Tryz.prog 189 #[.agg #[.string s.first, .string s.second, .int .i64 s.cost], .agg #[.string t.first, .string t.second, .int .i64 t.cost]] w fun e w' => e = .returned (.bool (decide (s = t))) ∧ Below w.heap.size w w' := by
 have e : decide (s = t) = decide (s.first = t.first ∧ s.second = t.second ∧ s.cost = t.cost) := by apply decide_eq_decide.2; cases s; cases t; simp
 rw [e]
 clear e
 go_enter Tryz.func189, Tryz.ntmps189
 go_wp2_with fail
 all_goals go_ret
 all_goals refine ⟨?_, ((Below.refl _ _).alloc (Nat.le_refl _) _).alloc (by simp) _⟩
 all_goals simp_all [str_eq]
set_option maxRecDepth 100000 in
set_option maxHeartbeats 1000000 in
theorem eqBigramS_c {oa ob : Bool} {ea eb : TypeId} {xs ys : List PBigram} {v u : Value} {F G : List Nat} (w : World) (h : (pBigrams ea).rep oa w xs [v] F) (h' : (pBigrams eb).rep ob w ys [u] G) (hx : xs.length ≤ 1048576) (hy : ys.length ≤ 1048576) :
 Calls Tryz.prog 128 #[v, u] w fun e w' => e = .returned (.bool (decide (xs = ys))) ∧ Below w.heap.size w w' := by
 obtain ⟨A, c, rfl, hc1, hc2, hr⟩ := pBigrams_open h
 obtain ⟨B, d, rfl, hd1, hd2, hs⟩ := pBigrams_open h'
 clear h h'
 by_cases hl : xs.length = ys.length
 · have hne : ((xs.length : Int) != (ys.length : Int)) = false := by simp [hl]
   have HL := Lib.hid hl
   clear hl
   go_enter Tryz.func128, Tryz.ntmps128
   go_wp2_with fail
   go_loopw [5] (fun i wr => ∃ k : Nat, k ≤ xs.length ∧ i = .int .i64 k ∧ (∀ j (hj : j < xs.length) (hj' : j < ys.length), j < k → xs[j] = ys[j]) ∧ Below w.heap.size w wr) (fun i _ => xs.length - (intOf i).toNat)
   case atStart => exact ⟨0, Nat.zero_le _, rfl, fun _ _ _ h => by omega, Below.refl _ _⟩
   case round =>
    obtain ⟨k, hk, rfl, hall, hb⟩ := hrel
    have hbs := hb.size
    by_cases hlt : k < xs.length
    · have hlt' : k < ys.length := by have := HL.out; omega
      obtain ⟨b, off, rfl, hbb, _, h0, h1, h2, _⟩ := hr k hlt
      obtain ⟨b', off', rfl, hbb', _, g0, g1, g2, _⟩ := hs k hlt'
      rw [← hb.cell (p := ⟨b, _, none⟩) hbb] at h0 h1 h2
      rw [← hb.cell (p := ⟨b', _, none⟩) hbb'] at g0 g1 g2
      have HA := Lib.hid hall
      clear hr hs hall
      have C := eqBigram_c xs[k] ys[k]
      by_cases hkk : xs[k] = ys[k]
      · rw [decide_eq_true hkk] at C
        have HC := Lib.hid C
        have HK := Lib.hid hkk
        clear C hkk
        go_wp2_with fail
        go_still_tail 8, (by kernel_rfl)
        go_wp2_with (go_at_call 189; refine (HC.out _).mono ?_; rintro e w1 ⟨rfl, hb1⟩)
        go_roundw
        case rel =>
         refine ⟨k + 1, by omega, by go_num, fun j hj hj' hjk => ?_, hb.drew.trans (hb1.mono hbs)⟩
         by_cases e : j = k
         · subst e; exact HK.out
         · exact HA.out j hj hj' (by omega)
        case measure => simp [intOf]; omega
      · rw [decide_eq_false hkk] at C
        have HC := Lib.hid C
        have HK := Lib.hid hkk
        clear C hkk
        go_wp2_with fail
        go_still_tail 8, (by kernel_rfl)
        go_wp2_with (go_at_call 189; refine (HC.out _).mono ?_; rintro e w1 ⟨rfl, hb1⟩)
        go_ret
        have hne : ¬ xs = ys := fun e => by subst e; exact HK.out rfl
        exact ⟨by simp [hne], hb.drew.trans (hb1.mono hbs)⟩
    · obtain rfl : k = xs.length := by omega
      have heq : xs = ys := List.ext_getElem HL.out (fun j h1 h2 => hall j h1 h2 h1)
      clear hall
      go_wp2_with fail
      go_ret
      exact ⟨by simp [heq], hb⟩
 · have hne : ((xs.length : Int) != (ys.length : Int)) = true := by rw [bne_iff_ne]; omega
   have hxy : ¬ xs = ys := fun e => hl (by rw [e])
   have HL := Lib.hid hxy
   clear hl hxy
   go_enter Tryz.func128, Tryz.ntmps128
   go_wp2_with fail
   go_ret
   exact ⟨by simp [HL.out], Below.refl _ _⟩
/-- What one weighs. -/
def pBigramW (s : PBigram) : Nat := s.first.size + s.second.size
def szpBigram (xs : List PBigram) : Nat := xs.length + (xs.map pBigramW).sum
/-- The marks from number s on. -/
def markPBigram (n s : Nat) : List PBigram := (List.range n).map fun i : Nat => ⟨markB (s + i * 3), markB (s + i * 3 + 1), (s : Int) + (i : Int) * 3 + 1 + 1⟩
theorem markPBigram_len (n s : Nat) : (markPBigram n s).length = n := by simp [markPBigram]
theorem markPBigram_succ (n s : Nat) : markPBigram (n + 1) s = markPBigram n s ++ [⟨markB (s + n * 3), markB (s + n * 3 + 1), (s : Int) + (n : Int) * 3 + 1 + 1⟩] := by simp [markPBigram, List.range_succ]
theorem markPBigram_ok (n s : Nat) (hn : n ≤ 1048576) (hs : s ≤ 10000000) : ∀ x ∈ markPBigram n s, pBigramOk x := by
 intro x hx
 obtain ⟨i, hi, rfl⟩ := List.mem_map.1 hx
 have hi' : i < n := by simpa using hi
 refine ⟨by have := markB_size (s + i * 3); simp only [maxLen]; omega, by have := markB_size (s + i * 3 + 1); simp only [maxLen]; omega, ⟨by dsimp only; omega, by dsimp only; omega⟩⟩
set_option maxRecDepth 100000 in
set_option maxHeartbeats 1000000 in
theorem markBigramS_c {e : TypeId} {xs : List PBigram} {v : Value} {F : List Nat} (w : World) (h : (pBigrams e).rep true w xs [v] F) (hx : xs.length ≤ 1048576) (s : Nat) (hs0 : 0 < s) (hs : s ≤ 10000000) :
 Calls Tryz.prog 131 #[v, .int .i64 s] w fun e' w' => e' = .returned (.int .i64 ((s : Int) + (xs.length : Int) * 3)) ∧ (pBigrams e).rep true w' (markPBigram xs.length s) [v] F ∧ Only F w w' := by
 by_cases hn : xs.length = 0
 · obtain ⟨A, c, hv, hc1, hc2, hr⟩ := slice_open h
   have hxs : xs = [] := List.eq_nil_of_length_eq_zero hn
   have h' : (pBigrams e).rep true w (markPBigram xs.length s) [v] F := by rw [hn]; rw [hxs] at h; exact h
   rw [hn] at hv
   subst hv
   rw [hn] at h' ⊢
   clear hn hr h hx hc1
   go_enter Tryz.func131, Tryz.ntmps131
   go_wp2_with fail
   refine wp_loop_rounds 1 ?_; rw [rounds_succ]
   go_wp2_with fail
   go_ret
   exact ⟨ret_int (by omega), h', Only.refl _ _⟩
 · obtain ⟨g, c, cs, rest, G, rfl, hl, hc, hrow, hrp, hlen, rfl⟩ := row_of_slice h (by omega)
   obtain ⟨rfl, rfl⟩ := repL_pBigram_inv hrp
   have hgl := hrow.lt
   clear hrp h
   go_enter Tryz.func131, Tryz.ntmps131
   go_wp2_with fail
   go_loopw [1, 5] (fun m i wr => ∃ k : Nat, k ≤ xs.length ∧ i = .int .i64 k ∧ m = .int .i64 ((s : Int) + (k : Int) * 3) ∧ Row wr g e ((markPBigram k s).flatMap pBigramCells ++ ((xs.drop k).flatMap pBigramCells ++ rest)) ∧ Only [g] w wr) (fun _ i _ => xs.length - (intOf i).toNat)
   case atStart => exact ⟨0, Nat.zero_le _, rfl, by simp, by simpa [markPBigram] using hrow, Only.refl _ _⟩
   case round =>
    obtain ⟨k, hk, rfl, rfl, hrk, hb⟩ := hrel
    have hbs := hb.size
    by_cases hlt : k < xs.length
    · have hpl : ((markPBigram k s).flatMap pBigramCells).length = k * 3 := by rw [pBigramCells_len, markPBigram_len]
      have hgw : g < wr.heap.size := hrk.lt
      rw [List.drop_eq_getElem_cons hlt, List.flatMap_cons] at hrk
      have HP := Lib.hid hpl
      have HN := Lib.hid hn
      have HE := Lib.hid hlen
      have HR := Lib.hid hrk
      clear hpl hn hlen hrow hrk
      have R0 := HR.out
      go_wp2_with fail
      refine (markText_i _ _ (by omega) (by omega)).mono ?_
      rintro e' w0 ⟨rfl, hb0⟩
      have S0 := Row.later R0 hb0
      have R1 := S0
      clear S0
      obtain ⟨⟨v0, hv0⟩, hf0⟩ := Row.canJ R1 (i := k * 3) (j := 0) (by rw [HP.out]; rfl) (by simp [pBigramCells])
      have R2 := Row.put R1 (i := k * 3) (j := 0) (by rw [HP.out]; rfl) (.string (markB (s + k * 3)))
      go_wp2_with fail
      refine (markText_i _ _ (by omega) (by omega)).mono ?_
      rintro e' w1 ⟨rfl, hb1⟩
      have S2 := Row.later R2 hb1
      have R3 := S2
      clear S2
      obtain ⟨⟨v1, hv1⟩, hf1⟩ := Row.canJ R3 (i := k * 3 + 1) (j := 1) (by rw [HP.out]) (by simp [pBigramCells])
      have R4 := Row.put R3 (i := k * 3 + 1) (j := 1) (by rw [HP.out]) (.string (markB (s + k * 3 + 1)))
      obtain ⟨⟨v2, hv2⟩, hf2⟩ := Row.canJ R4 (i := k * 3 + 2) (j := 2) (by rw [HP.out]) (by simp [pBigramCells])
      have R5 := Row.put R4 (i := k * 3 + 2) (j := 2) (by rw [HP.out]) (.int .i64 ((s : Int) + (k : Int) * 3 + 1 + 1))
      have HZ := Lib.hid R5
      clear R0 R1 R2 R3 R4 R5
      go_wp2_with fail
      go_roundw
      case rel =>
       refine ⟨k + 1, by omega, by go_num, by go_num, ?_, (((((hb.trans (Only.of_below hb0)).set (by simp) _).trans (Only.of_below hb1)).set (by simp) _).set (by simp) _)⟩
       have R := HZ.out
       rw [markPBigram_succ, List.flatMap_append, List.append_assoc]
       exact R
      case measure => simp [intOf]; omega
    · obtain rfl : k = xs.length := by omega
      have HN := Lib.hid hn
      clear hn
      go_wp2_with fail
      go_ret
      rw [List.drop_length, List.flatMap_nil, List.nil_append] at hrk
      exact ⟨rfl, slice_of_room hrk (repL_pBigram _ (markPBigram_ok _ _ hx hs)) (by simp [markPBigram]) hl hc (by rw [← hlen, List.length_append, List.length_append, pBigramCells_len, pBigramCells_len, markPBigram_len]), hb⟩
set_option maxRecDepth 100000 in
set_option maxHeartbeats 1000000 in
theorem heldBigramS_c {o : Bool} {e : TypeId} {n : Nat} {v : Value} {F : List Nat} (w : World) (s : Nat) (h : (pBigrams e).rep o w (markPBigram n s) [v] F) (hx : n ≤ 1048576) (hs0 : 0 < s) (hs : s ≤ 10000000) :
 Calls Tryz.prog 193 #[v, .int .i64 s] w fun e' w' => e' = .returned (.int .i64 ((s : Int) + (n : Int) * 3)) ∧ Below w.heap.size w w' := by
 obtain ⟨A, c, rfl, hc1, hc2, hr⟩ := pBigrams_open h
 have hn := markPBigram_len n s
 rw [hn] at hc1 ⊢
 have hr' : ∀ k, k < n → ∃ b off, A = some ⟨b, off, none⟩ ∧ b < w.heap.size ∧ w.cell? ⟨b, off + k * 3, none⟩ = some (.string (markB (s + k * 3))) ∧ w.cell? ⟨b, off + k * 3 + 1, none⟩ = some (.string (markB (s + k * 3 + 1))) ∧ w.cell? ⟨b, off + k * 3 + 2, none⟩ = some (.int .i64 ((s : Int) + (k : Int) * 3 + 1 + 1)) := by
  intro k hk
  obtain ⟨b, off, hA, hb, _, c0, c1, c2, _⟩ := hr k (by rw [hn]; exact hk)
  have e : (markPBigram n s)[k]'(by rw [hn]; exact hk) = ⟨markB (s + k * 3), markB (s + k * 3 + 1), (s : Int) + (k : Int) * 3 + 1 + 1⟩ := by simp [markPBigram]
  rw [e] at c0 c1 c2
  exact ⟨b, off, hA, hb, c0, c1, c2⟩
 clear hr h hn
 go_enter Tryz.func193, Tryz.ntmps193
 go_wp2_with fail
 go_loopw [1, 5] (fun m i wr => ∃ k : Nat, k ≤ n ∧ i = .int .i64 k ∧ m = .int .i64 ((s : Int) + (k : Int) * 3) ∧ Below w.heap.size w wr) (fun _ i _ => n - (intOf i).toNat)
 case atStart => exact ⟨0, Nat.zero_le _, rfl, by simp, Below.refl _ _⟩
 case round =>
  obtain ⟨k, hk, rfl, rfl, hb⟩ := hrel
  have hbs := hb.size
  by_cases hlt : k < n
  · obtain ⟨b, off, rfl, hbb, c0, c1, c2⟩ := hr' k hlt
    have hbw : b < wr.heap.size := by omega
    rw [← hb.cell (p := ⟨b, _, none⟩) hbb] at c0 c1 c2
    clear hr'
    go_wp2_with fail
    go_region_held3 (fun w' => w'.cell? ⟨b, off + k * 3, none⟩ = some (.string (markB (s + k * 3)))) (first | exact c0 | exact (Below.cell (p := ⟨b, _, none⟩) hb0 (by simpa using hbw)).trans c0) (first | (go_at_call 133; refine (markText_i _ _ (by omega) (by omega)).mono ?_; rintro e' w0 ⟨rfl, hb0⟩))
    have c1 := (Below.cell (p := ⟨b, _, none⟩) hb0 (by simpa using hbw)).trans c1
    have c2 := (Below.cell (p := ⟨b, _, none⟩) hb0 (by simpa using hbw)).trans c2
    have hbw : b < w0.heap.size := by have := hb0.size; simp at this; omega
    have ek0 : ((s : Int) + (k : Int) * 3).toNat = s + k * 3 := by omega
    try rw [ek0]
    clear ek0
    go_wp2_with fail
    · exact absurd rfl (str_ne (a := markB (s + k * 3)) (b := markB (s + k * 3)) (by assumption))
    go_wp2_with fail
    go_region_held3 (fun w' => w'.cell? ⟨b, off + k * 3 + 1, none⟩ = some (.string (markB (s + k * 3 + 1)))) (first | exact c1 | exact (Below.cell (p := ⟨b, _, none⟩) hb1 (by simpa using hbw)).trans c1) (first | (go_at_call 133; refine (markText_i _ _ (by omega) (by omega)).mono ?_; rintro e' w1 ⟨rfl, hb1⟩))
    have c2 := (Below.cell (p := ⟨b, _, none⟩) hb1 (by simpa using hbw)).trans c2
    have hbw : b < w1.heap.size := by have := hb1.size; simp at this; omega
    have ek1 : ((s : Int) + (k : Int) * 3 + 1).toNat = s + k * 3 + 1 := by omega
    try rw [ek1]
    clear ek1
    go_wp2_with fail
    · exact absurd rfl (str_ne (a := markB (s + k * 3 + 1)) (b := markB (s + k * 3 + 1)) (by assumption))
    go_roundw
    case rel => exact ⟨k + 1, by omega, by go_num, by go_num, ((hb.drew.trans (hb0.mono (by have := hb.size;  simp; omega))).drew.trans (hb1.mono (by have := hb.size; have := hb0.size; simp at this; simp; omega)))⟩
    case measure => simp [intOf]; omega
  · obtain rfl : k = n := by omega
    go_wp2_with fail
    go_ret
    exact ⟨rfl, hb⟩
end Go.Proofs.YtkfadfddhbpngaaGreat

/- The type Confusion: its data, how it lies in memory, and the law's own helpers over it. Conditions: none. -/
import Derived.Test.YtelkggafmnckoaaRows
import Derived.Test.YtelkggafmnckoaaStrS
namespace Go.Proofs.Ytelkggafmnckoaa
open Go Go.RowKit

structure PConf where
  want : ByteArray
  got : ByteArray
  count : Int
  deriving DecidableEq

def pConf : Ty PConf := (str.prod (str.prod int64)).via fun s => (s.want, s.got, s.count)
theorem pConf_rep {o : Bool} {w : World} {s : PConf} {cs : List Value} {F : List Nat} : pConf.rep o w s cs F ↔ cs = [.string s.want, .string s.got, .int .i64 s.count] ∧ F = [] ∧ s.want.size ≤ maxLen ∧ s.got.size ≤ maxLen ∧ I64 s.count := by
  constructor
  · rintro ⟨_, _, _, _, rfl, rfl, ⟨rfl, rfl, h0⟩, ⟨_, _, _, _, rfl, rfl, ⟨rfl, rfl, h1⟩, ⟨rfl, rfl, h2⟩⟩⟩
    exact ⟨rfl, rfl, h0, h1, h2⟩
  · rintro ⟨rfl, rfl, h0, h1, h2⟩
    exact ⟨_, _, [], [], rfl, rfl, ⟨rfl, rfl, h0⟩, ⟨_, _, [], [], rfl, rfl, ⟨rfl, rfl, h1⟩, ⟨rfl, rfl, h2⟩⟩⟩
def pConfs (e : TypeId) : Ty (List PConf) := pConf.slice e
theorem pConfs_open {o : Bool} {w : World} {e : TypeId} {xs : List PConf} {v : Value} {F : List Nat} (h : (pConfs e).rep o w xs [v] F) :
    ∃ A c, v = .slice A xs.length c ∧ xs.length ≤ c ∧ c ≤ maxLen ∧ ∀ k (hk : k < xs.length), ∃ b off, A = some ⟨b, off, none⟩ ∧ b < w.heap.size ∧ b ∈ F ∧
      w.cell? ⟨b, off + k * 3, none⟩ = some (.string xs[k].want) ∧ w.cell? ⟨b, off + k * 3 + 1, none⟩ = some (.string xs[k].got) ∧ w.cell? ⟨b, off + k * 3 + 2, none⟩ = some (.int .i64 xs[k].count) ∧ xs[k].want.size ≤ maxLen ∧ xs[k].got.size ≤ maxLen ∧ I64 xs[k].count := by
  obtain ⟨A, c, hv, h1, h2, h3⟩ := slice_open h
  refine ⟨A, c, hv, h1, h2, fun k hk => ?_⟩
  obtain ⟨b, off, ck, Fk, hA, hb, hin, hr, _, hc⟩ := h3 k hk
  obtain ⟨rfl, rfl, i0, i1, i2⟩ := pConf_rep.1 hr
  exact ⟨b, off, hA, hb, hin, hc 0 _ rfl, by rw [Nat.add_assoc]; exact hc 1 _ rfl, by rw [Nat.add_assoc]; exact hc 2 _ rfl, i0, i1, i2⟩
def pConfCells (s : PConf) : List Value := [.string s.want, .string s.got, .int .i64 s.count]
def pConfOk (s : PConf) : Prop := s.want.size ≤ maxLen ∧ s.got.size ≤ maxLen ∧ I64 s.count
theorem pConfCells_len (xs : List PConf) : (xs.flatMap pConfCells).length = xs.length * 3 := by
  induction xs with
  | nil => rfl
  | cons a r ih => simp only [List.flatMap_cons, List.length_append, ih, List.length_cons]; simp [pConfCells]; omega
theorem repL_pConf {o : Bool} {w : World} : ∀ (xs : List PConf), (∀ s ∈ xs, pConfOk s) → repL pConf o w xs (xs.flatMap pConfCells) []
  | [], _ => ⟨rfl, rfl⟩
  | s :: r, h => ⟨_, _, [], [], rfl, rfl, pConf_rep.2 ⟨rfl, rfl, h s (by simp)⟩, repL_pConf r (fun t ht => h t (by simp [ht]))⟩
theorem repL_pConf_inv {o : Bool} {w : World} : ∀ {xs : List PConf} {cs : List Value} {F : List Nat}, repL pConf o w xs cs F → cs = xs.flatMap pConfCells ∧ F = []
  | [], _, _, ⟨rfl, rfl⟩ => ⟨rfl, rfl⟩
  | s :: r, _, _, ⟨c1, c2, F1, F2, rfl, rfl, h1, h2⟩ => by
    obtain ⟨rfl, rfl, _⟩ := pConf_rep.1 h1
    obtain ⟨rfl, rfl⟩ := repL_pConf_inv h2
    exact ⟨rfl, rfl⟩
theorem pConfs_ok {o : Bool} {w : World} {e : TypeId} {xs : List PConf} {v : Value} {F : List Nat} (h : (pConfs e).rep o w xs [v] F) : ∀ s ∈ xs, pConfOk s := by
  obtain ⟨_, _, _, _, _, hr⟩ := pConfs_open h
  intro s hs
  obtain ⟨k, hk, rfl⟩ := List.getElem_of_mem hs
  obtain ⟨_, _, _, _, _, _, _, _, h⟩ := hr k hk
  exact h

set_option maxHeartbeats 400000 in
theorem eqConfusion_c (s t : PConf) (w : World) :
    Calls Try.prog 60 #[.agg #[.string s.want, .string s.got, .int .i64 s.count], .agg #[.string t.want, .string t.got, .int .i64 t.count]] w fun e w' => e = .returned (.bool (decide (s = t))) ∧ Below w.heap.size w w' := by
  have e : decide (s = t) = decide (s.want = t.want ∧ s.got = t.got ∧ s.count = t.count) := by apply decide_eq_decide.2; cases s; cases t; simp
  rw [e]
  clear e
  go_enter Try.func60, Try.ntmps60
  go_wp2_with fail
  all_goals go_ret
  all_goals refine ⟨?_, ((Below.refl _ _).alloc (Nat.le_refl _) _).alloc (by simp) _⟩
  all_goals simp_all [str_eq]
set_option maxRecDepth 100000 in
set_option maxHeartbeats 1000000 in
theorem eqConfusionS_c {oa ob : Bool} {ea eb : TypeId} {xs ys : List PConf} {v u : Value} {F G : List Nat} (w : World) (h : (pConfs ea).rep oa w xs [v] F) (h' : (pConfs eb).rep ob w ys [u] G) (hx : xs.length ≤ 1048576) (hy : ys.length ≤ 1048576) :
    Calls Try.prog 24 #[v, u] w fun e w' => e = .returned (.bool (decide (xs = ys))) ∧ Below w.heap.size w w' := by
  obtain ⟨A, c, rfl, hc1, hc2, hr⟩ := pConfs_open h
  obtain ⟨B, d, rfl, hd1, hd2, hs⟩ := pConfs_open h'
  clear h h'
  by_cases hl : xs.length = ys.length
  · have hne : ((xs.length : Int) != (ys.length : Int)) = false := by simp [hl]
    have HL := Lib.hid hl
    clear hl
    go_enter Try.func24, Try.ntmps24
    go_wp2_with fail
    go_loopw [5] (fun i wr => ∃ k : Nat, k ≤ xs.length ∧ i = .int .i64 k ∧ (∀ j (hj : j < xs.length) (hj' : j < ys.length), j < k → xs[j] = ys[j]) ∧ Below w.heap.size w wr) (fun i _ => xs.length - (intOf i).toNat)
    case atStart => exact ⟨0, Nat.zero_le _, rfl, fun _ _ _ h => by omega, Below.refl _ _⟩
    case round =>
      obtain ⟨k, hk, rfl, hall, hb⟩ := hrel
      have hbs := hb.size
      by_cases hlt : k < xs.length
      · have hlt' : k < ys.length := by have := HL.out; omega
        obtain ⟨b, off, rfl, hbb, _, h0, h1, h2, _⟩ := hr k hlt
        obtain ⟨b', off', rfl, hbb', _, g0, g1, g2, _⟩ := hs k hlt'
        rw [← hb.cell (p := ⟨b, _, none⟩) hbb] at h0 h1 h2
        rw [← hb.cell (p := ⟨b', _, none⟩) hbb'] at g0 g1 g2
        have HA := Lib.hid hall
        clear hr hs hall
        have C := eqConfusion_c xs[k] ys[k]
        by_cases hkk : xs[k] = ys[k]
        · rw [decide_eq_true hkk] at C
          have HC := Lib.hid C
          have HK := Lib.hid hkk
          clear C hkk
          go_wp2_with fail
          go_still_tail 8, (by kernel_rfl)
          go_wp2_with (go_at_call 60; refine (HC.out _).mono ?_; rintro e w1 ⟨rfl, hb1⟩)
          go_roundw
          case rel =>
            refine ⟨k + 1, by omega, by go_num, fun j hj hj' hjk => ?_, hb.drew.trans (hb1.mono hbs)⟩
            by_cases e : j = k
            · subst e; exact HK.out
            · exact HA.out j hj hj' (by omega)
          case measure => simp [intOf]; omega
        · rw [decide_eq_false hkk] at C
          have HC := Lib.hid C
          have HK := Lib.hid hkk
          clear C hkk
          go_wp2_with fail
          go_still_tail 8, (by kernel_rfl)
          go_wp2_with (go_at_call 60; refine (HC.out _).mono ?_; rintro e w1 ⟨rfl, hb1⟩)
          go_ret
          have hne : ¬ xs = ys := fun e => by subst e; exact HK.out rfl
          exact ⟨by simp [hne], hb.drew.trans (hb1.mono hbs)⟩
      · obtain rfl : k = xs.length := by omega
        have heq : xs = ys := List.ext_getElem HL.out (fun j h1 h2 => hall j h1 h2 h1)
        clear hall
        go_wp2_with fail
        go_ret
        exact ⟨by simp [heq], hb⟩
  · have hne : ((xs.length : Int) != (ys.length : Int)) = true := by rw [bne_iff_ne]; omega
    have hxy : ¬ xs = ys := fun e => hl (by rw [e])
    have HL := Lib.hid hxy
    clear hl hxy
    go_enter Try.func24, Try.ntmps24
    go_wp2_with fail
    go_ret
    exact ⟨by simp [HL.out], Below.refl _ _⟩
/-- What one weighs. -/
def pConfW (s : PConf) : Nat := s.want.size + s.got.size
/-- The marks from number s on. -/
def markPConf (n s : Nat) : List PConf := (List.range n).map fun i : Nat => ⟨markB (s + i * 3), markB (s + i * 3 + 1), (s : Int) + (i : Int) * 3 + 1 + 1⟩
theorem markPConf_len (n s : Nat) : (markPConf n s).length = n := by simp [markPConf]
theorem markPConf_succ (n s : Nat) : markPConf (n + 1) s = markPConf n s ++ [⟨markB (s + n * 3), markB (s + n * 3 + 1), (s : Int) + (n : Int) * 3 + 1 + 1⟩] := by simp [markPConf, List.range_succ]
theorem markPConf_ok (n s : Nat) (hn : n ≤ 1048576) (hs : s ≤ 10000000) : ∀ x ∈ markPConf n s, pConfOk x := by
  intro x hx
  obtain ⟨i, hi, rfl⟩ := List.mem_map.1 hx
  have hi' : i < n := by simpa using hi
  refine ⟨by have := markB_size (s + i * 3); simp only [maxLen]; omega, by have := markB_size (s + i * 3 + 1); simp only [maxLen]; omega, ⟨by dsimp only; omega, by dsimp only; omega⟩⟩
set_option maxRecDepth 100000 in
set_option maxHeartbeats 1000000 in
theorem markConfusionS_c {e : TypeId} {xs : List PConf} {v : Value} {F : List Nat} (w : World) (h : (pConfs e).rep true w xs [v] F) (hx : xs.length ≤ 1048576) (s : Nat) (hs0 : 0 < s) (hs : s ≤ 10000000) :
    Calls Try.prog 27 #[v, .int .i64 s] w fun e' w' => e' = .returned (.int .i64 ((s : Int) + (xs.length : Int) * 3)) ∧ (pConfs e).rep true w' (markPConf xs.length s) [v] F ∧ Only F w w' := by
  by_cases hn : xs.length = 0
  · obtain ⟨A, c, hv, hc1, hc2, hr⟩ := slice_open h
    have hxs : xs = [] := List.eq_nil_of_length_eq_zero hn
    have h' : (pConfs e).rep true w (markPConf xs.length s) [v] F := by rw [hn]; rw [hxs] at h; exact h
    rw [hn] at hv
    subst hv
    rw [hn] at h' ⊢
    clear hn hr h hx hc1
    go_enter Try.func27, Try.ntmps27
    go_wp2_with fail
    refine wp_loop_rounds 1 ?_; rw [rounds_succ]
    go_wp2_with fail
    go_ret
    exact ⟨ret_int (by omega), h', Only.refl _ _⟩
  · obtain ⟨g, c, cs, rest, G, rfl, hl, hc, hrow, hrp, hlen, rfl⟩ := row_of_slice h (by omega)
    obtain ⟨rfl, rfl⟩ := repL_pConf_inv hrp
    have hgl := hrow.lt
    clear hrp h
    go_enter Try.func27, Try.ntmps27
    go_wp2_with fail
    go_loopw [1, 5] (fun m i wr => ∃ k : Nat, k ≤ xs.length ∧ i = .int .i64 k ∧ m = .int .i64 ((s : Int) + (k : Int) * 3) ∧ Row wr g e ((markPConf k s).flatMap pConfCells ++ ((xs.drop k).flatMap pConfCells ++ rest)) ∧ Only [g] w wr) (fun _ i _ => xs.length - (intOf i).toNat)
    case atStart => exact ⟨0, Nat.zero_le _, rfl, by simp, by simpa [markPConf] using hrow, Only.refl _ _⟩
    case round =>
      obtain ⟨k, hk, rfl, rfl, hrk, hb⟩ := hrel
      have hbs := hb.size
      by_cases hlt : k < xs.length
      · have hpl : ((markPConf k s).flatMap pConfCells).length = k * 3 := by rw [pConfCells_len, markPConf_len]
        have hgw : g < wr.heap.size := hrk.lt
        rw [List.drop_eq_getElem_cons hlt, List.flatMap_cons] at hrk
        have HP := Lib.hid hpl
        have HN := Lib.hid hn
        have HE := Lib.hid hlen
        have HR := Lib.hid hrk
        clear hpl hn hlen hrow hrk
        have R0 := HR.out
        go_wp2_with fail
        refine (markText_i _ _ (by omega) (by omega)).mono ?_
        rintro e' w0 ⟨rfl, hb0⟩
        have S0 := Row.later R0 hb0
        have R1 := S0
        clear S0
        obtain ⟨⟨v0, hv0⟩, hf0⟩ := Row.canJ R1 (i := k * 3) (j := 0) (by rw [HP.out]; rfl) (by simp [pConfCells])
        have R2 := Row.put R1 (i := k * 3) (j := 0) (by rw [HP.out]; rfl) (.string (markB (s + k * 3)))
        go_wp2_with fail
        refine (markText_i _ _ (by omega) (by omega)).mono ?_
        rintro e' w1 ⟨rfl, hb1⟩
        have S2 := Row.later R2 hb1
        have R3 := S2
        clear S2
        obtain ⟨⟨v1, hv1⟩, hf1⟩ := Row.canJ R3 (i := k * 3 + 1) (j := 1) (by rw [HP.out]) (by simp [pConfCells])
        have R4 := Row.put R3 (i := k * 3 + 1) (j := 1) (by rw [HP.out]) (.string (markB (s + k * 3 + 1)))
        obtain ⟨⟨v2, hv2⟩, hf2⟩ := Row.canJ R4 (i := k * 3 + 2) (j := 2) (by rw [HP.out]) (by simp [pConfCells])
        have R5 := Row.put R4 (i := k * 3 + 2) (j := 2) (by rw [HP.out]) (.int .i64 ((s : Int) + (k : Int) * 3 + 1 + 1))
        have HZ := Lib.hid R5
        clear R0 R1 R2 R3 R4 R5
        go_wp2_with fail
        go_roundw
        case rel =>
          refine ⟨k + 1, by omega, by go_num, by go_num, ?_, (((((hb.trans (Only.of_below hb0)).set (by simp) _).trans (Only.of_below hb1)).set (by simp) _).set (by simp) _)⟩
          have R := HZ.out
          rw [markPConf_succ, List.flatMap_append, List.append_assoc]
          exact R
        case measure => simp [intOf]; omega
      · obtain rfl : k = xs.length := by omega
        have HN := Lib.hid hn
        clear hn
        go_wp2_with fail
        go_ret
        rw [List.drop_length, List.flatMap_nil, List.nil_append] at hrk
        exact ⟨rfl, slice_of_room hrk (repL_pConf _ (markPConf_ok _ _ hx hs)) (by simp [markPConf]) hl hc (by rw [← hlen, List.length_append, List.length_append, pConfCells_len, pConfCells_len, markPConf_len]), hb⟩
set_option maxRecDepth 100000 in
set_option maxHeartbeats 1000000 in
theorem heldConfusionS_c {o : Bool} {e : TypeId} {n : Nat} {v : Value} {F : List Nat} (w : World) (s : Nat) (h : (pConfs e).rep o w (markPConf n s) [v] F) (hx : n ≤ 1048576) (hs0 : 0 < s) (hs : s ≤ 10000000) :
    Calls Try.prog 28 #[v, .int .i64 s] w fun e' w' => e' = .returned (.int .i64 ((s : Int) + (n : Int) * 3)) ∧ Below w.heap.size w w' := by
  obtain ⟨A, c, rfl, hc1, hc2, hr⟩ := pConfs_open h
  have hn := markPConf_len n s
  rw [hn] at hc1 ⊢
  have hr' : ∀ k, k < n → ∃ b off, A = some ⟨b, off, none⟩ ∧ b < w.heap.size ∧ w.cell? ⟨b, off + k * 3, none⟩ = some (.string (markB (s + k * 3))) ∧ w.cell? ⟨b, off + k * 3 + 1, none⟩ = some (.string (markB (s + k * 3 + 1))) ∧ w.cell? ⟨b, off + k * 3 + 2, none⟩ = some (.int .i64 ((s : Int) + (k : Int) * 3 + 1 + 1)) := by
    intro k hk
    obtain ⟨b, off, hA, hb, _, c0, c1, c2, _⟩ := hr k (by rw [hn]; exact hk)
    have e : (markPConf n s)[k]'(by rw [hn]; exact hk) = ⟨markB (s + k * 3), markB (s + k * 3 + 1), (s : Int) + (k : Int) * 3 + 1 + 1⟩ := by simp [markPConf]
    rw [e] at c0 c1 c2
    exact ⟨b, off, hA, hb, c0, c1, c2⟩
  clear hr h hn
  go_enter Try.func28, Try.ntmps28
  go_wp2_with fail
  go_loopw [1, 5] (fun m i wr => ∃ k : Nat, k ≤ n ∧ i = .int .i64 k ∧ m = .int .i64 ((s : Int) + (k : Int) * 3) ∧ Below w.heap.size w wr) (fun _ i _ => n - (intOf i).toNat)
  case atStart => exact ⟨0, Nat.zero_le _, rfl, by simp, Below.refl _ _⟩
  case round =>
    obtain ⟨k, hk, rfl, rfl, hb⟩ := hrel
    have hbs := hb.size
    by_cases hlt : k < n
    · obtain ⟨b, off, rfl, hbb, c0, c1, c2⟩ := hr' k hlt
      have hbw : b < wr.heap.size := by omega
      rw [← hb.cell (p := ⟨b, _, none⟩) hbb] at c0 c1 c2
      clear hr'
      go_wp2_with fail
      go_region_held3 (fun w' => w'.cell? ⟨b, off + k * 3, none⟩ = some (.string (markB (s + k * 3)))) (first | exact c0 | exact (Below.cell (p := ⟨b, _, none⟩) hb0 (by simpa using hbw)).trans c0) (first | (go_at_call 62; refine (markText_i _ _ (by omega) (by omega)).mono ?_; rintro e' w0 ⟨rfl, hb0⟩))
      have c1 := (Below.cell (p := ⟨b, _, none⟩) hb0 (by simpa using hbw)).trans c1
      have c2 := (Below.cell (p := ⟨b, _, none⟩) hb0 (by simpa using hbw)).trans c2
      have hbw : b < w0.heap.size := by have := hb0.size; simp at this; omega
      have ek0 : ((s : Int) + (k : Int) * 3).toNat = s + k * 3 := by omega
      try rw [ek0]
      clear ek0
      go_wp2_with fail
      · exact absurd rfl (str_ne (a := markB (s + k * 3)) (b := markB (s + k * 3)) (by assumption))
      go_wp2_with fail
      go_region_held3 (fun w' => w'.cell? ⟨b, off + k * 3 + 1, none⟩ = some (.string (markB (s + k * 3 + 1)))) (first | exact c1 | exact (Below.cell (p := ⟨b, _, none⟩) hb1 (by simpa using hbw)).trans c1) (first | (go_at_call 62; refine (markText_i _ _ (by omega) (by omega)).mono ?_; rintro e' w1 ⟨rfl, hb1⟩))
      have c2 := (Below.cell (p := ⟨b, _, none⟩) hb1 (by simpa using hbw)).trans c2
      have hbw : b < w1.heap.size := by have := hb1.size; simp at this; omega
      have ek1 : ((s : Int) + (k : Int) * 3 + 1).toNat = s + k * 3 + 1 := by omega
      try rw [ek1]
      clear ek1
      go_wp2_with fail
      · exact absurd rfl (str_ne (a := markB (s + k * 3 + 1)) (b := markB (s + k * 3 + 1)) (by assumption))
      go_roundw
      case rel => exact ⟨k + 1, by omega, by go_num, by go_num, ((hb.drew.trans (hb0.mono (by have := hb.size;  simp; omega))).drew.trans (hb1.mono (by have := hb.size; have := hb0.size; simp at this; simp; omega)))⟩
      case measure => simp [intOf]; omega
    · obtain rfl : k = n := by omega
      go_wp2_with fail
      go_ret
      exact ⟨rfl, hb⟩
end Go.Proofs.Ytelkggafmnckoaa

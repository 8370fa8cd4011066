/- Slices of numbers: the law's own eq, mark, held. Conditions: none. -/
import Derived.Test.YtkickllohilciaaStrS
namespace Go.Proofs.Ytkickllohilciaa
open Go Go.RowKit

def nums (e : TypeId) : Ty (List Int) := int64.slice e
theorem nums_open {o : Bool} {w : World} {e : TypeId} {xs : List Int} {v : Value} {F : List Nat} (h : (nums e).rep o w xs [v] F) :
    ∃ A c, v = .slice A xs.length c ∧ xs.length ≤ c ∧ c ≤ maxLen ∧ ∀ k (hk : k < xs.length), ∃ b off, A = some ⟨b, off, none⟩ ∧ b < w.heap.size ∧ b ∈ F ∧ w.cell? ⟨b, off + k, none⟩ = some (.int .i64 xs[k]) ∧ I64 xs[k] := by
  obtain ⟨A, c, hv, h1, h2, h3⟩ := slice_open h
  refine ⟨A, c, hv, h1, h2, fun k hk => ?_⟩
  obtain ⟨b, off, ck, Fk, hA, hb, hin, hr, _, hc⟩ := h3 k hk
  obtain ⟨rfl, rfl, i1⟩ := int64_rep.1 hr
  have h0 := hc 0 _ rfl
  rw [show k * int64.size + 0 = k from Nat.mul_one k] at h0
  exact ⟨b, off, hA, hb, hin, h0, i1⟩
theorem nums_ok {o : Bool} {w : World} {e : TypeId} {xs : List Int} {v : Value} {F : List Nat} (h : (nums e).rep o w xs [v] F) : ∀ s ∈ xs, I64 s := by
  obtain ⟨_, _, _, _, _, hr⟩ := nums_open h
  intro s hs
  obtain ⟨k, hk, rfl⟩ := List.getElem_of_mem hs
  obtain ⟨_, _, _, _, _, _, h⟩ := hr k hk
  exact h
theorem repL_nums {o : Bool} {w : World} : ∀ (xs : List Int), (∀ s ∈ xs, I64 s) → repL int64 o w xs (xs.map (.int .i64)) []
  | [], _ => ⟨rfl, rfl⟩
  | s :: r, h => ⟨[.int .i64 s], _, [], [], rfl, rfl, int64_rep.2 ⟨rfl, rfl, h s (by simp)⟩, repL_nums r (fun t ht => h t (by simp [ht]))⟩
theorem repL_nums_inv {o : Bool} {w : World} : ∀ {xs : List Int} {cs : List Value} {F : List Nat}, repL int64 o w xs cs F → cs = xs.map (.int .i64) ∧ F = []
  | [], _, _, ⟨rfl, rfl⟩ => ⟨rfl, rfl⟩
  | s :: r, _, _, ⟨c1, c2, F1, F2, rfl, rfl, h1, h2⟩ => by
    obtain ⟨rfl, rfl, _⟩ := int64_rep.1 h1
    obtain ⟨rfl, rfl⟩ := repL_nums_inv h2
    exact ⟨rfl, rfl⟩

set_option maxRecDepth 100000 in
set_option maxHeartbeats 400000 in
theorem eqInt64S_c {oa ob : Bool} {ea eb : TypeId} {xs ys : List Int} {v u : Value} {F G : List Nat} (w : World) (h : (nums ea).rep oa w xs [v] F) (h' : (nums eb).rep ob w ys [u] G) (hx : xs.length ≤ 1048576) (hy : ys.length ≤ 1048576) :
    Calls Try.prog 25 #[v, u] w fun e w' => e = .returned (.bool (decide (xs = ys))) ∧ Below w.heap.size w w' := by
  obtain ⟨A, c, rfl, hc1, hc2, hr⟩ := nums_open h
  obtain ⟨B, d, rfl, hd1, hd2, hs⟩ := nums_open h'
  clear h h'
  by_cases hl : xs.length = ys.length
  · have hne : ((xs.length : Int) != (ys.length : Int)) = false := by simp [hl]
    have HL := Lib.hid hl
    clear hl
    go_enter Try.func25, Try.ntmps25
    go_wp2_with fail
    go_loopw [5] (fun i wr => ∃ k : Nat, k ≤ xs.length ∧ i = .int .i64 k ∧ (∀ j (hj : j < xs.length) (hj' : j < ys.length), j < k → xs[j] = ys[j]) ∧ Below w.heap.size w wr) (fun i _ => xs.length - (intOf i).toNat)
    case atStart => exact ⟨0, Nat.zero_le _, rfl, fun _ _ _ h => by omega, Below.refl _ _⟩
    case round =>
      obtain ⟨k, hk, rfl, hall, hb⟩ := hrel
      have hbs := hb.size
      by_cases hlt : k < xs.length
      · have hlt' : k < ys.length := by have := HL.out; omega
        obtain ⟨b, off, rfl, hbb, _, h0, _⟩ := hr k hlt
        obtain ⟨b', off', rfl, hbb', _, h0', _⟩ := hs k hlt'
        rw [← hb.cell (p := ⟨b, _, none⟩) hbb] at h0
        rw [← hb.cell (p := ⟨b', _, none⟩) hbb'] at h0'
        have HA := Lib.hid hall
        clear hr hs hall
        by_cases heq : xs[k] = ys[k]
        · have hq : (xs[k] != ys[k]) = false := by rw [heq]; simp
          have HE := Lib.hid heq
          clear heq
          go_wp2_with fail
          go_quiet (fail)
          go_wp2_with fail
          go_roundw
          case rel =>
            refine ⟨k + 1, by omega, by go_num, fun j hj hj' hjk => ?_, below_drewN hb nq⟩
            by_cases e : j = k
            · subst e; exact HE.out
            · exact HA.out j hj hj' (by omega)
          case measure => simp [intOf]; omega
        · have hq : (xs[k] != ys[k]) = true := by rw [bne_iff_ne]; exact heq
          have hne : ¬ xs = ys := fun e => by subst e; exact heq rfl
          have HE := Lib.hid hne
          clear heq hne
          go_wp2_with fail
          go_quiet (fail)
          go_wp2_with fail
          go_ret
          exact ⟨by simp [HE.out], below_drewN hb nq⟩
      · obtain rfl : k = xs.length := by omega
        have heq : xs = ys := List.ext_getElem HL.out (fun j h1 h2 => hall j h1 h2 h1)
        clear hall
        go_wp2_with fail
        go_ret
        exact ⟨by simp [heq], hb⟩
  · have hne : ((xs.length : Int) != (ys.length : Int)) = true := by rw [bne_iff_ne]; omega
    have hxy : ¬ xs = ys := fun e => hl (by rw [e])
    have HL := Lib.hid hxy
    clear hl hxy
    go_enter Try.func25, Try.ntmps25
    go_wp2_with fail
    go_ret
    exact ⟨by simp [HL.out], Below.refl _ _⟩

/-- The marks from number s on. -/
def markN (n s : Nat) : List Int := (List.range n).map fun i : Nat => (s : Int) + (i : Int)
theorem markN_len (n s : Nat) : (markN n s).length = n := by simp [markN]
theorem markN_succ (n s : Nat) : markN (n + 1) s = markN n s ++ [(s : Int) + (n : Int)] := by simp [markN, List.range_succ]
theorem markN_ok (n s : Nat) (hn : n ≤ 1048576) (hs : s ≤ 10000000) : ∀ x ∈ markN n s, I64 x := by
  intro x hx
  obtain ⟨i, hi, rfl⟩ := List.mem_map.1 hx
  have hi' : i < n := by simpa using hi
  exact ⟨by omega, by omega⟩

set_option maxRecDepth 100000 in
set_option maxHeartbeats 400000 in
theorem markInt64S_c {e : TypeId} {xs : List Int} {v : Value} {F : List Nat} (w : World) (h : (nums e).rep true w xs [v] F) (hx : xs.length ≤ 1048576) (s : Nat) (hs0 : 0 < s) (hs : s ≤ 10000000) :
    Calls Try.prog 28 #[v, .int .i64 s] w fun e' w' => e' = .returned (.int .i64 ((s : Int) + (xs.length : Int))) ∧ (nums e).rep true w' (markN xs.length s) [v] F ∧ Only F w w' := by
  by_cases hn : xs.length = 0
  · obtain ⟨A, c, hv, hc1, hc2, hr⟩ := slice_open h
    have hxs : xs = [] := List.eq_nil_of_length_eq_zero hn
    have h' : (nums e).rep true w (markN xs.length s) [v] F := by rw [hn]; rw [hxs] at h; exact h
    rw [hn] at hv
    subst hv
    rw [hn] at h' ⊢
    clear hn hr h hx hc1
    go_enter Try.func28, Try.ntmps28
    go_wp2_with fail
    refine wp_loop_rounds 1 ?_; rw [rounds_succ]
    go_wp2_with fail
    go_ret
    exact ⟨ret_int (by omega), h', Only.refl _ _⟩
  · obtain ⟨g, c, cs, rest, G, rfl, hl, hc, hrow, hrp, hlen, rfl⟩ := row_of_slice h (by omega)
    obtain ⟨rfl, rfl⟩ := repL_nums_inv hrp
    have hgl := hrow.lt
    clear hrp h
    go_enter Try.func28, Try.ntmps28
    go_wp2_with fail
    go_loopw [1, 5] (fun m i wr => ∃ k : Nat, k ≤ xs.length ∧ i = .int .i64 k ∧ m = .int .i64 ((s : Int) + (k : Int)) ∧ Row wr g e ((markN k s).map (Value.int .i64) ++ ((xs.drop k).map (Value.int .i64) ++ rest)) ∧ Only [g] w wr) (fun _ i _ => xs.length - (intOf i).toNat)
    case atStart => exact ⟨0, Nat.zero_le _, rfl, by simp, by simpa [markN] using hrow, Only.refl _ _⟩
    case round =>
      obtain ⟨k, hk, rfl, rfl, hrk, hb⟩ := hrel
      have hbs := hb.size
      by_cases hlt : k < xs.length
      · have hpl : ((markN k s).map (Value.int .i64)).length = k := by rw [List.length_map, markN_len]
        have hgw : g < wr.heap.size := hrk.lt
        rw [List.drop_eq_getElem_cons hlt, List.map_cons] at hrk
        have HP := Lib.hid hpl
        have HN := Lib.hid hn
        have HE := Lib.hid hlen
        have HR := Lib.hid hrk
        clear hpl hn hlen hrow hrk
        have R0 := HR.out
        obtain ⟨⟨v0, hv0⟩, hf0⟩ := Row.canJ R0 (i := k) (j := 0) (by rw [HP.out]; rfl) (by simp)
        have R1 := Row.put R0 (i := k) (j := 0) (by rw [HP.out]; rfl) (.int .i64 ((s : Int) + (k : Int)))
        have HZ := Lib.hid R1
        clear R0 R1
        go_wp2_with fail
        go_roundw
        case rel =>
          refine ⟨k + 1, by omega, by go_num, by go_num, ?_, hb.set (by simp) _⟩
          have R := HZ.out
          rw [markN_succ, List.map_append, List.append_assoc]
          exact R
        case measure => simp [intOf]; omega
      · obtain rfl : k = xs.length := by omega
        have HN := Lib.hid hn
        clear hn
        go_wp2_with fail
        go_ret
        rw [List.drop_length, List.map_nil, List.nil_append] at hrk
        exact ⟨rfl, slice_of_room hrk (repL_nums _ (markN_ok _ _ hx hs)) (by simp [markN]) hl hc (by rw [← hlen, List.length_append, List.length_append, List.length_map, List.length_map, markN_len]), hb⟩

set_option maxRecDepth 100000 in
set_option maxHeartbeats 400000 in
theorem heldInt64S_c {o : Bool} {e : TypeId} {n : Nat} {v : Value} {F : List Nat} (w : World) (s : Nat) (h : (nums e).rep o w (markN n s) [v] F) (hx : n ≤ 1048576) (hs0 : 0 < s) (hs : s ≤ 10000000) :
    Calls Try.prog 29 #[v, .int .i64 s] w fun e' w' => e' = .returned (.int .i64 ((s : Int) + (n : Int))) ∧ Below w.heap.size w w' := by
  obtain ⟨A, c, rfl, hc1, hc2, hr⟩ := nums_open h
  have hn := markN_len n s
  rw [hn] at hc1 ⊢
  have hr' : ∀ k, k < n → ∃ b off, A = some ⟨b, off, none⟩ ∧ b < w.heap.size ∧ w.cell? ⟨b, off + k, none⟩ = some (.int .i64 ((s : Int) + (k : Int))) := by
    intro k hk
    obtain ⟨b, off, hA, hb, _, hc, _⟩ := hr k (by rw [hn]; exact hk)
    refine ⟨b, off, hA, hb, ?_⟩
    rw [hc]; simp [markN]
  clear hr h hn
  go_enter Try.func29, Try.ntmps29
  go_wp2_with fail
  go_loopw [1, 5] (fun m i wr => ∃ k : Nat, k ≤ n ∧ i = .int .i64 k ∧ m = .int .i64 ((s : Int) + (k : Int)) ∧ Below w.heap.size w wr) (fun _ i _ => n - (intOf i).toNat)
  case atStart => exact ⟨0, Nat.zero_le _, rfl, by simp, Below.refl _ _⟩
  case round =>
    obtain ⟨k, hk, rfl, rfl, hb⟩ := hrel
    have hbs := hb.size
    by_cases hlt : k < n
    · obtain ⟨b, off, rfl, hbb, h0⟩ := hr' k hlt
      rw [← hb.cell (p := ⟨b, _, none⟩) hbb] at h0
      have hq : ((s : Int) + (k : Int) != (s : Int) + (k : Int)) = false := by simp
      clear hr'
      go_wp2_with fail
      go_roundw
      case rel => exact ⟨k + 1, by omega, by go_num, by go_num, hb⟩
      case measure => simp [intOf]; omega
    · obtain rfl : k = n := by omega
      go_wp2_with fail
      go_ret
      exact ⟨rfl, hb⟩
end Go.Proofs.Ytkickllohilciaa

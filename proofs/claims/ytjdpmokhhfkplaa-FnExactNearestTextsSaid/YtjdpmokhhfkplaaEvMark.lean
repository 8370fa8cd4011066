/- The type AlignStep: its data, how it lies in memory, and the law's own helpers over it. Conditions: none. -/
import Derived.Test.YtjdpmokhhfkplaaRows
import Derived.Test.YtjdpmokhhfkplaaEvEq
import Derived.Test.YtjdpmokhhfkplaaStrS
namespace Go.Proofs.Ytjdpmokhhfkplaa
open Go Go.RowKit

def astepCells (s : AStep) : List Value := [.int .i64 s.op, .int .i64 s.i, .int .i64 s.j]
def astepOk (s : AStep) : Prop := I64 s.op ∧ I64 s.i ∧ I64 s.j
theorem astepCells_len (xs : List AStep) : (xs.flatMap astepCells).length = xs.length * 3 := by
  induction xs with
  | nil => rfl
  | cons a r ih => simp only [List.flatMap_cons, List.length_append, ih, List.length_cons]; simp [astepCells]; omega
theorem repL_astep {o : Bool} {w : World} : ∀ (xs : List AStep), (∀ s ∈ xs, astepOk s) → repL astep o w xs (xs.flatMap astepCells) []
  | [], _ => ⟨rfl, rfl⟩
  | s :: r, h => ⟨_, _, [], [], rfl, rfl, astep_rep.2 ⟨rfl, rfl, h s (by simp)⟩, repL_astep r (fun t ht => h t (by simp [ht]))⟩
theorem repL_astep_inv {o : Bool} {w : World} : ∀ {xs : List AStep} {cs : List Value} {F : List Nat}, repL astep o w xs cs F → cs = xs.flatMap astepCells ∧ F = []
  | [], _, _, ⟨rfl, rfl⟩ => ⟨rfl, rfl⟩
  | s :: r, _, _, ⟨c1, c2, F1, F2, rfl, rfl, h1, h2⟩ => by
    obtain ⟨rfl, rfl, _⟩ := astep_rep.1 h1
    obtain ⟨rfl, rfl⟩ := repL_astep_inv h2
    exact ⟨rfl, rfl⟩
theorem asteps_ok {o : Bool} {w : World} {e : TypeId} {xs : List AStep} {v : Value} {F : List Nat} (h : (asteps e).rep o w xs [v] F) : ∀ s ∈ xs, astepOk s := by
  obtain ⟨_, _, _, _, _, hr⟩ := asteps_open h
  intro s hs
  obtain ⟨k, hk, rfl⟩ := List.getElem_of_mem hs
  obtain ⟨_, _, _, _, _, _, _, _, h⟩ := hr k hk
  exact h

/-- The marks from number s on. -/
def markAStep (n s : Nat) : List AStep := (List.range n).map fun i : Nat => ⟨(s : Int) + (i : Int) * 3, (s : Int) + (i : Int) * 3 + 1, (s : Int) + (i : Int) * 3 + 1 + 1⟩
theorem markAStep_len (n s : Nat) : (markAStep n s).length = n := by simp [markAStep]
theorem markAStep_succ (n s : Nat) : markAStep (n + 1) s = markAStep n s ++ [⟨(s : Int) + (n : Int) * 3, (s : Int) + (n : Int) * 3 + 1, (s : Int) + (n : Int) * 3 + 1 + 1⟩] := by simp [markAStep, List.range_succ]
theorem markAStep_ok (n s : Nat) (hn : n ≤ 1048576) (hs : s ≤ 10000000) : ∀ x ∈ markAStep n s, astepOk x := by
  intro x hx
  obtain ⟨i, hi, rfl⟩ := List.mem_map.1 hx
  have hi' : i < n := by simpa using hi
  refine ⟨⟨by dsimp only; omega, by dsimp only; omega⟩, ⟨by dsimp only; omega, by dsimp only; omega⟩, ⟨by dsimp only; omega, by dsimp only; omega⟩⟩
set_option maxRecDepth 100000 in
set_option maxHeartbeats 1000000 in
theorem markAlignStepS_c {e : TypeId} {xs : List AStep} {v : Value} {F : List Nat} (w : World) (h : (asteps e).rep true w xs [v] F) (hx : xs.length ≤ 1048576) (s : Nat) (hs0 : 0 < s) (hs : s ≤ 10000000) :
    Calls Try.prog 54 #[v, .int .i64 s] w fun e' w' => e' = .returned (.int .i64 ((s : Int) + (xs.length : Int) * 3)) ∧ (asteps e).rep true w' (markAStep xs.length s) [v] F ∧ Only F w w' := by
  by_cases hn : xs.length = 0
  · obtain ⟨A, c, hv, hc1, hc2, hr⟩ := slice_open h
    have hxs : xs = [] := List.eq_nil_of_length_eq_zero hn
    have h' : (asteps e).rep true w (markAStep xs.length s) [v] F := by rw [hn]; rw [hxs] at h; exact h
    rw [hn] at hv
    subst hv
    rw [hn] at h' ⊢
    clear hn hr h hx hc1
    go_enter Try.func54, Try.ntmps54
    go_wp2_with fail
    refine wp_loop_rounds 1 ?_; rw [rounds_succ]
    go_wp2_with fail
    go_ret
    exact ⟨ret_int (by omega), h', Only.refl _ _⟩
  · obtain ⟨g, c, cs, rest, G, rfl, hl, hc, hrow, hrp, hlen, rfl⟩ := row_of_slice h (by omega)
    obtain ⟨rfl, rfl⟩ := repL_astep_inv hrp
    have hgl := hrow.lt
    clear hrp h
    go_enter Try.func54, Try.ntmps54
    go_wp2_with fail
    go_loopw [1, 5] (fun m i wr => ∃ k : Nat, k ≤ xs.length ∧ i = .int .i64 k ∧ m = .int .i64 ((s : Int) + (k : Int) * 3) ∧ Row wr g e ((markAStep k s).flatMap astepCells ++ ((xs.drop k).flatMap astepCells ++ rest)) ∧ Only [g] w wr) (fun _ i _ => xs.length - (intOf i).toNat)
    case atStart => exact ⟨0, Nat.zero_le _, rfl, by simp, by simpa [markAStep] using hrow, Only.refl _ _⟩
    case round =>
      obtain ⟨k, hk, rfl, rfl, hrk, hb⟩ := hrel
      have hbs := hb.size
      by_cases hlt : k < xs.length
      · have hpl : ((markAStep k s).flatMap astepCells).length = k * 3 := by rw [astepCells_len, markAStep_len]
        have hgw : g < wr.heap.size := hrk.lt
        rw [List.drop_eq_getElem_cons hlt, List.flatMap_cons] at hrk
        have HP := Lib.hid hpl
        have HN := Lib.hid hn
        have HE := Lib.hid hlen
        have HR := Lib.hid hrk
        clear hpl hn hlen hrow hrk
        have R0 := HR.out
        obtain ⟨⟨v0, hv0⟩, hf0⟩ := Row.canJ R0 (i := k * 3) (j := 0) (by rw [HP.out]; rfl) (by simp [astepCells])
        have R1 := Row.put R0 (i := k * 3) (j := 0) (by rw [HP.out]; rfl) (.int .i64 ((s : Int) + (k : Int) * 3))
        obtain ⟨⟨v1, hv1⟩, hf1⟩ := Row.canJ R1 (i := k * 3 + 1) (j := 1) (by rw [HP.out]) (by simp [astepCells])
        have R2 := Row.put R1 (i := k * 3 + 1) (j := 1) (by rw [HP.out]) (.int .i64 ((s : Int) + (k : Int) * 3 + 1))
        obtain ⟨⟨v2, hv2⟩, hf2⟩ := Row.canJ R2 (i := k * 3 + 2) (j := 2) (by rw [HP.out]) (by simp [astepCells])
        have R3 := Row.put R2 (i := k * 3 + 2) (j := 2) (by rw [HP.out]) (.int .i64 ((s : Int) + (k : Int) * 3 + 1 + 1))
        have HZ := Lib.hid R3
        clear R0 R1 R2 R3
        go_wp2_with fail
        go_roundw
        case rel =>
          refine ⟨k + 1, by omega, by go_num, by go_num, ?_, (((hb.set (by simp) _).set (by simp) _).set (by simp) _)⟩
          have R := HZ.out
          rw [markAStep_succ, List.flatMap_append, List.append_assoc]
          exact R
        case measure => simp [intOf]; omega
      · obtain rfl : k = xs.length := by omega
        have HN := Lib.hid hn
        clear hn
        go_wp2_with fail
        go_ret
        rw [List.drop_length, List.flatMap_nil, List.nil_append] at hrk
        exact ⟨rfl, slice_of_room hrk (repL_astep _ (markAStep_ok _ _ hx hs)) (by simp [markAStep]) hl hc (by rw [← hlen, List.length_append, List.length_append, astepCells_len, astepCells_len, markAStep_len]), hb⟩
set_option maxRecDepth 100000 in
set_option maxHeartbeats 1000000 in
theorem heldAlignStepS_c {o : Bool} {e : TypeId} {n : Nat} {v : Value} {F : List Nat} (w : World) (s : Nat) (h : (asteps e).rep o w (markAStep n s) [v] F) (hx : n ≤ 1048576) (hs0 : 0 < s) (hs : s ≤ 10000000) :
    Calls Try.prog 55 #[v, .int .i64 s] w fun e' w' => e' = .returned (.int .i64 ((s : Int) + (n : Int) * 3)) ∧ Below w.heap.size w w' := by
  obtain ⟨A, c, rfl, hc1, hc2, hr⟩ := asteps_open h
  have hn := markAStep_len n s
  rw [hn] at hc1 ⊢
  have hr' : ∀ k, k < n → ∃ b off, A = some ⟨b, off, none⟩ ∧ b < w.heap.size ∧ w.cell? ⟨b, off + k * 3, none⟩ = some (.int .i64 ((s : Int) + (k : Int) * 3)) ∧ w.cell? ⟨b, off + k * 3 + 1, none⟩ = some (.int .i64 ((s : Int) + (k : Int) * 3 + 1)) ∧ w.cell? ⟨b, off + k * 3 + 2, none⟩ = some (.int .i64 ((s : Int) + (k : Int) * 3 + 1 + 1)) := by
    intro k hk
    obtain ⟨b, off, hA, hb, _, c0, c1, c2, _⟩ := hr k (by rw [hn]; exact hk)
    have e : (markAStep n s)[k]'(by rw [hn]; exact hk) = ⟨(s : Int) + (k : Int) * 3, (s : Int) + (k : Int) * 3 + 1, (s : Int) + (k : Int) * 3 + 1 + 1⟩ := by simp [markAStep]
    rw [e] at c0 c1 c2
    exact ⟨b, off, hA, hb, c0, c1, c2⟩
  clear hr h hn
  go_enter Try.func55, Try.ntmps55
  go_wp2_with fail
  go_loopw [1, 5] (fun m i wr => ∃ k : Nat, k ≤ n ∧ i = .int .i64 k ∧ m = .int .i64 ((s : Int) + (k : Int) * 3) ∧ Below w.heap.size w wr) (fun _ i _ => n - (intOf i).toNat)
  case atStart => exact ⟨0, Nat.zero_le _, rfl, by simp, Below.refl _ _⟩
  case round =>
    obtain ⟨k, hk, rfl, rfl, hb⟩ := hrel
    have hbs := hb.size
    by_cases hlt : k < n
    · obtain ⟨b, off, rfl, hbb, c0, c1, c2⟩ := hr' k hlt
      have hbw : b < wr.heap.size := by omega
      rw [← hb.cell (p := ⟨b, _, none⟩) hbb] at c0 c1 c2
      clear hr'
      go_wp2_with fail
      go_roundw
      case rel => exact ⟨k + 1, by omega, by go_num, by go_num, hb⟩
      case measure => simp [intOf]; omega
    · obtain rfl : k = n := by omega
      go_wp2_with fail
      go_ret
      exact ⟨rfl, hb⟩
end Go.Proofs.Ytjdpmokhhfkplaa

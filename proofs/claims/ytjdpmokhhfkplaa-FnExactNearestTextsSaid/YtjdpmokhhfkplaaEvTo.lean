/- toAlignStepS. Conditions: none. -/
import Derived.Test.YtjdpmokhhfkplaaRows
import Derived.Test.YtjdpmokhhfkplaaEvStep
import Derived.Test.YtjdpmokhhfkplaaRow
namespace Go.Proofs.Ytjdpmokhhfkplaa
open Go Go.RowKit

set_option maxHeartbeats 400000 in
theorem toAlignStep_c (s : AStep) (w : World) :
    Calls Try.prog 64 #[.agg #[.int .i64 s.op, .int .i64 s.i, .int .i64 s.j]] w fun e w' => e = .returned (.agg #[.int .i64 s.op, .int .i64 s.i, .int .i64 s.j]) ∧ Below w.heap.size w w' := by
  go_enter Try.func64, Try.ntmps64
  go_wp2_with fail
  refine bodyPost_ret (v := .agg #[.int .i64 s.op, .int .i64 s.i, .int .i64 s.j]) (by simp [results, Try.results64, go_sem]) rfl ⟨rfl, ?_⟩
  exact (((Below.refl _ _).alloc (Nat.le_refl _) _).alloc (by simp) _).alloc (by simp; omega) _

def stepCells (s : AStep) : List Value := [.int .i64 s.op, .int .i64 s.i, .int .i64 s.j]

theorem stepCells_len (xs : List AStep) : (xs.flatMap stepCells).length = xs.length * 3 := by
  induction xs with
  | nil => rfl
  | cons a r ih => simp only [List.flatMap_cons, List.length_append, ih, List.length_cons]; simp [stepCells]; omega
def okStep (s : AStep) : Prop := I64 s.op ∧ I64 s.i ∧ I64 s.j
theorem repL_steps {o : Bool} {w : World} : ∀ (xs : List AStep), (∀ s ∈ xs, okStep s) → repL astep o w xs (xs.flatMap stepCells) []
  | [], _ => ⟨rfl, rfl⟩
  | s :: r, h => ⟨_, _, [], [], rfl, rfl, astep_rep.2 ⟨rfl, rfl, h s (by simp)⟩, repL_steps r (fun t ht => h t (by simp [ht]))⟩

set_option maxHeartbeats 400000 in
theorem toAlignStepS_c {e : TypeId} {xs : List AStep} {v : Value} {F : List Nat} (w : World) (h : (asteps e).rep false w xs [v] F) (hx : xs.length ≤ 1048576) :
    Calls Try.prog 24 #[v] w fun e w' => ∃ u G, e = .returned u ∧ (asteps 76).rep true w' xs [u] G ∧ Fresh w.heap.size G ∧ Below w.heap.size w w' := by
  obtain ⟨A, c, rfl, hc1, hc2, hr⟩ := asteps_open h
  have hmk := make_run (P := Try.prog) (t := 33) (e := 76) (z := .agg #[.int .i64 0, .int .i64 0, .int .i64 0]) (size := 3) (bytes := 24) Try.underlying33 (by kernel_rfl) xs.length xs.length rfl (by omega) (by unfold maxLen; omega)
  have hok : ∀ s ∈ xs, okStep s := by
    intro s hs
    obtain ⟨k, hk, rfl⟩ := List.getElem_of_mem hs
    obtain ⟨_, _, _, _, _, _, _, _, h⟩ := hr k hk
    exact h
  go_enter Try.func24, Try.ntmps24
  go_wp2_with fail
  go_loopw [4] (fun i wr => ∃ k : Nat, k ≤ xs.length ∧ i = .int .i64 k ∧ ∃ rest, Row wr w.heap.size 76 ((xs.take k).flatMap stepCells ++ rest) ∧ rest.length = (xs.length - k) * 3 ∧ Below w.heap.size w wr) (fun i _ => xs.length - (intOf i).toNat)
  case atStart => 
    refine ⟨0, Nat.zero_le _, rfl, (madeCells #[.int .i64 0, .int .i64 0, .int .i64 0] (xs.length * 3)).toList, ?_, by simp [madeCells], (Below.refl _ _).alloc (Nat.le_refl _) _⟩
    exact Row.new w _ _
  case round =>
    obtain ⟨k, hk, rfl, rest, hrow, hrl, hb⟩ := hrel
    by_cases hlt : k < xs.length
    · obtain ⟨b, off, rfl, hbb, _, h0, h1, h2, _, _, _⟩ := hr k hlt
      rw [← hb.cell (p := ⟨b, _, none⟩) hbb] at h0 h1 h2
      have hbs := hb.size
      have hrl2 := hrow.lt
      have hpl : ((xs.take k).flatMap stepCells).length = k * 3 := by rw [stepCells_len, List.length_take]; omega
      obtain ⟨r0, r1, r2, rest', rfl⟩ : ∃ r0 r1 r2 rest', rest = r0 :: r1 :: r2 :: rest' := by
        match rest, hrl with
        | r0 :: r1 :: r2 :: rest', _ => exact ⟨_, _, _, _, rfl⟩
        | [], h => simp at h; omega
        | [_], h => simp at h; omega
        | [_, _], h => simp at h; omega
      clear hr h hmk
      go_wp2_with (go_at_call 64; refine (toAlignStep_c xs[k] _).mono ?_; rintro e w1 ⟨rfl, hb1⟩; have hrow1 := hrow.later hb1; obtain ⟨⟨v0, hv0⟩, hf0⟩ := hrow1.can (i := k * 3) (by simp [hpl]); obtain ⟨⟨v1, hv1⟩, hf1⟩ := hrow1.can (i := k * 3 + 1) (by simp [hpl]); obtain ⟨⟨v2, hv2⟩, hf2⟩ := hrow1.can (i := k * 3 + 2) (by simp [hpl]))
      go_roundw
      case rel =>
        refine ⟨k + 1, by omega, by go_num, rest', ?_, by simp at hrl; omega, ((((hb.trans (hb1.mono hbs)).setCell (Nat.le_refl _) _).setCell (Nat.le_refl _) _).setCell (Nat.le_refl _) _)⟩
        have R := ((hrow1.put (j := 0) (i := k * 3) (by rw [hpl]; rfl) (.int .i64 xs[k].op)).put (j := 1) (i := k * 3 + 1) (by rw [hpl]) (.int .i64 xs[k].i)).put (j := 2) (i := k * 3 + 2) (by rw [hpl]) (.int .i64 xs[k].j)
        rw [List.take_succ_eq_append_getElem hlt, List.flatMap_append, List.append_assoc]
        exact R
      case measure => simp [intOf]; omega
    · obtain rfl : k = xs.length := by omega
      go_wp2_with fail
      go_ret
      have h0 : rest = [] := List.eq_nil_of_length_eq_zero (by simpa using hrl)
      subst h0
      rw [List.append_nil, List.take_length] at hrow
      exact ⟨_, [w.heap.size], rfl, slice_of_row hrow (repL_steps xs hok) (by unfold maxLen; omega), ⟨by simp, by simp⟩, hb⟩
end Go.Proofs.Ytjdpmokhhfkplaa

/- What FnNearestTexts draws. Conditions: none. -/
import Derived.Test.YtelkggafmnckoaaSrc2
import Derived.Test.YtelkggafmnckoaaAppend
namespace Go.Proofs.Ytelkggafmnckoaa
open Go Go.RowKit

theorem Try.infoStr : (Try.prog.info? 9).map (fun i => (i.zero, i.size, i.bytes)) = some (some (.string .empty), str.size, 16) := by kernel_rfl
theorem l00From_c {e : TypeId} {code : List UInt8} {v : Value} {F : List Nat} (w : World) (h : (byte.slice e).rep false w code [v] F) (hc : code.length ≤ 4096) :
    Calls Try.prog 38 #[v] w fun e' w' => e' = .returned (.pointer (some ⟨w.heap.size, 0, none⟩)) ∧ SrcIs (w.heap.size + 1) w.heap.size code 0 w' ∧ Below w.heap.size w w' := by
  have HF := Lib.hid (Ty.lt _ h)
  obtain ⟨A, c, rfl⟩ := slice_len h
  have R := Row.new w 91 #[.slice A code.length c, .int .i64 0, .int .u64 0]
  have HR := Lib.hid (Ty.kept _ (w' := w.alloc (.cells #[.slice A code.length c, .int .i64 0, .int .u64 0] 91)) h (fun b hb => Below.heap_alloc w _ b (HF.out b hb)))
  clear h
  go_enter Try.func38, Try.ntmps38
  go_wp2_with fail
  go_ret
  exact ⟨rfl, ⟨hc, by omega, e, _, F, 0, 0, R, HR.out, fun b hb => by have := HF.out b hb; omega, by omega, by omega, by omega⟩, (Below.refl _ _).alloc (Nat.le_refl _) _⟩
theorem f6big_c {e : TypeId} {code : List UInt8} {v : Value} {F : List Nat} {w : World} (h : (byte.slice e).rep false w code [v] F) :
    Calls Try.prog 6 #[v] w fun e' w' => e' = .returned (.bool (decide (4096 < code.length))) ∧ w = w' := by
  obtain ⟨A, c, rfl⟩ := slice_len h
  clear h
  by_cases hb : 4096 < code.length
  · have g : (4096 : Int) < (code.length : Int) := by omega
    rw [decide_eq_true hb]
    go_enter Try.func6, Try.ntmps6
    go_wp2_with fail
    go_ret
    exact ⟨congrArg (fun b => Ending.returned (.bool b)) (by simp), rfl⟩
  · have g : ¬ ((4096 : Int) < (code.length : Int)) := by omega
    rw [decide_eq_false hb]
    go_enter Try.func6, Try.ntmps6
    go_wp2_with fail
    go_ret
    exact ⟨congrArg (fun b => Ending.returned (.bool b)) (by simp), rfl⟩
theorem strs_empty_at (w : World) : (strs 9).rep true (w.alloc (.cells #[] 9)) [] [.slice (some ⟨w.heap.size, 0, none⟩) 0 0] [w.heap.size] := slice_of_row (xs := []) (Row.new w _ _) ⟨rfl, rfl⟩ (by simp [maxLen])
theorem empties (n : Nat) : (madeCells (Value.cells (.string .empty)) (n * 1)).toList = (List.replicate n ByteArray.empty).map Value.string := by
  simp [madeCells, Value.cells]
  apply List.ext_getElem
  · simp
  · intro i h1 h2
    simp [Nat.mod_one]
end Go.Proofs.Ytelkggafmnckoaa

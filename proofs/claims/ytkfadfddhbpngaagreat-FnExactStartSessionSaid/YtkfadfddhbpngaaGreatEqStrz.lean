/- Lists of strings are equal. Conditions: none. -/
import Derived.Test.YtkfadfddhbpngaaGreatStrSz
import Derived.Laws.StructEq
import Derived.Test.YtkfadfddhbpngaaGreatLibz
import Derived.Test.YtkfadfddhbpngaaGreatRows
import Derived.Test.YtkfadfddhbpngaaGreatTyInkz
import Derived.Test.YtkfadfddhbpngaaGreatTyPointz
import Derived.Shelf.Strings.Search1
import Derived.Shelf.Strings.Search2
import Derived.Shelf.Strings.Search3
import Derived.Test.YtkfadfddhbpngaaGreatProg
namespace Go.Proofs.YtkfadfddhbpngaaGreat
open Go Go.RowKit

/-- A truth value, and nothing but draws. -/
def GivesB (b : Bool) (w : World) (e : Ending) (w' : World) : Prop := e = .returned (.bool b) ∧ ∃ n, w' = w.drewN n
end Go.Proofs.YtkfadfddhbpngaaGreat
namespace Go.Proofs.YtkfadfddhbpngaaGreat
open Go Go.RowKit

theorem ret_boolI {a b : Bool} (h : a = b) : Ending.returned (.bool a) = .returned (.bool b) := by rw [h]
/-- lo ≤ n ≤ hi. -/
def inR (n lo hi : Int) : Bool := decide (lo ≤ n) && decide (n ≤ hi)
set_option maxHeartbeats 400000 in
theorem spec_inR_c (n lo hi : Int) (w : World) :
    Calls Tryz.prog 111 #[.int .i64 n, .int .i64 lo, .int .i64 hi] w fun e w' => e = .returned (.bool (inR n lo hi)) ∧ w = w' := by
  by_cases h : lo ≤ n
  · have g : decide (lo ≤ n) = true := by simpa using h
    go_enter Tryz.func111, Tryz.ntmps111
    go_wp2_with fail
    all_goals go_ret
    all_goals exact ⟨ret_boolI (by simp [inR, *]), rfl⟩
  · have g : decide (lo ≤ n) = false := by simpa using h
    go_enter Tryz.func111, Tryz.ntmps111
    go_wp2_with fail
    all_goals go_ret
    all_goals exact ⟨ret_boolI (by simp [inR, *]), rfl⟩
set_option maxHeartbeats 400000 in
theorem impl_inR_c (n lo hi : Int) (w : World) :
    Calls Tryz.prog 120 #[.int .i64 n, .int .i64 lo, .int .i64 hi] w fun e w' => e = .returned (.bool (inR n lo hi)) ∧ w = w' := by
  by_cases h : lo ≤ n
  · have g : decide (lo ≤ n) = true := by simpa using h
    go_enter Tryz.func120, Tryz.ntmps120
    go_wp2_with fail
    all_goals go_ret
    all_goals exact ⟨ret_boolI (by simp [inR, *]), rfl⟩
  · have g : decide (lo ≤ n) = false := by simpa using h
    go_enter Tryz.func120, Tryz.ntmps120
    go_wp2_with fail
    all_goals go_ret
    all_goals exact ⟨ret_boolI (by simp [inR, *]), rfl⟩
end Go.Proofs.YtkfadfddhbpngaaGreat
namespace Go.Proofs.YtkfadfddhbpngaaGreat
open Go Go.RowKit

/-- A point out of a list. -/
def pt (s : PStroke) (k : Nat) : PPoint := s.getD k ⟨0, 0, 0⟩
end Go.Proofs.YtkfadfddhbpngaaGreat
namespace Go.Proofs.YtkfadfddhbpngaaGreat
open Go Go.Shelf Go.RowKit

def lays144_ren : Go.Shelf.Ren := ⟨fun | 144 => 237 | 143 => 246 | 219 => 252 | 217 => 256 | 225 => 257 | 224 => 258 | 267 => 259 | 266 => 260 | 314 => 261 | n => n, fun | 9 => 9 | 4 => 4 | 3 => 3 | 5 => 5 | 46 => 301 | 146 => 303 | 51 => 302 | n => n, fun | 1 => 0 | n => n⟩
theorem lays144 : Go.Proofs.Lays.n144 Tryz.prog lays144_ren := {
  mixed := by kernel_rfl
  f143 := Tryz.func246.trans (congrArg some (by kernel_rfl))
  f144 := Tryz.func237.trans (congrArg some (by kernel_rfl))
  f217 := Tryz.func256.trans (congrArg some (by kernel_rfl))
  f219 := Tryz.func252.trans (congrArg some (by kernel_rfl))
  f224 := Tryz.func258.trans (congrArg some (by kernel_rfl))
  f225 := Tryz.func257.trans (congrArg some (by kernel_rfl))
  f266 := Tryz.func260.trans (congrArg some (by kernel_rfl))
  f267 := Tryz.func259.trans (congrArg some (by kernel_rfl))
  f314 := Tryz.func261.trans (congrArg some (by kernel_rfl))
  t3 := Tryz.underlying3
  a3 := Tryz.isAgg3
  z3 := Tryz.sizeOf3
  v3 := Tryz.zeroValue3
  t4 := Tryz.underlying4
  a4 := Tryz.isAgg4
  z4 := Tryz.sizeOf4
  v4 := Tryz.zeroValue4
  t5 := Tryz.underlying5
  a5 := Tryz.isAgg5
  z5 := Tryz.sizeOf5
  v5 := Tryz.zeroValue5
  t9 := Tryz.underlying9
  a9 := Tryz.isAgg9
  z9 := Tryz.sizeOf9
  v9 := Tryz.zeroValue9
  t46 := Tryz.underlying301
  a46 := Tryz.isAgg301
  z46 := Tryz.sizeOf301
  v46 := Tryz.zeroValue301
  t51 := Tryz.underlying302
  a51 := Tryz.isAgg302
  z51 := Tryz.sizeOf302
  v51 := Tryz.zeroValue302
  t146 := Tryz.underlying303
  a146 := Tryz.isAgg303
  z146 := Tryz.sizeOf303
  v146 := Tryz.zeroValue303
  g1 := by kernel_rfl }
open Go.RowKit Go.Lib in
theorem strings_Contains_one (s : ByteArray) (c : UInt8) (w : World) :
    Calls Tryz.prog 237 #[.string s, .string ⟨#[c]⟩] w fun e w' => e = .returned (.bool (decide (0 ≤ Lib.indexByte s.data.toList c))) ∧ w' = w := Any.strings_Contains_one lays144 s c w
end Go.Proofs.YtkfadfddhbpngaaGreat

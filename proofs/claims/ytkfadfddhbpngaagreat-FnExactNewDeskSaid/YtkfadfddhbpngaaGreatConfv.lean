/- Confusions, in plain Lean: counting into an ordered list is sorting and counting neighbours; the order of strings. No program is named here. Conditions: none. -/
import Derived.Test.YtkfadfddhbpngaaGreatStrSv
import Derived.Laws.Strings
import Derived.Test.YtkfadfddhbpngaaGreatLibv
import Derived.Test.YtkfadfddhbpngaaGreatRows
import Derived.Test.YtkfadfddhbpngaaGreatTyInkv
import Derived.Test.YtkfadfddhbpngaaGreatTyPointv
import Derived.Shelf.Strings.Search1
import Derived.Shelf.Strings.Search2
import Derived.Shelf.Strings.Search3
import Derived.Test.YtkfadfddhbpngaaGreatProg
namespace Go.Proofs.YtkfadfddhbpngaaGreat
open Go Go.RowKit

section
variable {K : Type} [DecidableEq K] (lt : K → K → Bool)
/-- A strict total order. -/
structure STO : Prop where
 irr : ∀ a, lt a a = false
 tr : ∀ a b c, lt a b = true → lt b c = true → lt a c = true
 tot : ∀ a b, lt a b = false → lt b a = false → a = b
variable {lt}
omit [DecidableEq K] in
theorem STO.asym (h : STO lt) {a b : K} (h1 : lt a b = true) : lt b a = false := by
 cases h2 : lt b a with
 | false => rfl
 | true => have := h.tr _ _ _ h1 h2; rw [h.irr] at this; cases this
omit [DecidableEq K] in
theorem STO.ne (h : STO lt) {a b : K} (h1 : lt a b = true) : a ≠ b := fun e => by rw [e, h.irr] at h1; cases h1
omit [DecidableEq K] in
theorem STO.cases (h : STO lt) (a b : K) : (lt a b = true ∧ lt b a = false ∧ a ≠ b ∧ b ≠ a) ∨ a = b ∨ (lt a b = false ∧ lt b a = true ∧ a ≠ b ∧ b ≠ a) := by
 cases h1 : lt a b with
 | true => exact .inl ⟨rfl, h.asym h1, h.ne h1, (h.ne h1).symm⟩
 | false =>
  cases h2 : lt b a with
  | true => exact .inr (.inr ⟨rfl, rfl, (h.ne h2).symm, h.ne h2⟩)
  | false => exact .inr (.inl (h.tot _ _ h1 h2))
omit [DecidableEq K] in
end

/-! ### The order of strings -/
theorem bl_irr : ∀ l : List UInt8, Op.bytesLess l l = false
 | [] => rfl
 | a :: l => by simp [Op.bytesLess, bl_irr l]
theorem bl_tr : ∀ x y z : List UInt8, Op.bytesLess x y = true → Op.bytesLess y z = true → Op.bytesLess x z = true
 | _, [], _, h, _ => by cases ‹List UInt8› <;> simp [Op.bytesLess] at h
 | _, _ :: _, [], _, h => by simp [Op.bytesLess] at h
 | [], _ :: _, _ :: _, _, _ => rfl
 | a :: x, b :: y, c :: z, h1, h2 => by
  simp only [Op.bytesLess, Bool.or_eq_true, Bool.and_eq_true, decide_eq_true_eq, beq_iff_eq] at h1 h2 ⊢
  rcases h1 with h1 | ⟨rfl, h1⟩
  · rcases h2 with h2 | ⟨rfl, h2⟩
    · exact .inl (UInt8.lt_trans h1 h2)
    · exact .inl h1
  · rcases h2 with h2 | ⟨rfl, h2⟩
    · exact .inl h2
    · exact .inr ⟨rfl, bl_tr x y z h1 h2⟩
theorem bl_tot : ∀ x y : List UInt8, Op.bytesLess x y = false → Op.bytesLess y x = false → x = y
 | [], [], _, _ => rfl
 | [], _ :: _, h, _ => by simp [Op.bytesLess] at h
 | _ :: _, [], _, h => by simp [Op.bytesLess] at h
 | a :: x, b :: y, h1, h2 => by
  simp only [Op.bytesLess, Bool.or_eq_false_iff, decide_eq_false_iff_not] at h1 h2
  have e : a = b := by
   have l1 := UInt8.not_lt.1 h1.1
   have l2 := UInt8.not_lt.1 h2.1
   exact UInt8.le_antisymm l2 l1
  subst e
  rw [bl_tot x y (by simpa using h1.2) (by simpa using h2.2)]
def bLess (a b : ByteArray) : Bool := Op.bytesLess a.toList b.toList
theorem toList_inj {a b : ByteArray} (h : a.toList = b.toList) : a = b := by
 have := str_eq a b
 rw [h] at this
 simpa using this.symm
theorem bLess_sto : STO bLess := ⟨fun _ => bl_irr _, fun _ _ _ => bl_tr _ _ _, fun _ _ h1 h2 => toList_inj (bl_tot _ _ h1 h2)⟩
abbrev CKey := ByteArray × ByteArray
def cLess (x y : CKey) : Bool := bLess x.1 y.1 || (decide (x.1 = y.1) && bLess x.2 y.2)
def cmpF (x y : ByteArray) : Int := if bLess x y then -1 else if bLess y x then 1 else 0
theorem cmpF_neg (x y : ByteArray) : cmpF x y < 0 ↔ bLess x y = true := by
 unfold cmpF
 split
 · simp [*]
 · split <;> simp [*]
theorem cmpF_zero (x y : ByteArray) : cmpF x y = 0 ↔ x = y := by
 unfold cmpF
 rcases bLess_sto.cases x y with h | rfl | h
 · simp [h.1, h.2.2.1]
 · simp [bLess_sto.irr]
 · simp [h.1, h.2.1, h.2.2.1]
def cmpC (x y : CKey) : Int := if cmpF x.1 y.1 ≠ 0 then cmpF x.1 y.1 else cmpF x.2 y.2
theorem cmpC_neg (x y : CKey) : decide (cmpC x y < 0) = cLess x y := by
 unfold cmpC cLess
 rw [Bool.eq_iff_iff]
 by_cases h : cmpF x.1 y.1 = 0
 · rw [if_neg (by simpa using h), decide_eq_true_iff, cmpF_neg]
   have e := (cmpF_zero _ _).1 h
   simp [e, bLess_sto.irr]
 · rw [if_pos h, decide_eq_true_iff, cmpF_neg]
   have e : x.1 ≠ y.1 := fun e => h ((cmpF_zero _ _).2 e)
   simp [e]
end Go.Proofs.YtkfadfddhbpngaaGreat
namespace Go.Proofs.YtkfadfddhbpngaaGreat
open Go Go.RowKit

theorem ret_boolI {a b : Bool} (h : a = b) : Ending.returned (.bool a) = .returned (.bool b) := by rw [h]
/-- lo ≤ n ≤ hi. -/
def inR (n lo hi : Int) : Bool := decide (lo ≤ n) && decide (n ≤ hi)
set_option maxHeartbeats 400000 in
theorem impl_inR_c (n lo hi : Int) (w : World) :
 Calls Tryz.prog 120 #[.int .i64 n, .int .i64 lo, .int .i64 hi] w fun e w' => e = .returned (.bool (inR n lo hi)) ∧ w = w' := by
 by_cases h : lo ≤ n
 · have g : decide (lo ≤ n) = true := by simpa using h
   go_enter Tryz.func120, Tryz.ntmps120
   go_wp2_with fail
   all_goals go_ret
   all_goals exact ⟨ret_boolI (by simp [inR, *]), rfl⟩
 · have g : decide (lo ≤ n) = false := by simpa using h
   go_enter Tryz.func120, Tryz.ntmps120
   go_wp2_with fail
   all_goals go_ret
   all_goals exact ⟨ret_boolI (by simp [inR, *]), rfl⟩
end Go.Proofs.YtkfadfddhbpngaaGreat
namespace Go.Proofs.YtkfadfddhbpngaaGreat
open Go Go.RowKit

/-- A point out of a list. -/
def pt (s : PStroke) (k : Nat) : PPoint := s.getD k ⟨0, 0, 0⟩
end Go.Proofs.YtkfadfddhbpngaaGreat
namespace Go.Proofs.YtkfadfddhbpngaaGreat
open Go Go.Shelf Go.RowKit

def lays144_ren : Go.Shelf.Ren := ⟨fun | 144 => 237 | 143 => 246 | 219 => 252 | 217 => 256 | 225 => 257 | 224 => 258 | 267 => 259 | 266 => 260 | 314 => 261 | n => n, fun | 9 => 9 | 4 => 4 | 3 => 3 | 5 => 5 | 46 => 301 | 146 => 303 | 51 => 302 | n => n, fun | 1 => 0 | n => n⟩
theorem lays144 : Go.Proofs.Lays.n144 Tryz.prog lays144_ren := {
 mixed := by kernel_rfl
 f143 := Tryz.func246.trans (congrArg some (by kernel_rfl))
 f144 := Tryz.func237.trans (congrArg some (by kernel_rfl))
 f217 := Tryz.func256.trans (congrArg some (by kernel_rfl))
 f219 := Tryz.func252.trans (congrArg some (by kernel_rfl))
 f224 := Tryz.func258.trans (congrArg some (by kernel_rfl))
 f225 := Tryz.func257.trans (congrArg some (by kernel_rfl))
 f266 := Tryz.func260.trans (congrArg some (by kernel_rfl))
 f267 := Tryz.func259.trans (congrArg some (by kernel_rfl))
 f314 := Tryz.func261.trans (congrArg some (by kernel_rfl))
 t3 := Tryz.underlying3
 a3 := Tryz.isAgg3
 z3 := Tryz.sizeOf3
 v3 := Tryz.zeroValue3
 t4 := Tryz.underlying4
 a4 := Tryz.isAgg4
 z4 := Tryz.sizeOf4
 v4 := Tryz.zeroValue4
 t5 := Tryz.underlying5
 a5 := Tryz.isAgg5
 z5 := Tryz.sizeOf5
 v5 := Tryz.zeroValue5
 t9 := Tryz.underlying9
 a9 := Tryz.isAgg9
 z9 := Tryz.sizeOf9
 v9 := Tryz.zeroValue9
 t46 := Tryz.underlying301
 a46 := Tryz.isAgg301
 z46 := Tryz.sizeOf301
 v46 := Tryz.zeroValue301
 t51 := Tryz.underlying302
 a51 := Tryz.isAgg302
 z51 := Tryz.sizeOf302
 v51 := Tryz.zeroValue302
 t146 := Tryz.underlying303
 a146 := Tryz.isAgg303
 z146 := Tryz.sizeOf303
 v146 := Tryz.zeroValue303
 g1 := by kernel_rfl }
open Go.RowKit Go.Lib in
theorem strings_Contains_one (s : ByteArray) (c : UInt8) (w : World) :
 Calls Tryz.prog 237 #[.string s, .string ⟨#[c]⟩] w fun e w' => e = .returned (.bool (decide (0 ≤ Lib.indexByte s.data.toList c))) ∧ w' = w := Any.strings_Contains_one lays144 s c w
end Go.Proofs.YtkfadfddhbpngaaGreat

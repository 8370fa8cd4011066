/- Confusions, in plain Lean: counting into an ordered list is sorting and counting neighbours; the order of strings. No program is named here. Conditions: none. -/
import Derived.Test.YtkfadfddhbpngaaGreatStrSy
import Derived.Laws.Strings
import Derived.Laws.StructEq
import Derived.Test.YtkfadfddhbpngaaGreatLiby
import Derived.Test.YtkfadfddhbpngaaGreatRows
import Derived.Test.YtkfadfddhbpngaaGreatTyBigramy
import Derived.Test.YtkfadfddhbpngaaGreatTyStrokey
namespace Go.Proofs.YtkfadfddhbpngaaGreat
open Go Go.RowKit

section
variable {K : Type} [DecidableEq K] (lt : K → K → Bool)
/-- A strict total order. -/
structure STO : Prop where
 irr : ∀ a, lt a a = false
 tr : ∀ a b c, lt a b = true → lt b c = true → lt a c = true
 tot : ∀ a b, lt a b = false → lt b a = false → a = b
variable {lt}
omit [DecidableEq K] in
theorem STO.asym (h : STO lt) {a b : K} (h1 : lt a b = true) : lt b a = false := by
 cases h2 : lt b a with
 | false => rfl
 | true => have := h.tr _ _ _ h1 h2; rw [h.irr] at this; cases this
omit [DecidableEq K] in
theorem STO.ne (h : STO lt) {a b : K} (h1 : lt a b = true) : a ≠ b := fun e => by rw [e, h.irr] at h1; cases h1
omit [DecidableEq K] in
theorem STO.cases (h : STO lt) (a b : K) : (lt a b = true ∧ lt b a = false ∧ a ≠ b ∧ b ≠ a) ∨ a = b ∨ (lt a b = false ∧ lt b a = true ∧ a ≠ b ∧ b ≠ a) := by
 cases h1 : lt a b with
 | true => exact .inl ⟨rfl, h.asym h1, h.ne h1, (h.ne h1).symm⟩
 | false =>
  cases h2 : lt b a with
  | true => exact .inr (.inr ⟨rfl, rfl, (h.ne h2).symm, h.ne h2⟩)
  | false => exact .inr (.inl (h.tot _ _ h1 h2))
omit [DecidableEq K] in
end

/-! ### The order of strings -/
theorem bl_irr : ∀ l : List UInt8, Op.bytesLess l l = false
 | [] => rfl
 | a :: l => by simp [Op.bytesLess, bl_irr l]
theorem bl_tr : ∀ x y z : List UInt8, Op.bytesLess x y = true → Op.bytesLess y z = true → Op.bytesLess x z = true
 | _, [], _, h, _ => by cases ‹List UInt8› <;> simp [Op.bytesLess] at h
 | _, _ :: _, [], _, h => by simp [Op.bytesLess] at h
 | [], _ :: _, _ :: _, _, _ => rfl
 | a :: x, b :: y, c :: z, h1, h2 => by
  simp only [Op.bytesLess, Bool.or_eq_true, Bool.and_eq_true, decide_eq_true_eq, beq_iff_eq] at h1 h2 ⊢
  rcases h1 with h1 | ⟨rfl, h1⟩
  · rcases h2 with h2 | ⟨rfl, h2⟩
    · exact .inl (UInt8.lt_trans h1 h2)
    · exact .inl h1
  · rcases h2 with h2 | ⟨rfl, h2⟩
    · exact .inl h2
    · exact .inr ⟨rfl, bl_tr x y z h1 h2⟩
theorem bl_tot : ∀ x y : List UInt8, Op.bytesLess x y = false → Op.bytesLess y x = false → x = y
 | [], [], _, _ => rfl
 | [], _ :: _, h, _ => by simp [Op.bytesLess] at h
 | _ :: _, [], _, h => by simp [Op.bytesLess] at h
 | a :: x, b :: y, h1, h2 => by
  simp only [Op.bytesLess, Bool.or_eq_false_iff, decide_eq_false_iff_not] at h1 h2
  have e : a = b := by
   have l1 := UInt8.not_lt.1 h1.1
   have l2 := UInt8.not_lt.1 h2.1
   exact UInt8.le_antisymm l2 l1
  subst e
  rw [bl_tot x y (by simpa using h1.2) (by simpa using h2.2)]
def bLess (a b : ByteArray) : Bool := Op.bytesLess a.toList b.toList
theorem toList_inj {a b : ByteArray} (h : a.toList = b.toList) : a = b := by
 have := str_eq a b
 rw [h] at this
 simpa using this.symm
theorem bLess_sto : STO bLess := ⟨fun _ => bl_irr _, fun _ _ _ => bl_tr _ _ _, fun _ _ h1 h2 => toList_inj (bl_tot _ _ h1 h2)⟩
abbrev CKey := ByteArray × ByteArray
def cLess (x y : CKey) : Bool := bLess x.1 y.1 || (decide (x.1 = y.1) && bLess x.2 y.2)
def cmpF (x y : ByteArray) : Int := if bLess x y then -1 else if bLess y x then 1 else 0
theorem cmpF_neg (x y : ByteArray) : cmpF x y < 0 ↔ bLess x y = true := by
 unfold cmpF
 split
 · simp [*]
 · split <;> simp [*]
theorem cmpF_zero (x y : ByteArray) : cmpF x y = 0 ↔ x = y := by
 unfold cmpF
 rcases bLess_sto.cases x y with h | rfl | h
 · simp [h.1, h.2.2.1]
 · simp [bLess_sto.irr]
 · simp [h.1, h.2.1, h.2.2.1]
def cmpC (x y : CKey) : Int := if cmpF x.1 y.1 ≠ 0 then cmpF x.1 y.1 else cmpF x.2 y.2
theorem cmpC_neg (x y : CKey) : decide (cmpC x y < 0) = cLess x y := by
 unfold cmpC cLess
 rw [Bool.eq_iff_iff]
 by_cases h : cmpF x.1 y.1 = 0
 · rw [if_neg (by simpa using h), decide_eq_true_iff, cmpF_neg]
   have e := (cmpF_zero _ _).1 h
   simp [e, bLess_sto.irr]
 · rw [if_pos h, decide_eq_true_iff, cmpF_neg]
   have e : x.1 ≠ y.1 := fun e => h ((cmpF_zero _ _).2 e)
   simp [e]
end Go.Proofs.YtkfadfddhbpngaaGreat
namespace Go.Proofs.YtkfadfddhbpngaaGreat
open Go Go.RowKit

/-- A truth value, and nothing but draws. -/
def GivesB (b : Bool) (w : World) (e : Ending) (w' : World) : Prop := e = .returned (.bool b) ∧ ∃ n, w' = w.drewN n
end Go.Proofs.YtkfadfddhbpngaaGreat
namespace Go.Proofs.YtkfadfddhbpngaaGreat
open Go Go.RowKit

theorem ret_boolI {a b : Bool} (h : a = b) : Ending.returned (.bool a) = .returned (.bool b) := by rw [h]
/-- lo ≤ n ≤ hi. -/
def inR (n lo hi : Int) : Bool := decide (lo ≤ n) && decide (n ≤ hi)
set_option maxHeartbeats 400000 in
theorem spec_inR_c (n lo hi : Int) (w : World) :
 Calls Tryz.prog 111 #[.int .i64 n, .int .i64 lo, .int .i64 hi] w fun e w' => e = .returned (.bool (inR n lo hi)) ∧ w = w' := by
 by_cases h : lo ≤ n
 · have g : decide (lo ≤ n) = true := by simpa using h
   go_enter Tryz.func111, Tryz.ntmps111
   go_wp2_with fail
   all_goals go_ret
   all_goals exact ⟨ret_boolI (by simp [inR, *]), rfl⟩
 · have g : decide (lo ≤ n) = false := by simpa using h
   go_enter Tryz.func111, Tryz.ntmps111
   go_wp2_with fail
   all_goals go_ret
   all_goals exact ⟨ret_boolI (by simp [inR, *]), rfl⟩
set_option maxHeartbeats 400000 in
theorem impl_inR_c (n lo hi : Int) (w : World) :
 Calls Tryz.prog 120 #[.int .i64 n, .int .i64 lo, .int .i64 hi] w fun e w' => e = .returned (.bool (inR n lo hi)) ∧ w = w' := by
 by_cases h : lo ≤ n
 · have g : decide (lo ≤ n) = true := by simpa using h
   go_enter Tryz.func120, Tryz.ntmps120
   go_wp2_with fail
   all_goals go_ret
   all_goals exact ⟨ret_boolI (by simp [inR, *]), rfl⟩
 · have g : decide (lo ≤ n) = false := by simpa using h
   go_enter Tryz.func120, Tryz.ntmps120
   go_wp2_with fail
   all_goals go_ret
   all_goals exact ⟨ret_boolI (by simp [inR, *]), rfl⟩
end Go.Proofs.YtkfadfddhbpngaaGreat
namespace Go.Proofs.YtkfadfddhbpngaaGreat
open Go Go.RowKit

theorem impl_isCoord_c (n : Int) (w : World) :
 Calls Tryz.prog 227 #[.int .i64 n] w fun e w' => e = .returned (.bool (inR n 0 4095)) ∧ w = w' := by
 have C := impl_inR_c n 0 4095
 generalize inR n 0 4095 = b at C
 have HC := Lib.hid C
 clear C
 go_enter Tryz.func227, Tryz.ntmps227
 go_wp2_with fail
 refine (HC.out _).mono ?_
 rintro e w1 ⟨rfl, rfl⟩
 go_wp2_with fail
 go_ret
 exact ⟨rfl, rfl⟩
def pointB (p : PPoint) : Bool := inR p.x 0 4095 && (inR p.y 0 4095 && inR p.t 0 3600000)
set_option maxHeartbeats 400000 in
theorem impl_validPoint_c (p : PPoint) (w : World) :
 Calls Tryz.prog 201 #[.agg #[.int .i64 p.x, .int .i64 p.y, .int .i64 p.t]] w fun e w' => e = .returned (.bool (pointB p)) ∧ w' = w.alloc (.cells #[.int .i64 p.x, .int .i64 p.y, .int .i64 p.t] 155) := by
 have CX := impl_isCoord_c p.x
 have CY := impl_isCoord_c p.y
 have CT := impl_inR_c p.t 0 3600000
 unfold pointB
 generalize inR p.x 0 4095 = bx at CX ⊢
 generalize inR p.y 0 4095 = cy at CY ⊢
 generalize inR p.t 0 3600000 = dt at CT ⊢
 have HX := Lib.hid CX
 have HY := Lib.hid CY
 have HT := Lib.hid CT
 clear CX CY CT
 cases bx <;> cases cy
 all_goals
  go_enter Tryz.func201, Tryz.ntmps201
  go_wp2_with (first | (go_at_call_of 227 (Value.int .i64 p.x); refine (HX.out _).mono ?_; rintro e w1 ⟨rfl, rfl⟩) | (go_at_call_of 227 (Value.int .i64 p.y); refine (HY.out _).mono ?_; rintro e w1 ⟨rfl, rfl⟩) | (go_at_call 120; refine (HT.out _).mono ?_; rintro e w1 ⟨rfl, rfl⟩))
  go_ret
  exact ⟨rfl, rfl⟩
set_option maxHeartbeats 400000 in
theorem spec_l02Point_c (p : PPoint) (w : World) :
 Calls Tryz.prog 223 #[.agg #[.int .i64 p.x, .int .i64 p.y, .int .i64 p.t]] w fun e w' => e = .returned (.bool (pointB p)) ∧ w' = w.alloc (.cells #[.int .i64 p.x, .int .i64 p.y, .int .i64 p.t] 155) := by
 have CX := spec_inR_c p.x 0 4095
 have CY := spec_inR_c p.y 0 4095
 have CT := spec_inR_c p.t 0 3600000
 unfold pointB
 generalize inR p.x 0 4095 = bx at CX ⊢
 generalize inR p.y 0 4095 = cy at CY ⊢
 generalize inR p.t 0 3600000 = dt at CT ⊢
 have HX := Lib.hid CX
 have HY := Lib.hid CY
 have HT := Lib.hid CT
 clear CX CY CT
 cases bx <;> cases cy
 all_goals
  go_enter Tryz.func223, Tryz.ntmps223
  go_wp2_with (first | (go_at_call_of 111 (Value.int .i64 p.x); refine (HX.out _).mono ?_; rintro e w1 ⟨rfl, rfl⟩) | (go_at_call_of 111 (Value.int .i64 p.y); refine (HY.out _).mono ?_; rintro e w1 ⟨rfl, rfl⟩) | (go_at_call_of 111 (Value.int .i64 p.t); refine (HT.out _).mono ?_; rintro e w1 ⟨rfl, rfl⟩))
  go_ret
  exact ⟨rfl, rfl⟩
end Go.Proofs.YtkfadfddhbpngaaGreat
namespace Go.Proofs.YtkfadfddhbpngaaGreat
open Go Go.RowKit

/-- A point out of a list. -/
def pt (s : PStroke) (k : Nat) : PPoint := s.getD k ⟨0, 0, 0⟩
theorem pt_get {s : PStroke} {k : Nat} (h : k < s.length) : pt s k = s[k] := by simp [pt, List.getD_eq_getElem?_getD, List.getElem?_eq_getElem h]
def ptOk (s : PStroke) (k : Nat) : Bool := pointB (pt s k) && (decide (k = 0) || decide ((pt s (k - 1)).t < (pt s k).t))
def ptsOk (s : PStroke) : Nat → Bool
 | 0 => true
 | k + 1 => ptsOk s k && ptOk s k
theorem ptsOk_false {s : PStroke} {k : Nat} (h : ptOk s k = false) : ∀ n, k < n → ptsOk s n = false
 | 0, hk => by omega
 | n + 1, hk => by
  by_cases e : k = n
  · subst e; simp [ptsOk, h]
  · simp [ptsOk, ptsOk_false h n (by omega)]
def strokeB (s : PStroke) : Bool := ptsOk s s.length && (decide (1 ≤ s.length) && decide (s.length ≤ 60))
theorem strokeB_false {s : PStroke} {k : Nat} (hk : k < s.length) (h : ptOk s k = false) : strokeB s = false := by simp [strokeB, ptsOk_false h _ hk]
end Go.Proofs.YtkfadfddhbpngaaGreat

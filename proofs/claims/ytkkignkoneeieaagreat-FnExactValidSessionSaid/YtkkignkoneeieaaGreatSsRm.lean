/- ValidSession of the reference. Conditions: none. -/
import Derived.Deep.Cut
import Derived.Deep.CutRange
import Derived.Test.YtkkignkoneeieaaGreatSsVm
namespace Go.Proofs.YtkkignkoneeieaaGreat
open Go Go.RowKit
theorem pa92_3 (l : List Value) (i : Nat) (a : Value) : l.toArray.setIfInBounds i a = (l.set i a).toArray := List.setIfInBounds_toArray ..
theorem pb92_3 (a b : Value) (l : List Value) : (a :: l).set 0 b = b :: l := List.set_cons_zero ..
theorem pc92_3 (a b : Value) (l : List Value) (n : Nat) : (a :: l).set (n + 1) b = a :: l.set n b := List.set_cons_succ ..
theorem tk92_3 {P : Program} {md : Region.Mode} {ops : Array Oper} {Q : Exit → Act → World → Prop} {S : World → Prop} {i : Nat} {oi : Oper} {v : Value} {fuel : Nat} {listed : Array Bool} {a : Act} {w : World} (hi : ops[i]? = some oi)
    (hs : (Region.noSelect ops && (Region.free md ops listed i && (Region.ready md ops listed).contains i)) = true) (hQ : ∀ c a w, Q (.panic c) (a.put oi.dst v) w → Q (.panic c) a w) (hy : YieldsIf P ops S oi v a) (hS : S w)
    (h : wpAnyH P md ops Q S fuel (listed.setIfInBounds i true) (a.put oi.dst v) w) : wpAnyH P md ops Q S (fuel + 1) listed a w := by
  simp only [Bool.and_eq_true] at hs
  exact wpAnyH_take hi hs.1 hs.2.1 hs.2.2 hQ hy hS h
abbrev zo92_3_0 : Oper := { dst := some 9, op := Go.Op.move (Go.Operand.tmp 0), type := 150, pos := "l26_sessions.go:28", after := #[], guard := none }
abbrev zo92_3_1 : Oper := { dst := some 10, op := Go.Op.nilCheck (Go.Operand.tmp 9), type := 0, pos := "l26_sessions.go:28", after := #[{ on := 0, ground := Go.Ground.data }], guard := none }
abbrev zo92_3_2 : Oper := { dst := some 11, op := Go.Op.fieldAddr 58 (Go.Operand.tmp 10) 0, type := 0, pos := "l26_sessions.go:28", after := #[{ on := 1, ground := Go.Ground.data }], guard := none }
abbrev zo92_3_3 : Oper := { dst := some 12, op := Go.Op.load 56 (Go.Operand.tmp 11), type := 56, pos := "l26_sessions.go:28", after := #[{ on := 2, ground := Go.Ground.data }], guard := none }
abbrev zo92_3_4 : Oper := { dst := some 13, op := Go.Op.move (Go.Operand.tmp 0), type := 150, pos := "l26_sessions.go:28", after := #[], guard := none }
abbrev zo92_3_5 : Oper := { dst := some 14, op := Go.Op.nilCheck (Go.Operand.tmp 13), type := 0, pos := "l26_sessions.go:28", after := #[{ on := 4, ground := Go.Ground.data }], guard := none }
abbrev zo92_3_6 : Oper := { dst := some 15, op := Go.Op.fieldAddr 58 (Go.Operand.tmp 14) 0, type := 0, pos := "l26_sessions.go:28", after := #[{ on := 5, ground := Go.Ground.data }], guard := none }
abbrev zo92_3_7 : Oper := { dst := some 16, op := Go.Op.load 56 (Go.Operand.tmp 15), type := 56, pos := "l26_sessions.go:28", after := #[{ on := 6, ground := Go.Ground.data }], guard := none }
abbrev zo92_3_8 : Oper := { dst := some 17, op := Go.Op.call { callee := Go.Callee.builtin Go.Builtin.len, args := #[Go.Operand.tmp 16], argTypes := #[56] }, type := 3, pos := "l26_sessions.go:28", after := #[{ on := 7, ground := Go.Ground.data }], guard := none }
abbrev zo92_3_9 : Oper := { dst := some 18, op := Go.Op.binOp Go.BinOp.sub 3 (Go.Operand.tmp 17) (Go.Operand.const (Go.Value.int Go.IntKind.i64 1)) 3, type := 3, pos := "l26_sessions.go:28", after := #[{ on := 8, ground := Go.Ground.data }], guard := none }
abbrev zo92_3_10 : Oper := { dst := some 19, op := Go.Op.indexAddr 56 (Go.Operand.tmp 12) (Go.Operand.tmp 18), type := 0, pos := "l26_sessions.go:28", after := #[{ on := 3, ground := Go.Ground.data }, { on := 9, ground := Go.Ground.data }], guard := none }
abbrev zo92_3_11 : Oper := { dst := some 20, op := Go.Op.call { callee := Go.Callee.value (Go.Operand.func 94), args := #[Go.Operand.tmp 19], argTypes := #[153] }, type := 2, pos := "l26_sessions.go:28", after := #[{ on := 10, ground := Go.Ground.data }], guard := none }
abbrev zo92_3_12 : Oper := { dst := some 2, op := Go.Op.assign (Go.Operand.tmp 20), type := 2, pos := "l26_sessions.go:28", after := #[{ on := 11, ground := Go.Ground.data }, { on := 11, ground := Go.Ground.chain }, { on := 0, ground := Go.Ground.phase }, { on := 1, ground := Go.Ground.phase }, { on := 2, ground := Go.Ground.phase }, { on := 3, ground := Go.Ground.phase }, { on := 4, ground := Go.Ground.phase }, { on := 5, ground := Go.Ground.phase }, { on := 6, ground := Go.Ground.phase }, { on := 7, ground := Go.Ground.phase }, { on := 8, ground := Go.Ground.phase }, { on := 9, ground := Go.Ground.phase }, { on := 10, ground := Go.Ground.phase }, { on := 11, ground := Go.Ground.phase }], guard := none }
abbrev zo35_1_0 : Oper := { dst := some 4, op := Go.Op.move (Go.Operand.tmp 0), type := 98, pos := "l26_sessions.go:32", after := #[], guard := none }
abbrev zo35_1_1 : Oper := { dst := some 5, op := Go.Op.nilCheck (Go.Operand.tmp 4), type := 0, pos := "l26_sessions.go:32", after := #[{ on := 0, ground := Go.Ground.data }], guard := none }
abbrev zo35_1_2 : Oper := { dst := some 6, op := Go.Op.fieldAddr 61 (Go.Operand.tmp 5) 0, type := 0, pos := "l26_sessions.go:32", after := #[{ on := 1, ground := Go.Ground.data }], guard := none }
abbrev zo35_1_3 : Oper := { dst := some 7, op := Go.Op.call { callee := Go.Callee.value (Go.Operand.func 55), args := #[Go.Operand.tmp 6], argTypes := #[121] }, type := 4, pos := "l26_sessions.go:32", after := #[{ on := 2, ground := Go.Ground.data }], guard := none }
abbrev zo35_1_4 : Oper := { dst := some 8, op := Go.Op.unOp Go.UnOp.not 4 (Go.Operand.tmp 7), type := 4, pos := "l26_sessions.go:32", after := #[{ on := 3, ground := Go.Ground.data }], guard := none }
abbrev zo35_1_5 : Oper := { dst := some 9, op := Go.Op.move (Go.Operand.tmp 8), type := 4, pos := "l26_sessions.go:32", after := #[{ on := 4, ground := Go.Ground.data }, { on := 3, ground := Go.Ground.chain }], guard := none }
abbrev zo35_1_6 : Oper := { dst := some 10, op := Go.Op.move (Go.Operand.tmp 0), type := 98, pos := "l26_sessions.go:32", after := #[{ on := 5, ground := Go.Ground.guard }], guard := some (5, false) }
abbrev zo35_1_7 : Oper := { dst := some 11, op := Go.Op.nilCheck (Go.Operand.tmp 10), type := 0, pos := "l26_sessions.go:32", after := #[{ on := 6, ground := Go.Ground.data }, { on := 5, ground := Go.Ground.guard }], guard := some (5, false) }
abbrev zo35_1_8 : Oper := { dst := some 12, op := Go.Op.fieldAddr 61 (Go.Operand.tmp 11) 1, type := 0, pos := "l26_sessions.go:32", after := #[{ on := 7, ground := Go.Ground.data }, { on := 5, ground := Go.Ground.guard }], guard := some (5, false) }
abbrev zo35_1_9 : Oper := { dst := some 13, op := Go.Op.call { callee := Go.Callee.value (Go.Operand.func 90), args := #[Go.Operand.tmp 12], argTypes := #[150] }, type := 4, pos := "l26_sessions.go:32", after := #[{ on := 8, ground := Go.Ground.data }, { on := 5, ground := Go.Ground.chain }, { on := 5, ground := Go.Ground.guard }], guard := some (5, false) }
abbrev zo35_1_10 : Oper := { dst := some 14, op := Go.Op.unOp Go.UnOp.not 4 (Go.Operand.tmp 13), type := 4, pos := "l26_sessions.go:32", after := #[{ on := 9, ground := Go.Ground.data }, { on := 5, ground := Go.Ground.guard }], guard := some (5, false) }
abbrev zo35_1_11 : Oper := { dst := some 15, op := Go.Op.pick (Go.Operand.tmp 9) (Go.Operand.const (Go.Value.bool true)) (Go.Operand.tmp 14), type := 4, pos := "l26_sessions.go:32", after := #[{ on := 5, ground := Go.Ground.data }, { on := 10, ground := Go.Ground.data }], guard := none }
abbrev zo35_1_12 : Oper := { dst := some 16, op := Go.Op.move (Go.Operand.tmp 15), type := 4, pos := "l26_sessions.go:32", after := #[{ on := 11, ground := Go.Ground.data }, { on := 9, ground := Go.Ground.chain }], guard := none }
abbrev zo35_1_13 : Oper := { dst := some 17, op := Go.Op.move (Go.Operand.tmp 0), type := 98, pos := "l26_sessions.go:32", after := #[{ on := 12, ground := Go.Ground.guard }], guard := some (12, false) }
abbrev zo35_1_14 : Oper := { dst := some 18, op := Go.Op.nilCheck (Go.Operand.tmp 17), type := 0, pos := "l26_sessions.go:32", after := #[{ on := 13, ground := Go.Ground.data }, { on := 12, ground := Go.Ground.guard }], guard := some (12, false) }
abbrev zo35_1_15 : Oper := { dst := some 19, op := Go.Op.fieldAddr 61 (Go.Operand.tmp 18) 3, type := 0, pos := "l26_sessions.go:32", after := #[{ on := 14, ground := Go.Ground.data }, { on := 12, ground := Go.Ground.guard }], guard := some (12, false) }
abbrev zo35_1_16 : Oper := { dst := some 20, op := Go.Op.load 2 (Go.Operand.tmp 19), type := 2, pos := "l26_sessions.go:32", after := #[{ on := 15, ground := Go.Ground.data }, { on := 12, ground := Go.Ground.guard }], guard := some (12, false) }
abbrev zo35_1_17 : Oper := { dst := some 21, op := Go.Op.call { callee := Go.Callee.value (Go.Operand.func 91), args := #[Go.Operand.tmp 20, Go.Operand.const (Go.Value.int Go.IntKind.i64 0), Go.Operand.const (Go.Value.int Go.IntKind.i64 3600000)], argTypes := #[2, 2, 2] }, type := 4, pos := "l26_sessions.go:32", after := #[{ on := 16, ground := Go.Ground.data }, { on := 12, ground := Go.Ground.chain }, { on := 12, ground := Go.Ground.guard }], guard := some (12, false) }
abbrev zo35_1_18 : Oper := { dst := some 22, op := Go.Op.unOp Go.UnOp.not 4 (Go.Operand.tmp 21), type := 4, pos := "l26_sessions.go:32", after := #[{ on := 17, ground := Go.Ground.data }, { on := 12, ground := Go.Ground.guard }], guard := some (12, false) }
abbrev zo35_1_19 : Oper := { dst := some 23, op := Go.Op.pick (Go.Operand.tmp 16) (Go.Operand.const (Go.Value.bool true)) (Go.Operand.tmp 22), type := 4, pos := "l26_sessions.go:32", after := #[{ on := 12, ground := Go.Ground.data }, { on := 18, ground := Go.Ground.data }], guard := none }
abbrev zo35_1_20 : Oper := { dst := some 24, op := Go.Op.move (Go.Operand.tmp 23), type := 4, pos := "l26_sessions.go:32", after := #[{ on := 19, ground := Go.Ground.data }, { on := 17, ground := Go.Ground.chain }], guard := none }
abbrev zo35_1_21 : Oper := { dst := some 25, op := Go.Op.move (Go.Operand.tmp 0), type := 98, pos := "l26_sessions.go:32", after := #[{ on := 20, ground := Go.Ground.guard }], guard := some (20, false) }
abbrev zo35_1_22 : Oper := { dst := some 26, op := Go.Op.nilCheck (Go.Operand.tmp 25), type := 0, pos := "l26_sessions.go:32", after := #[{ on := 21, ground := Go.Ground.data }, { on := 20, ground := Go.Ground.guard }], guard := some (20, false) }
abbrev zo35_1_23 : Oper := { dst := some 27, op := Go.Op.fieldAddr 61 (Go.Operand.tmp 26) 1, type := 0, pos := "l26_sessions.go:32", after := #[{ on := 22, ground := Go.Ground.data }, { on := 20, ground := Go.Ground.guard }], guard := some (20, false) }
abbrev zo35_1_24 : Oper := { dst := some 28, op := Go.Op.call { callee := Go.Callee.value (Go.Operand.func 92), args := #[Go.Operand.tmp 27], argTypes := #[150] }, type := 2, pos := "l26_sessions.go:32", after := #[{ on := 23, ground := Go.Ground.data }, { on := 20, ground := Go.Ground.chain }, { on := 20, ground := Go.Ground.guard }], guard := some (20, false) }
abbrev zo35_1_25 : Oper := { dst := some 29, op := Go.Op.move (Go.Operand.tmp 0), type := 98, pos := "l26_sessions.go:32", after := #[{ on := 20, ground := Go.Ground.guard }], guard := some (20, false) }
abbrev zo35_1_26 : Oper := { dst := some 30, op := Go.Op.nilCheck (Go.Operand.tmp 29), type := 0, pos := "l26_sessions.go:32", after := #[{ on := 25, ground := Go.Ground.data }, { on := 20, ground := Go.Ground.guard }], guard := some (20, false) }
abbrev zo35_1_27 : Oper := { dst := some 31, op := Go.Op.fieldAddr 61 (Go.Operand.tmp 30) 3, type := 0, pos := "l26_sessions.go:32", after := #[{ on := 26, ground := Go.Ground.data }, { on := 20, ground := Go.Ground.guard }], guard := some (20, false) }
abbrev zo35_1_28 : Oper := { dst := some 32, op := Go.Op.load 2 (Go.Operand.tmp 31), type := 2, pos := "l26_sessions.go:32", after := #[{ on := 27, ground := Go.Ground.data }, { on := 20, ground := Go.Ground.guard }], guard := some (20, false) }
abbrev zo35_1_29 : Oper := { dst := some 33, op := Go.Op.binOp Go.BinOp.gtr 2 (Go.Operand.tmp 28) (Go.Operand.tmp 32) 2, type := 4, pos := "l26_sessions.go:32", after := #[{ on := 24, ground := Go.Ground.data }, { on := 28, ground := Go.Ground.data }, { on := 20, ground := Go.Ground.guard }], guard := some (20, false) }
abbrev zo35_1_30 : Oper := { dst := some 34, op := Go.Op.pick (Go.Operand.tmp 24) (Go.Operand.const (Go.Value.bool true)) (Go.Operand.tmp 33), type := 4, pos := "l26_sessions.go:32", after := #[{ on := 20, ground := Go.Ground.data }, { on := 29, ground := Go.Ground.data }], guard := none }
abbrev zo35_5_0 : Oper := { dst := some 46, op := Go.Op.call { callee := Go.Callee.value (Go.Operand.func 93), args := #[Go.Operand.tmp 3], argTypes := #[153] }, type := 4, pos := "l26_sessions.go:37", after := #[], guard := none }
abbrev zo35_5_1 : Oper := { dst := some 47, op := Go.Op.unOp Go.UnOp.not 4 (Go.Operand.tmp 46), type := 4, pos := "l26_sessions.go:37", after := #[{ on := 0, ground := Go.Ground.data }], guard := none }
abbrev zo35_5_2 : Oper := { dst := some 48, op := Go.Op.move (Go.Operand.tmp 47), type := 4, pos := "l26_sessions.go:37", after := #[{ on := 1, ground := Go.Ground.data }, { on := 0, ground := Go.Ground.chain }], guard := none }
abbrev zo35_5_3 : Oper := { dst := some 49, op := Go.Op.move (Go.Operand.tmp 0), type := 98, pos := "l26_sessions.go:37", after := #[{ on := 2, ground := Go.Ground.guard }], guard := some (2, false) }
abbrev zo35_5_4 : Oper := { dst := some 50, op := Go.Op.nilCheck (Go.Operand.tmp 49), type := 0, pos := "l26_sessions.go:37", after := #[{ on := 3, ground := Go.Ground.data }, { on := 2, ground := Go.Ground.guard }], guard := some (2, false) }
abbrev zo35_5_5 : Oper := { dst := some 51, op := Go.Op.fieldAddr 61 (Go.Operand.tmp 50) 2, type := 0, pos := "l26_sessions.go:37", after := #[{ on := 4, ground := Go.Ground.data }, { on := 2, ground := Go.Ground.guard }], guard := some (2, false) }
abbrev zo35_5_6 : Oper := { dst := some 52, op := Go.Op.load 59 (Go.Operand.tmp 51), type := 59, pos := "l26_sessions.go:37", after := #[{ on := 5, ground := Go.Ground.data }, { on := 2, ground := Go.Ground.guard }], guard := some (2, false) }
abbrev zo35_5_7 : Oper := { dst := some 53, op := Go.Op.indexAddr 59 (Go.Operand.tmp 52) (Go.Operand.const (Go.Value.int Go.IntKind.i64 0)), type := 0, pos := "l26_sessions.go:37", after := #[{ on := 6, ground := Go.Ground.data }, { on := 2, ground := Go.Ground.guard }], guard := some (2, false) }
abbrev zo35_5_8 : Oper := { dst := some 54, op := Go.Op.fieldAddr 110 (Go.Operand.tmp 53) 2, type := 0, pos := "l26_sessions.go:37", after := #[{ on := 7, ground := Go.Ground.data }, { on := 2, ground := Go.Ground.guard }], guard := some (2, false) }
abbrev zo35_5_9 : Oper := { dst := some 55, op := Go.Op.load 2 (Go.Operand.tmp 54), type := 2, pos := "l26_sessions.go:37", after := #[{ on := 8, ground := Go.Ground.data }, { on := 2, ground := Go.Ground.guard }], guard := some (2, false) }
abbrev zo35_5_10 : Oper := { dst := some 56, op := Go.Op.move (Go.Operand.tmp 0), type := 98, pos := "l26_sessions.go:37", after := #[{ on := 2, ground := Go.Ground.guard }], guard := some (2, false) }
abbrev zo35_5_11 : Oper := { dst := some 57, op := Go.Op.nilCheck (Go.Operand.tmp 56), type := 0, pos := "l26_sessions.go:37", after := #[{ on := 10, ground := Go.Ground.data }, { on := 2, ground := Go.Ground.guard }], guard := some (2, false) }
abbrev zo35_5_12 : Oper := { dst := some 58, op := Go.Op.fieldAddr 61 (Go.Operand.tmp 57) 1, type := 0, pos := "l26_sessions.go:37", after := #[{ on := 11, ground := Go.Ground.data }, { on := 2, ground := Go.Ground.guard }], guard := some (2, false) }
abbrev zo35_5_13 : Oper := { dst := some 59, op := Go.Op.call { callee := Go.Callee.value (Go.Operand.func 92), args := #[Go.Operand.tmp 58], argTypes := #[150] }, type := 2, pos := "l26_sessions.go:37", after := #[{ on := 12, ground := Go.Ground.data }, { on := 2, ground := Go.Ground.chain }, { on := 2, ground := Go.Ground.guard }], guard := some (2, false) }
abbrev zo35_5_14 : Oper := { dst := some 60, op := Go.Op.binOp Go.BinOp.leq 2 (Go.Operand.tmp 55) (Go.Operand.tmp 59) 2, type := 4, pos := "l26_sessions.go:37", after := #[{ on := 9, ground := Go.Ground.data }, { on := 13, ground := Go.Ground.data }, { on := 2, ground := Go.Ground.guard }], guard := some (2, false) }
abbrev zo35_5_15 : Oper := { dst := some 61, op := Go.Op.pick (Go.Operand.tmp 48) (Go.Operand.const (Go.Value.bool true)) (Go.Operand.tmp 60), type := 4, pos := "l26_sessions.go:37", after := #[{ on := 2, ground := Go.Ground.data }, { on := 14, ground := Go.Ground.data }], guard := none }
abbrev zo35_5_16 : Oper := { dst := some 62, op := Go.Op.move (Go.Operand.tmp 61), type := 4, pos := "l26_sessions.go:37", after := #[{ on := 15, ground := Go.Ground.data }, { on := 13, ground := Go.Ground.chain }], guard := none }
abbrev zo35_5_17 : Oper := { dst := some 63, op := Go.Op.call { callee := Go.Callee.value (Go.Operand.func 94), args := #[Go.Operand.tmp 3], argTypes := #[153] }, type := 2, pos := "l26_sessions.go:37", after := #[{ on := 16, ground := Go.Ground.chain }, { on := 16, ground := Go.Ground.guard }], guard := some (16, false) }
abbrev zo35_5_18 : Oper := { dst := some 64, op := Go.Op.move (Go.Operand.tmp 0), type := 98, pos := "l26_sessions.go:37", after := #[{ on := 16, ground := Go.Ground.guard }], guard := some (16, false) }
abbrev zo35_5_19 : Oper := { dst := some 65, op := Go.Op.nilCheck (Go.Operand.tmp 64), type := 0, pos := "l26_sessions.go:37", after := #[{ on := 18, ground := Go.Ground.data }, { on := 16, ground := Go.Ground.guard }], guard := some (16, false) }
abbrev zo35_5_20 : Oper := { dst := some 66, op := Go.Op.fieldAddr 61 (Go.Operand.tmp 65) 3, type := 0, pos := "l26_sessions.go:37", after := #[{ on := 19, ground := Go.Ground.data }, { on := 16, ground := Go.Ground.guard }], guard := some (16, false) }
abbrev zo35_5_21 : Oper := { dst := some 67, op := Go.Op.load 2 (Go.Operand.tmp 66), type := 2, pos := "l26_sessions.go:37", after := #[{ on := 20, ground := Go.Ground.data }, { on := 16, ground := Go.Ground.guard }], guard := some (16, false) }
abbrev zo35_5_22 : Oper := { dst := some 68, op := Go.Op.binOp Go.BinOp.gtr 2 (Go.Operand.tmp 63) (Go.Operand.tmp 67) 2, type := 4, pos := "l26_sessions.go:37", after := #[{ on := 17, ground := Go.Ground.data }, { on := 21, ground := Go.Ground.data }, { on := 16, ground := Go.Ground.guard }], guard := some (16, false) }
abbrev zo35_5_23 : Oper := { dst := some 69, op := Go.Op.pick (Go.Operand.tmp 62) (Go.Operand.const (Go.Value.bool true)) (Go.Operand.tmp 68), type := 4, pos := "l26_sessions.go:37", after := #[{ on := 16, ground := Go.Ground.data }, { on := 22, ground := Go.Ground.data }], guard := none }

set_option maxRecDepth 100000 in
set_option maxHeartbeats 1000000 in
theorem spec_l26End_c {o : Bool} {pe e : TypeId} {xs : List PStroke} {v : Value} {F : List Nat} {g f : Nat} (w : World) (c0 : w.cell? ⟨g, f, none⟩ = some v) (h : (pStrokes pe e).rep o w xs [v] F) (hxe : ∀ l ∈ xs, l.length ≤ 1048576) (hok : inkB xs = true) :
    Calls Tryz.prog 92 #[.pointer (some ⟨g, f, none⟩)] w fun e w' => e = .returned (.int .i64 (inkEndI xs)) ∧ ∃ n, w' = w.drewN n := by
  have hfew := inkB_few hok
  obtain ⟨A, c, rfl, hc1, hc2, hr⟩ := pStrokes_open h
  rcases Nat.eq_zero_or_pos xs.length with h0 | h0
  · have he := Lib.hid (inkEnd_nil h0)
    have g0 : ((xs.length : Int) == 0) = true := by simp [h0]
    clear hr h h0
    go_enter Tryz.func92, Tryz.ntmps92
    go_wp2_with fail
    go_ret
    exact ⟨ret_int he.out.symm, 0, rfl⟩
  · obtain ⟨j, hj⟩ : ∃ j, xs.length = j + 1 := ⟨xs.length - 1, by omega⟩
    have hjl : j < xs.length := by omega
    have he : Hid (inkEndI xs = lastT xs[j]) := by show _ = _; rw [inkEnd_pos hj, strk_get hjl]
    obtain ⟨b, off, u, Fk, rfl, hbb, _, hrk, _, hcell⟩ := hr j hjl
    have HC := Lib.hid (spec_l02Last_c (g := b) (f := off + j) w.drew hcell hrk.drew (ink_last hok hjl) (hxe _ (List.getElem_mem hjl)))
    have g0 : ((xs.length : Int) == 0) = false := by rw [beq_eq_false_iff_ne]; omega
    have kl : IntKind.i64.wrap ((xs.length : Int) - 1) = (j : Int) := (IntWalk.i64_in _ (by omega)).trans (by omega)
    have g1 : (j : Int) < (xs.length : Int) := by omega
    have g2 : (0 : Int) ≤ (j : Int) := by omega
    have HJ := Lib.hid hj
    clear hr h h0 hj hrk
    go_enter Tryz.func92, Tryz.ntmps92
    go_wp2_with fail
    have hS : (fun w' : World => w'.cell? ⟨g, f, none⟩ = some (.slice (some ⟨b, off, none⟩) xs.length c)) w.drew := c0
    dsimp only at hS
    refine wp_region_held_drew (S := (fun w' : World => w'.cell? ⟨g, f, none⟩ = some (.slice (some ⟨b, off, none⟩) xs.length c))) (by kernel_rfl) hS (fun _ => ?_)
    refine tk92_3 (i := 0) (oi := zo92_3_0) (v := ?_) rfl (by kernel_rfl) (fun _ _ _ h => h) (Or.inl ⟨rfl, ?_⟩) hS ?_
    rotate_left
    · (intro w' hS'; (try dsimp only at hS'); dsimp only [zo92_3_0]; go_simp; try with_reducible rfl)
    simp only [Act.put, pa92_3, pb92_3, pc92_3]
    refine tk92_3 (i := 1) (oi := zo92_3_1) (v := ?_) rfl (by kernel_rfl) (fun _ _ _ h => h) (Or.inl ⟨rfl, ?_⟩) hS ?_
    rotate_left
    · (intro w' hS'; (try dsimp only at hS'); dsimp only [zo92_3_1]; go_simp; try with_reducible rfl)
    simp only [Act.put, pa92_3, pb92_3, pc92_3]
    refine tk92_3 (i := 2) (oi := zo92_3_2) (v := ?_) rfl (by kernel_rfl) (fun _ _ _ h => h) (Or.inl ⟨rfl, ?_⟩) hS ?_
    rotate_left
    · (intro w' hS'; (try dsimp only at hS'); dsimp only [zo92_3_2]; go_simp; try with_reducible rfl)
    simp only [Act.put, pa92_3, pb92_3, pc92_3]
    refine tk92_3 (i := 3) (oi := zo92_3_3) (v := ?_) rfl (by kernel_rfl) (fun _ _ _ h => h) (Or.inl ⟨rfl, ?_⟩) hS ?_
    rotate_left
    · (intro w' hS'; (try dsimp only at hS'); dsimp only [zo92_3_3]; go_simp; try with_reducible rfl)
    simp only [Act.put, pa92_3, pb92_3, pc92_3]
    refine tk92_3 (i := 4) (oi := zo92_3_4) (v := ?_) rfl (by kernel_rfl) (fun _ _ _ h => h) (Or.inl ⟨rfl, ?_⟩) hS ?_
    rotate_left
    · (intro w' hS'; (try dsimp only at hS'); dsimp only [zo92_3_4]; go_simp; try with_reducible rfl)
    simp only [Act.put, pa92_3, pb92_3, pc92_3]
    refine tk92_3 (i := 5) (oi := zo92_3_5) (v := ?_) rfl (by kernel_rfl) (fun _ _ _ h => h) (Or.inl ⟨rfl, ?_⟩) hS ?_
    rotate_left
    · (intro w' hS'; (try dsimp only at hS'); dsimp only [zo92_3_5]; go_simp; try with_reducible rfl)
    simp only [Act.put, pa92_3, pb92_3, pc92_3]
    refine tk92_3 (i := 6) (oi := zo92_3_6) (v := ?_) rfl (by kernel_rfl) (fun _ _ _ h => h) (Or.inl ⟨rfl, ?_⟩) hS ?_
    rotate_left
    · (intro w' hS'; (try dsimp only at hS'); dsimp only [zo92_3_6]; go_simp; try with_reducible rfl)
    simp only [Act.put, pa92_3, pb92_3, pc92_3]
    refine tk92_3 (i := 7) (oi := zo92_3_7) (v := ?_) rfl (by kernel_rfl) (fun _ _ _ h => h) (Or.inl ⟨rfl, ?_⟩) hS ?_
    rotate_left
    · (intro w' hS'; (try dsimp only at hS'); dsimp only [zo92_3_7]; go_simp; try with_reducible rfl)
    simp only [Act.put, pa92_3, pb92_3, pc92_3]
    refine tk92_3 (i := 8) (oi := zo92_3_8) (v := ?_) rfl (by kernel_rfl) (fun _ _ _ h => h) (Or.inl ⟨rfl, ?_⟩) hS ?_
    rotate_left
    · (intro w' hS'; (try dsimp only at hS'); dsimp only [zo92_3_8]; go_simp; try with_reducible rfl)
    simp only [Act.put, pa92_3, pb92_3, pc92_3]
    refine tk92_3 (i := 9) (oi := zo92_3_9) (v := ?_) rfl (by kernel_rfl) (fun _ _ _ h => h) (Or.inl ⟨rfl, ?_⟩) hS ?_
    rotate_left
    · (intro w' hS'; (try dsimp only at hS'); dsimp only [zo92_3_9]; go_simp; try with_reducible rfl)
    simp only [Act.put, pa92_3, pb92_3, pc92_3]
    refine tk92_3 (i := 10) (oi := zo92_3_10) (v := ?_) rfl (by kernel_rfl) (fun _ _ _ h => h) (Or.inl ⟨rfl, ?_⟩) hS ?_
    rotate_left
    · (intro w' hS'; (try dsimp only at hS'); dsimp only [zo92_3_10]; go_simp; try with_reducible rfl)
    simp only [Act.put, pa92_3, pb92_3, pc92_3]
    refine wpAnyH_ready (rs := [11]) (by kernel_rfl) (by simp) ?_
    refine AllReadyH.cons (o := zo92_3_11) rfl (fun K hK => ?_) .nil
    refine step_call 94 #[Go.Operand.tmp 19] _ rfl rfl #[.pointer (some ⟨b, off + j, none⟩)] Tryz.call94 (by go_simp) HC.out ?_
    rintro e w1 ⟨rfl, n1, rfl⟩
    refine ⟨_, rfl, ?_⟩
    replace hS : (fun w' : World => w'.cell? ⟨g, f, none⟩ = some (.slice (some ⟨b, off, none⟩) xs.length c)) (w.drew.drewN n1) := hS
    dsimp only at hS
    refine hK.out _ _ ?_ (fun hHeld => ?_)
    · exact hS
    clear hK K hHeld
    simp only [Act.put, pa92_3, pb92_3, pc92_3]
    refine tk92_3 (i := 12) (oi := zo92_3_12) (v := ?_) rfl (by kernel_rfl) (fun _ _ _ h => h) (Or.inl ⟨rfl, ?_⟩) hS ?_
    rotate_left
    · (intro w' hS'; (try dsimp only at hS'); dsimp only [zo92_3_12]; go_simp; try with_reducible rfl)
    simp only [Act.put, pa92_3, pb92_3, pc92_3]
    refine wpAnyH_done (by kernel_rfl) ?_ _
    go_wp2_with fail
    go_ret
    exact ⟨ret_int he.out.symm, _, (show (w.drewN 1).drewN n1 = _ from World.drewN_drewN _ _ _)⟩
set_option maxRecDepth 100000 in
set_option maxHeartbeats 8000000 in
theorem spec_l26Ok_c {I : Ids} {o : Bool} {q : PSess} {A0 A1 A2 A3 A4 A5 : Option Addr} {k0 k1 k2 k3 k4 k5 : Nat} {F0 F1 F2 F3 F4 F5 : List Nat} {g : Nat} {T : TypeId} {more : List Value} (w : World) (R : Row w g T ([.int .i64 q.setup.band, .slice A0 q.setup.temps.length k0, .int .i64 q.setup.points, .int .i64 q.setup.most, .int .i64 q.setup.pen, .slice A1 q.setup.entries.length k1, .int .i64 q.setup.dflt, .slice A2 q.setup.bigrams.length k2, .int .i64 q.setup.pause, .slice A3 q.strokes.length k3, .slice A4 q.opn.length k4, .int .i64 q.time, .slice A5 q.words.length k5] ++ more))
    (h0 : (pTemps I.ft I.tm).rep o w q.setup.temps [.slice A0 q.setup.temps.length k0] F0) (h1 : (pEntrys I.en).rep o w q.setup.entries [.slice A1 q.setup.entries.length k1] F1) (h2 : (pBigrams I.bg).rep o w q.setup.bigrams [.slice A2 q.setup.bigrams.length k2] F2) (h3 : (pStrokes I.pt I.st).rep o w q.strokes [.slice A3 q.strokes.length k3] F3) (h4 : (pPoints I.pt).rep o w q.opn [.slice A4 q.opn.length k4] F4) (h5 : (strs 9).rep o w q.words [.slice A5 q.words.length k5] F5) (hp : SsSmall q) (hb : SsBytes q) :
    Calls Tryz.prog 35 #[.pointer (some ⟨g, 0, none⟩)] w fun e w' => e = .returned (.bool (sessB q)) ∧ Below w.heap.size w w' := by
  have HS := Lib.hid (fun w' (q0 : (pTemps I.ft I.tm).rep o w' q.setup.temps [.slice A0 q.setup.temps.length k0] F0) (q1 : (pEntrys I.en).rep o w' q.setup.entries [.slice A1 q.setup.entries.length k1] F1) (q2 : (pBigrams I.bg).rep o w' q.setup.bigrams [.slice A2 q.setup.bigrams.length k2] F2) (hg : g < w'.heap.size) (c0 : w'.cell? ⟨g, 0, none⟩ = some (.int .i64 q.setup.band)) (c1 : w'.cell? ⟨g, 1, none⟩ = some (.slice A0 q.setup.temps.length k0)) (c2 : w'.cell? ⟨g, 2, none⟩ = some (.int .i64 q.setup.points)) (c3 : w'.cell? ⟨g, 3, none⟩ = some (.int .i64 q.setup.most)) (c4 : w'.cell? ⟨g, 4, none⟩ = some (.int .i64 q.setup.pen)) (c5 : w'.cell? ⟨g, 5, none⟩ = some (.slice A1 q.setup.entries.length k1)) (c6 : w'.cell? ⟨g, 6, none⟩ = some (.int .i64 q.setup.dflt)) (c7 : w'.cell? ⟨g, 7, none⟩ = some (.slice A2 q.setup.bigrams.length k2)) (c8 : w'.cell? ⟨g, 8, none⟩ = some (.int .i64 q.setup.pause)) => spec_l26Setup_c (p := q.setup) (f := 0) w' hg c0 c1 c2 c3 c4 c5 c6 c7 c8 q0 q1 q2 hp.s hb.s)
  have HI := Lib.hid (fun w' (q0 : (pStrokes I.pt I.st).rep o w' q.strokes [.slice A3 q.strokes.length k3] F3) (hg : g < w'.heap.size) (c9 : w'.cell? ⟨g, 9, none⟩ = some (.slice A3 q.strokes.length k3)) => spec_l02Ok_c w' c9 hg q0 hp.i hp.j)
  have HT : Hid (∀ w', Calls Tryz.prog 91 #[.int .i64 q.time, .int .i64 0, .int .i64 3600000] w' fun e w'' => e = .returned (.bool (inR q.time 0 3600000)) ∧ w'' = w') := fun w' => (spec_inR_c q.time 0 3600000 w').mono fun _ _ ⟨h1, h2⟩ => ⟨h1, h2.symm⟩
  have HW := Lib.hid (fun w' (q0 : (strs 9).rep o w' q.words [.slice A5 q.words.length k5] F5) => spec_l18Plain_c w' q0 hp.w hb.w)
  have bb : Below w.heap.size w w := Below.refl _ _
  go_enter Tryz.func35, Tryz.ntmps35
  cases hs : setupB q.setup
  · have HF := Lib.hid (sessB_setup hs)
    simp only [hs] at HS
    clear hs
    go_wp2_with fail
    replace R := R.drew
    have hS : (fun w' : World => w'.cell? ⟨g, 9, none⟩ = some (.slice A3 q.strokes.length k3) ∧ w'.cell? ⟨g, 11, none⟩ = some (.int .i64 q.time)) w.drew := ⟨R.cell' (i := 9) rfl, R.cell' (i := 11) rfl⟩
    dsimp only at hS
    refine wp_region_held_drew (S := (fun w' : World => w'.cell? ⟨g, 9, none⟩ = some (.slice A3 q.strokes.length k3) ∧ w'.cell? ⟨g, 11, none⟩ = some (.int .i64 q.time))) (by kernel_rfl) hS (fun _ => ?_)
    replace bb := bb.drew
    replace h0 := h0.drew
    replace h1 := h1.drew
    replace h2 := h2.drew
    replace h3 := h3.drew
    replace h4 := h4.drew
    replace h5 := h5.drew
    refine tk92_3 (i := 0) (oi := zo35_1_0) (v := ?_) rfl (by kernel_rfl) (fun _ _ _ h => h) (Or.inl ⟨rfl, ?_⟩) hS ?_
    rotate_left
    · (intro w' hS'; (try dsimp only at hS'); dsimp only [zo35_1_0]; go_simp; try with_reducible rfl)
    simp only [Act.put, pa92_3, pb92_3, pc92_3]
    refine tk92_3 (i := 1) (oi := zo35_1_1) (v := ?_) rfl (by kernel_rfl) (fun _ _ _ h => h) (Or.inl ⟨rfl, ?_⟩) hS ?_
    rotate_left
    · (intro w' hS'; (try dsimp only at hS'); dsimp only [zo35_1_1]; go_simp; try with_reducible rfl)
    simp only [Act.put, pa92_3, pb92_3, pc92_3]
    refine tk92_3 (i := 2) (oi := zo35_1_2) (v := ?_) rfl (by kernel_rfl) (fun _ _ _ h => h) (Or.inl ⟨rfl, ?_⟩) hS ?_
    rotate_left
    · (intro w' hS'; (try dsimp only at hS'); dsimp only [zo35_1_2]; go_simp; try with_reducible rfl)
    simp only [Act.put, pa92_3, pb92_3, pc92_3]
    refine wpAnyH_ready (rs := [3]) (by kernel_rfl) (by simp) ?_
    refine AllReadyH.cons (o := zo35_1_3) rfl (fun K hK => ?_) .nil
    refine step_call 55 #[Go.Operand.tmp 6] _ rfl rfl #[.pointer (some ⟨g, 0, none⟩)] Tryz.call55 (by go_simp) (HS.out _ h0 h1 h2 R.lt (R.cell' (i := 0) rfl) (R.cell' (i := 1) rfl) (R.cell' (i := 2) rfl) (R.cell' (i := 3) rfl) (R.cell' (i := 4) rfl) (R.cell' (i := 5) rfl) (R.cell' (i := 6) rfl) (R.cell' (i := 7) rfl) (R.cell' (i := 8) rfl)) ?_
    rintro e w1 ⟨rfl, b1⟩
    refine ⟨_, rfl, ?_⟩
    replace R := R.later b1
    replace bb := bb.trans (b1.mono bb.size)
    replace h0 := h0.below b1
    replace h1 := h1.below b1
    replace h2 := h2.below b1
    replace h3 := h3.below b1
    replace h4 := h4.below b1
    replace h5 := h5.below b1
    replace hS : (fun w' : World => w'.cell? ⟨g, 9, none⟩ = some (.slice A3 q.strokes.length k3) ∧ w'.cell? ⟨g, 11, none⟩ = some (.int .i64 q.time)) w1 := ⟨R.cell' (i := 9) rfl, R.cell' (i := 11) rfl⟩
    dsimp only at hS
    refine hK.out _ _ ?_ (fun hHeld => ?_)
    · exact hS
    clear hK K hHeld
    simp only [Act.put, pa92_3, pb92_3, pc92_3]
    refine tk92_3 (i := 4) (oi := zo35_1_4) (v := ?_) rfl (by kernel_rfl) (fun _ _ _ h => h) (Or.inl ⟨rfl, ?_⟩) hS ?_
    rotate_left
    · (intro w' hS'; (try dsimp only at hS'); dsimp only [zo35_1_4]; go_simp; try with_reducible rfl)
    simp only [Act.put, pa92_3, pb92_3, pc92_3]
    refine tk92_3 (i := 5) (oi := zo35_1_5) (v := ?_) rfl (by kernel_rfl) (fun _ _ _ h => h) (Or.inl ⟨rfl, ?_⟩) hS ?_
    rotate_left
    · (intro w' hS'; (try dsimp only at hS'); dsimp only [zo35_1_5]; go_simp; try with_reducible rfl)
    simp only [Act.put, pa92_3, pb92_3, pc92_3]
    refine tk92_3 (i := 6) (oi := zo35_1_6) rfl (by kernel_rfl) (fun _ _ _ h => h) (Or.inr ⟨rfl, rfl⟩) hS ?_
    simp only [Act.put, pa92_3, pb92_3, pc92_3]
    refine tk92_3 (i := 7) (oi := zo35_1_7) rfl (by kernel_rfl) (fun _ _ _ h => h) (Or.inr ⟨rfl, rfl⟩) hS ?_
    simp only [Act.put, pa92_3, pb92_3, pc92_3]
    refine tk92_3 (i := 8) (oi := zo35_1_8) rfl (by kernel_rfl) (fun _ _ _ h => h) (Or.inr ⟨rfl, rfl⟩) hS ?_
    simp only [Act.put, pa92_3, pb92_3, pc92_3]
    refine tk92_3 (i := 9) (oi := zo35_1_9) rfl (by kernel_rfl) (fun _ _ _ h => h) (Or.inr ⟨rfl, rfl⟩) hS ?_
    simp only [Act.put, pa92_3, pb92_3, pc92_3]
    refine tk92_3 (i := 10) (oi := zo35_1_10) rfl (by kernel_rfl) (fun _ _ _ h => h) (Or.inr ⟨rfl, rfl⟩) hS ?_
    simp only [Act.put, pa92_3, pb92_3, pc92_3]
    refine tk92_3 (i := 11) (oi := zo35_1_11) (v := ?_) rfl (by kernel_rfl) (fun _ _ _ h => h) (Or.inl ⟨rfl, ?_⟩) hS ?_
    rotate_left
    · (intro w' hS'; (try dsimp only at hS'); dsimp only [zo35_1_11]; go_simp; try with_reducible rfl)
    simp only [Act.put, pa92_3, pb92_3, pc92_3]
    refine tk92_3 (i := 12) (oi := zo35_1_12) (v := ?_) rfl (by kernel_rfl) (fun _ _ _ h => h) (Or.inl ⟨rfl, ?_⟩) hS ?_
    rotate_left
    · (intro w' hS'; (try dsimp only at hS'); dsimp only [zo35_1_12]; go_simp; try with_reducible rfl)
    simp only [Act.put, pa92_3, pb92_3, pc92_3]
    refine tk92_3 (i := 13) (oi := zo35_1_13) rfl (by kernel_rfl) (fun _ _ _ h => h) (Or.inr ⟨rfl, rfl⟩) hS ?_
    simp only [Act.put, pa92_3, pb92_3, pc92_3]
    refine tk92_3 (i := 14) (oi := zo35_1_14) rfl (by kernel_rfl) (fun _ _ _ h => h) (Or.inr ⟨rfl, rfl⟩) hS ?_
    simp only [Act.put, pa92_3, pb92_3, pc92_3]
    refine tk92_3 (i := 15) (oi := zo35_1_15) rfl (by kernel_rfl) (fun _ _ _ h => h) (Or.inr ⟨rfl, rfl⟩) hS ?_
    simp only [Act.put, pa92_3, pb92_3, pc92_3]
    refine tk92_3 (i := 16) (oi := zo35_1_16) rfl (by kernel_rfl) (fun _ _ _ h => h) (Or.inr ⟨rfl, rfl⟩) hS ?_
    simp only [Act.put, pa92_3, pb92_3, pc92_3]
    refine tk92_3 (i := 17) (oi := zo35_1_17) rfl (by kernel_rfl) (fun _ _ _ h => h) (Or.inr ⟨rfl, rfl⟩) hS ?_
    simp only [Act.put, pa92_3, pb92_3, pc92_3]
    refine tk92_3 (i := 18) (oi := zo35_1_18) rfl (by kernel_rfl) (fun _ _ _ h => h) (Or.inr ⟨rfl, rfl⟩) hS ?_
    simp only [Act.put, pa92_3, pb92_3, pc92_3]
    refine tk92_3 (i := 19) (oi := zo35_1_19) (v := ?_) rfl (by kernel_rfl) (fun _ _ _ h => h) (Or.inl ⟨rfl, ?_⟩) hS ?_
    rotate_left
    · (intro w' hS'; (try dsimp only at hS'); dsimp only [zo35_1_19]; go_simp; try with_reducible rfl)
    simp only [Act.put, pa92_3, pb92_3, pc92_3]
    refine tk92_3 (i := 20) (oi := zo35_1_20) (v := ?_) rfl (by kernel_rfl) (fun _ _ _ h => h) (Or.inl ⟨rfl, ?_⟩) hS ?_
    rotate_left
    · (intro w' hS'; (try dsimp only at hS'); dsimp only [zo35_1_20]; go_simp; try with_reducible rfl)
    simp only [Act.put, pa92_3, pb92_3, pc92_3]
    refine tk92_3 (i := 21) (oi := zo35_1_21) rfl (by kernel_rfl) (fun _ _ _ h => h) (Or.inr ⟨rfl, rfl⟩) hS ?_
    simp only [Act.put, pa92_3, pb92_3, pc92_3]
    refine tk92_3 (i := 22) (oi := zo35_1_22) rfl (by kernel_rfl) (fun _ _ _ h => h) (Or.inr ⟨rfl, rfl⟩) hS ?_
    simp only [Act.put, pa92_3, pb92_3, pc92_3]
    refine tk92_3 (i := 23) (oi := zo35_1_23) rfl (by kernel_rfl) (fun _ _ _ h => h) (Or.inr ⟨rfl, rfl⟩) hS ?_
    simp only [Act.put, pa92_3, pb92_3, pc92_3]
    refine tk92_3 (i := 24) (oi := zo35_1_24) rfl (by kernel_rfl) (fun _ _ _ h => h) (Or.inr ⟨rfl, rfl⟩) hS ?_
    simp only [Act.put, pa92_3, pb92_3, pc92_3]
    refine tk92_3 (i := 25) (oi := zo35_1_25) rfl (by kernel_rfl) (fun _ _ _ h => h) (Or.inr ⟨rfl, rfl⟩) hS ?_
    simp only [Act.put, pa92_3, pb92_3, pc92_3]
    refine tk92_3 (i := 26) (oi := zo35_1_26) rfl (by kernel_rfl) (fun _ _ _ h => h) (Or.inr ⟨rfl, rfl⟩) hS ?_
    simp only [Act.put, pa92_3, pb92_3, pc92_3]
    refine tk92_3 (i := 27) (oi := zo35_1_27) rfl (by kernel_rfl) (fun _ _ _ h => h) (Or.inr ⟨rfl, rfl⟩) hS ?_
    simp only [Act.put, pa92_3, pb92_3, pc92_3]
    refine tk92_3 (i := 28) (oi := zo35_1_28) rfl (by kernel_rfl) (fun _ _ _ h => h) (Or.inr ⟨rfl, rfl⟩) hS ?_
    simp only [Act.put, pa92_3, pb92_3, pc92_3]
    refine tk92_3 (i := 29) (oi := zo35_1_29) rfl (by kernel_rfl) (fun _ _ _ h => h) (Or.inr ⟨rfl, rfl⟩) hS ?_
    simp only [Act.put, pa92_3, pb92_3, pc92_3]
    refine tk92_3 (i := 30) (oi := zo35_1_30) (v := ?_) rfl (by kernel_rfl) (fun _ _ _ h => h) (Or.inl ⟨rfl, ?_⟩) hS ?_
    rotate_left
    · (intro w' hS'; (try dsimp only at hS'); dsimp only [zo35_1_30]; go_simp; try with_reducible rfl)
    simp only [Act.put, pa92_3, pb92_3, pc92_3]
    refine wpAnyH_done (by kernel_rfl) ?_ _
    go_wp2_with fail
    go_ret
    exact ⟨ret_boolI HF.out.symm, bb⟩
  simp only [hs] at HS
  cases hi : inkB q.strokes
  · have HF := Lib.hid (sessB_ink hi)
    simp only [hi] at HI
    clear hs hi
    go_wp2_with fail
    replace R := R.drew
    have hS : (fun w' : World => w'.cell? ⟨g, 9, none⟩ = some (.slice A3 q.strokes.length k3) ∧ w'.cell? ⟨g, 11, none⟩ = some (.int .i64 q.time)) w.drew := ⟨R.cell' (i := 9) rfl, R.cell' (i := 11) rfl⟩
    dsimp only at hS
    refine wp_region_held_drew (S := (fun w' : World => w'.cell? ⟨g, 9, none⟩ = some (.slice A3 q.strokes.length k3) ∧ w'.cell? ⟨g, 11, none⟩ = some (.int .i64 q.time))) (by kernel_rfl) hS (fun _ => ?_)
    replace bb := bb.drew
    replace h0 := h0.drew
    replace h1 := h1.drew
    replace h2 := h2.drew
    replace h3 := h3.drew
    replace h4 := h4.drew
    replace h5 := h5.drew
    refine tk92_3 (i := 0) (oi := zo35_1_0) (v := ?_) rfl (by kernel_rfl) (fun _ _ _ h => h) (Or.inl ⟨rfl, ?_⟩) hS ?_
    rotate_left
    · (intro w' hS'; (try dsimp only at hS'); dsimp only [zo35_1_0]; go_simp; try with_reducible rfl)
    simp only [Act.put, pa92_3, pb92_3, pc92_3]
    refine tk92_3 (i := 1) (oi := zo35_1_1) (v := ?_) rfl (by kernel_rfl) (fun _ _ _ h => h) (Or.inl ⟨rfl, ?_⟩) hS ?_
    rotate_left
    · (intro w' hS'; (try dsimp only at hS'); dsimp only [zo35_1_1]; go_simp; try with_reducible rfl)
    simp only [Act.put, pa92_3, pb92_3, pc92_3]
    refine tk92_3 (i := 2) (oi := zo35_1_2) (v := ?_) rfl (by kernel_rfl) (fun _ _ _ h => h) (Or.inl ⟨rfl, ?_⟩) hS ?_
    rotate_left
    · (intro w' hS'; (try dsimp only at hS'); dsimp only [zo35_1_2]; go_simp; try with_reducible rfl)
    simp only [Act.put, pa92_3, pb92_3, pc92_3]
    refine wpAnyH_ready (rs := [3]) (by kernel_rfl) (by simp) ?_
    refine AllReadyH.cons (o := zo35_1_3) rfl (fun K hK => ?_) .nil
    refine step_call 55 #[Go.Operand.tmp 6] _ rfl rfl #[.pointer (some ⟨g, 0, none⟩)] Tryz.call55 (by go_simp) (HS.out _ h0 h1 h2 R.lt (R.cell' (i := 0) rfl) (R.cell' (i := 1) rfl) (R.cell' (i := 2) rfl) (R.cell' (i := 3) rfl) (R.cell' (i := 4) rfl) (R.cell' (i := 5) rfl) (R.cell' (i := 6) rfl) (R.cell' (i := 7) rfl) (R.cell' (i := 8) rfl)) ?_
    rintro e w1 ⟨rfl, b1⟩
    refine ⟨_, rfl, ?_⟩
    replace R := R.later b1
    replace bb := bb.trans (b1.mono bb.size)
    replace h0 := h0.below b1
    replace h1 := h1.below b1
    replace h2 := h2.below b1
    replace h3 := h3.below b1
    replace h4 := h4.below b1
    replace h5 := h5.below b1
    replace hS : (fun w' : World => w'.cell? ⟨g, 9, none⟩ = some (.slice A3 q.strokes.length k3) ∧ w'.cell? ⟨g, 11, none⟩ = some (.int .i64 q.time)) w1 := ⟨R.cell' (i := 9) rfl, R.cell' (i := 11) rfl⟩
    dsimp only at hS
    refine hK.out _ _ ?_ (fun hHeld => ?_)
    · exact hS
    clear hK K hHeld
    simp only [Act.put, pa92_3, pb92_3, pc92_3]
    refine tk92_3 (i := 4) (oi := zo35_1_4) (v := ?_) rfl (by kernel_rfl) (fun _ _ _ h => h) (Or.inl ⟨rfl, ?_⟩) hS ?_
    rotate_left
    · (intro w' hS'; (try dsimp only at hS'); dsimp only [zo35_1_4]; go_simp; try with_reducible rfl)
    simp only [Act.put, pa92_3, pb92_3, pc92_3]
    refine tk92_3 (i := 5) (oi := zo35_1_5) (v := ?_) rfl (by kernel_rfl) (fun _ _ _ h => h) (Or.inl ⟨rfl, ?_⟩) hS ?_
    rotate_left
    · (intro w' hS'; (try dsimp only at hS'); dsimp only [zo35_1_5]; go_simp; try with_reducible rfl)
    simp only [Act.put, pa92_3, pb92_3, pc92_3]
    refine tk92_3 (i := 6) (oi := zo35_1_6) (v := ?_) rfl (by kernel_rfl) (fun _ _ _ h => h) (Or.inl ⟨rfl, ?_⟩) hS ?_
    rotate_left
    · (intro w' hS'; (try dsimp only at hS'); dsimp only [zo35_1_6]; go_simp; try with_reducible rfl)
    simp only [Act.put, pa92_3, pb92_3, pc92_3]
    refine tk92_3 (i := 7) (oi := zo35_1_7) (v := ?_) rfl (by kernel_rfl) (fun _ _ _ h => h) (Or.inl ⟨rfl, ?_⟩) hS ?_
    rotate_left
    · (intro w' hS'; (try dsimp only at hS'); dsimp only [zo35_1_7]; go_simp; try with_reducible rfl)
    simp only [Act.put, pa92_3, pb92_3, pc92_3]
    refine tk92_3 (i := 8) (oi := zo35_1_8) (v := ?_) rfl (by kernel_rfl) (fun _ _ _ h => h) (Or.inl ⟨rfl, ?_⟩) hS ?_
    rotate_left
    · (intro w' hS'; (try dsimp only at hS'); dsimp only [zo35_1_8]; go_simp; try with_reducible rfl)
    simp only [Act.put, pa92_3, pb92_3, pc92_3]
    refine wpAnyH_ready (rs := [9]) (by kernel_rfl) (by simp) ?_
    refine AllReadyH.cons (o := zo35_1_9) rfl (fun K hK => ?_) .nil
    refine step_call 90 #[Go.Operand.tmp 12] _ rfl rfl #[.pointer (some ⟨g, 9, none⟩)] Tryz.call90 (by go_simp) (HI.out _ h3 R.lt (R.cell' (i := 9) rfl)) ?_
    rintro e w2 ⟨rfl, b2⟩
    refine ⟨_, rfl, ?_⟩
    replace R := R.later b2
    replace bb := bb.trans (b2.mono bb.size)
    replace h0 := h0.below b2
    replace h1 := h1.below b2
    replace h2 := h2.below b2
    replace h3 := h3.below b2
    replace h4 := h4.below b2
    replace h5 := h5.below b2
    replace hS : (fun w' : World => w'.cell? ⟨g, 9, none⟩ = some (.slice A3 q.strokes.length k3) ∧ w'.cell? ⟨g, 11, none⟩ = some (.int .i64 q.time)) w2 := ⟨R.cell' (i := 9) rfl, R.cell' (i := 11) rfl⟩
    dsimp only at hS
    refine hK.out _ _ ?_ (fun hHeld => ?_)
    · exact hS
    clear hK K hHeld
    simp only [Act.put, pa92_3, pb92_3, pc92_3]
    refine tk92_3 (i := 10) (oi := zo35_1_10) (v := ?_) rfl (by kernel_rfl) (fun _ _ _ h => h) (Or.inl ⟨rfl, ?_⟩) hS ?_
    rotate_left
    · (intro w' hS'; (try dsimp only at hS'); dsimp only [zo35_1_10]; go_simp; try with_reducible rfl)
    simp only [Act.put, pa92_3, pb92_3, pc92_3]
    refine tk92_3 (i := 11) (oi := zo35_1_11) (v := ?_) rfl (by kernel_rfl) (fun _ _ _ h => h) (Or.inl ⟨rfl, ?_⟩) hS ?_
    rotate_left
    · (intro w' hS'; (try dsimp only at hS'); dsimp only [zo35_1_11]; go_simp; try with_reducible rfl)
    simp only [Act.put, pa92_3, pb92_3, pc92_3]
    refine tk92_3 (i := 12) (oi := zo35_1_12) (v := ?_) rfl (by kernel_rfl) (fun _ _ _ h => h) (Or.inl ⟨rfl, ?_⟩) hS ?_
    rotate_left
    · (intro w' hS'; (try dsimp only at hS'); dsimp only [zo35_1_12]; go_simp; try with_reducible rfl)
    simp only [Act.put, pa92_3, pb92_3, pc92_3]
    refine tk92_3 (i := 13) (oi := zo35_1_13) rfl (by kernel_rfl) (fun _ _ _ h => h) (Or.inr ⟨rfl, rfl⟩) hS ?_
    simp only [Act.put, pa92_3, pb92_3, pc92_3]
    refine tk92_3 (i := 14) (oi := zo35_1_14) rfl (by kernel_rfl) (fun _ _ _ h => h) (Or.inr ⟨rfl, rfl⟩) hS ?_
    simp only [Act.put, pa92_3, pb92_3, pc92_3]
    refine tk92_3 (i := 15) (oi := zo35_1_15) rfl (by kernel_rfl) (fun _ _ _ h => h) (Or.inr ⟨rfl, rfl⟩) hS ?_
    simp only [Act.put, pa92_3, pb92_3, pc92_3]
    refine tk92_3 (i := 16) (oi := zo35_1_16) rfl (by kernel_rfl) (fun _ _ _ h => h) (Or.inr ⟨rfl, rfl⟩) hS ?_
    simp only [Act.put, pa92_3, pb92_3, pc92_3]
    refine tk92_3 (i := 17) (oi := zo35_1_17) rfl (by kernel_rfl) (fun _ _ _ h => h) (Or.inr ⟨rfl, rfl⟩) hS ?_
    simp only [Act.put, pa92_3, pb92_3, pc92_3]
    refine tk92_3 (i := 18) (oi := zo35_1_18) rfl (by kernel_rfl) (fun _ _ _ h => h) (Or.inr ⟨rfl, rfl⟩) hS ?_
    simp only [Act.put, pa92_3, pb92_3, pc92_3]
    refine tk92_3 (i := 19) (oi := zo35_1_19) (v := ?_) rfl (by kernel_rfl) (fun _ _ _ h => h) (Or.inl ⟨rfl, ?_⟩) hS ?_
    rotate_left
    · (intro w' hS'; (try dsimp only at hS'); dsimp only [zo35_1_19]; go_simp; try with_reducible rfl)
    simp only [Act.put, pa92_3, pb92_3, pc92_3]
    refine tk92_3 (i := 20) (oi := zo35_1_20) (v := ?_) rfl (by kernel_rfl) (fun _ _ _ h => h) (Or.inl ⟨rfl, ?_⟩) hS ?_
    rotate_left
    · (intro w' hS'; (try dsimp only at hS'); dsimp only [zo35_1_20]; go_simp; try with_reducible rfl)
    simp only [Act.put, pa92_3, pb92_3, pc92_3]
    refine tk92_3 (i := 21) (oi := zo35_1_21) rfl (by kernel_rfl) (fun _ _ _ h => h) (Or.inr ⟨rfl, rfl⟩) hS ?_
    simp only [Act.put, pa92_3, pb92_3, pc92_3]
    refine tk92_3 (i := 22) (oi := zo35_1_22) rfl (by kernel_rfl) (fun _ _ _ h => h) (Or.inr ⟨rfl, rfl⟩) hS ?_
    simp only [Act.put, pa92_3, pb92_3, pc92_3]
    refine tk92_3 (i := 23) (oi := zo35_1_23) rfl (by kernel_rfl) (fun _ _ _ h => h) (Or.inr ⟨rfl, rfl⟩) hS ?_
    simp only [Act.put, pa92_3, pb92_3, pc92_3]
    refine tk92_3 (i := 24) (oi := zo35_1_24) rfl (by kernel_rfl) (fun _ _ _ h => h) (Or.inr ⟨rfl, rfl⟩) hS ?_
    simp only [Act.put, pa92_3, pb92_3, pc92_3]
    refine tk92_3 (i := 25) (oi := zo35_1_25) rfl (by kernel_rfl) (fun _ _ _ h => h) (Or.inr ⟨rfl, rfl⟩) hS ?_
    simp only [Act.put, pa92_3, pb92_3, pc92_3]
    refine tk92_3 (i := 26) (oi := zo35_1_26) rfl (by kernel_rfl) (fun _ _ _ h => h) (Or.inr ⟨rfl, rfl⟩) hS ?_
    simp only [Act.put, pa92_3, pb92_3, pc92_3]
    refine tk92_3 (i := 27) (oi := zo35_1_27) rfl (by kernel_rfl) (fun _ _ _ h => h) (Or.inr ⟨rfl, rfl⟩) hS ?_
    simp only [Act.put, pa92_3, pb92_3, pc92_3]
    refine tk92_3 (i := 28) (oi := zo35_1_28) rfl (by kernel_rfl) (fun _ _ _ h => h) (Or.inr ⟨rfl, rfl⟩) hS ?_
    simp only [Act.put, pa92_3, pb92_3, pc92_3]
    refine tk92_3 (i := 29) (oi := zo35_1_29) rfl (by kernel_rfl) (fun _ _ _ h => h) (Or.inr ⟨rfl, rfl⟩) hS ?_
    simp only [Act.put, pa92_3, pb92_3, pc92_3]
    refine tk92_3 (i := 30) (oi := zo35_1_30) (v := ?_) rfl (by kernel_rfl) (fun _ _ _ h => h) (Or.inl ⟨rfl, ?_⟩) hS ?_
    rotate_left
    · (intro w' hS'; (try dsimp only at hS'); dsimp only [zo35_1_30]; go_simp; try with_reducible rfl)
    simp only [Act.put, pa92_3, pb92_3, pc92_3]
    refine wpAnyH_done (by kernel_rfl) ?_ _
    go_wp2_with fail
    go_ret
    exact ⟨ret_boolI HF.out.symm, bb⟩
  simp only [hi] at HI
  cases ht : inR q.time 0 3600000
  · have HF := Lib.hid (sessB_time ht)
    simp only [ht] at HT
    clear hs hi ht
    go_wp2_with fail
    replace R := R.drew
    have hS : (fun w' : World => w'.cell? ⟨g, 9, none⟩ = some (.slice A3 q.strokes.length k3) ∧ w'.cell? ⟨g, 11, none⟩ = some (.int .i64 q.time)) w.drew := ⟨R.cell' (i := 9) rfl, R.cell' (i := 11) rfl⟩
    dsimp only at hS
    refine wp_region_held_drew (S := (fun w' : World => w'.cell? ⟨g, 9, none⟩ = some (.slice A3 q.strokes.length k3) ∧ w'.cell? ⟨g, 11, none⟩ = some (.int .i64 q.time))) (by kernel_rfl) hS (fun _ => ?_)
    replace bb := bb.drew
    replace h0 := h0.drew
    replace h1 := h1.drew
    replace h2 := h2.drew
    replace h3 := h3.drew
    replace h4 := h4.drew
    replace h5 := h5.drew
    refine tk92_3 (i := 0) (oi := zo35_1_0) (v := ?_) rfl (by kernel_rfl) (fun _ _ _ h => h) (Or.inl ⟨rfl, ?_⟩) hS ?_
    rotate_left
    · (intro w' hS'; (try dsimp only at hS'); dsimp only [zo35_1_0]; go_simp; try with_reducible rfl)
    simp only [Act.put, pa92_3, pb92_3, pc92_3]
    refine tk92_3 (i := 1) (oi := zo35_1_1) (v := ?_) rfl (by kernel_rfl) (fun _ _ _ h => h) (Or.inl ⟨rfl, ?_⟩) hS ?_
    rotate_left
    · (intro w' hS'; (try dsimp only at hS'); dsimp only [zo35_1_1]; go_simp; try with_reducible rfl)
    simp only [Act.put, pa92_3, pb92_3, pc92_3]
    refine tk92_3 (i := 2) (oi := zo35_1_2) (v := ?_) rfl (by kernel_rfl) (fun _ _ _ h => h) (Or.inl ⟨rfl, ?_⟩) hS ?_
    rotate_left
    · (intro w' hS'; (try dsimp only at hS'); dsimp only [zo35_1_2]; go_simp; try with_reducible rfl)
    simp only [Act.put, pa92_3, pb92_3, pc92_3]
    refine wpAnyH_ready (rs := [3]) (by kernel_rfl) (by simp) ?_
    refine AllReadyH.cons (o := zo35_1_3) rfl (fun K hK => ?_) .nil
    refine step_call 55 #[Go.Operand.tmp 6] _ rfl rfl #[.pointer (some ⟨g, 0, none⟩)] Tryz.call55 (by go_simp) (HS.out _ h0 h1 h2 R.lt (R.cell' (i := 0) rfl) (R.cell' (i := 1) rfl) (R.cell' (i := 2) rfl) (R.cell' (i := 3) rfl) (R.cell' (i := 4) rfl) (R.cell' (i := 5) rfl) (R.cell' (i := 6) rfl) (R.cell' (i := 7) rfl) (R.cell' (i := 8) rfl)) ?_
    rintro e w1 ⟨rfl, b1⟩
    refine ⟨_, rfl, ?_⟩
    replace R := R.later b1
    replace bb := bb.trans (b1.mono bb.size)
    replace h0 := h0.below b1
    replace h1 := h1.below b1
    replace h2 := h2.below b1
    replace h3 := h3.below b1
    replace h4 := h4.below b1
    replace h5 := h5.below b1
    replace hS : (fun w' : World => w'.cell? ⟨g, 9, none⟩ = some (.slice A3 q.strokes.length k3) ∧ w'.cell? ⟨g, 11, none⟩ = some (.int .i64 q.time)) w1 := ⟨R.cell' (i := 9) rfl, R.cell' (i := 11) rfl⟩
    dsimp only at hS
    refine hK.out _ _ ?_ (fun hHeld => ?_)
    · exact hS
    clear hK K hHeld
    simp only [Act.put, pa92_3, pb92_3, pc92_3]
    refine tk92_3 (i := 4) (oi := zo35_1_4) (v := ?_) rfl (by kernel_rfl) (fun _ _ _ h => h) (Or.inl ⟨rfl, ?_⟩) hS ?_
    rotate_left
    · (intro w' hS'; (try dsimp only at hS'); dsimp only [zo35_1_4]; go_simp; try with_reducible rfl)
    simp only [Act.put, pa92_3, pb92_3, pc92_3]
    refine tk92_3 (i := 5) (oi := zo35_1_5) (v := ?_) rfl (by kernel_rfl) (fun _ _ _ h => h) (Or.inl ⟨rfl, ?_⟩) hS ?_
    rotate_left
    · (intro w' hS'; (try dsimp only at hS'); dsimp only [zo35_1_5]; go_simp; try with_reducible rfl)
    simp only [Act.put, pa92_3, pb92_3, pc92_3]
    refine tk92_3 (i := 6) (oi := zo35_1_6) (v := ?_) rfl (by kernel_rfl) (fun _ _ _ h => h) (Or.inl ⟨rfl, ?_⟩) hS ?_
    rotate_left
    · (intro w' hS'; (try dsimp only at hS'); dsimp only [zo35_1_6]; go_simp; try with_reducible rfl)
    simp only [Act.put, pa92_3, pb92_3, pc92_3]
    refine tk92_3 (i := 7) (oi := zo35_1_7) (v := ?_) rfl (by kernel_rfl) (fun _ _ _ h => h) (Or.inl ⟨rfl, ?_⟩) hS ?_
    rotate_left
    · (intro w' hS'; (try dsimp only at hS'); dsimp only [zo35_1_7]; go_simp; try with_reducible rfl)
    simp only [Act.put, pa92_3, pb92_3, pc92_3]
    refine tk92_3 (i := 8) (oi := zo35_1_8) (v := ?_) rfl (by kernel_rfl) (fun _ _ _ h => h) (Or.inl ⟨rfl, ?_⟩) hS ?_
    rotate_left
    · (intro w' hS'; (try dsimp only at hS'); dsimp only [zo35_1_8]; go_simp; try with_reducible rfl)
    simp only [Act.put, pa92_3, pb92_3, pc92_3]
    refine wpAnyH_ready (rs := [9]) (by kernel_rfl) (by simp) ?_
    refine AllReadyH.cons (o := zo35_1_9) rfl (fun K hK => ?_) .nil
    refine step_call 90 #[Go.Operand.tmp 12] _ rfl rfl #[.pointer (some ⟨g, 9, none⟩)] Tryz.call90 (by go_simp) (HI.out _ h3 R.lt (R.cell' (i := 9) rfl)) ?_
    rintro e w2 ⟨rfl, b2⟩
    refine ⟨_, rfl, ?_⟩
    replace R := R.later b2
    replace bb := bb.trans (b2.mono bb.size)
    replace h0 := h0.below b2
    replace h1 := h1.below b2
    replace h2 := h2.below b2
    replace h3 := h3.below b2
    replace h4 := h4.below b2
    replace h5 := h5.below b2
    replace hS : (fun w' : World => w'.cell? ⟨g, 9, none⟩ = some (.slice A3 q.strokes.length k3) ∧ w'.cell? ⟨g, 11, none⟩ = some (.int .i64 q.time)) w2 := ⟨R.cell' (i := 9) rfl, R.cell' (i := 11) rfl⟩
    dsimp only at hS
    refine hK.out _ _ ?_ (fun hHeld => ?_)
    · exact hS
    clear hK K hHeld
    simp only [Act.put, pa92_3, pb92_3, pc92_3]
    refine tk92_3 (i := 10) (oi := zo35_1_10) (v := ?_) rfl (by kernel_rfl) (fun _ _ _ h => h) (Or.inl ⟨rfl, ?_⟩) hS ?_
    rotate_left
    · (intro w' hS'; (try dsimp only at hS'); dsimp only [zo35_1_10]; go_simp; try with_reducible rfl)
    simp only [Act.put, pa92_3, pb92_3, pc92_3]
    refine tk92_3 (i := 11) (oi := zo35_1_11) (v := ?_) rfl (by kernel_rfl) (fun _ _ _ h => h) (Or.inl ⟨rfl, ?_⟩) hS ?_
    rotate_left
    · (intro w' hS'; (try dsimp only at hS'); dsimp only [zo35_1_11]; go_simp; try with_reducible rfl)
    simp only [Act.put, pa92_3, pb92_3, pc92_3]
    refine tk92_3 (i := 12) (oi := zo35_1_12) (v := ?_) rfl (by kernel_rfl) (fun _ _ _ h => h) (Or.inl ⟨rfl, ?_⟩) hS ?_
    rotate_left
    · (intro w' hS'; (try dsimp only at hS'); dsimp only [zo35_1_12]; go_simp; try with_reducible rfl)
    simp only [Act.put, pa92_3, pb92_3, pc92_3]
    refine tk92_3 (i := 13) (oi := zo35_1_13) (v := ?_) rfl (by kernel_rfl) (fun _ _ _ h => h) (Or.inl ⟨rfl, ?_⟩) hS ?_
    rotate_left
    · (intro w' hS'; (try dsimp only at hS'); dsimp only [zo35_1_13]; go_simp; try with_reducible rfl)
    simp only [Act.put, pa92_3, pb92_3, pc92_3]
    refine tk92_3 (i := 14) (oi := zo35_1_14) (v := ?_) rfl (by kernel_rfl) (fun _ _ _ h => h) (Or.inl ⟨rfl, ?_⟩) hS ?_
    rotate_left
    · (intro w' hS'; (try dsimp only at hS'); dsimp only [zo35_1_14]; go_simp; try with_reducible rfl)
    simp only [Act.put, pa92_3, pb92_3, pc92_3]
    refine tk92_3 (i := 15) (oi := zo35_1_15) (v := ?_) rfl (by kernel_rfl) (fun _ _ _ h => h) (Or.inl ⟨rfl, ?_⟩) hS ?_
    rotate_left
    · (intro w' hS'; (try dsimp only at hS'); dsimp only [zo35_1_15]; go_simp; try with_reducible rfl)
    simp only [Act.put, pa92_3, pb92_3, pc92_3]
    refine tk92_3 (i := 16) (oi := zo35_1_16) (v := ?_) rfl (by kernel_rfl) (fun _ _ _ h => h) (Or.inl ⟨rfl, ?_⟩) hS ?_
    rotate_left
    · (intro w' hS'; (try dsimp only at hS'); dsimp only [zo35_1_16]; go_simp; try with_reducible rfl)
    simp only [Act.put, pa92_3, pb92_3, pc92_3]
    refine wpAnyH_ready (rs := [17]) (by kernel_rfl) (by simp) ?_
    refine AllReadyH.cons (o := zo35_1_17) rfl (fun K hK => ?_) .nil
    refine step_call 91 #[Go.Operand.tmp 20, Go.Operand.const (Go.Value.int Go.IntKind.i64 0), Go.Operand.const (Go.Value.int Go.IntKind.i64 3600000)] _ rfl rfl #[.int .i64 q.time, .int .i64 0, .int .i64 3600000] Tryz.call91 (by go_simp) (HT.out _) ?_
    rintro e w3 ⟨rfl, rfl⟩
    refine ⟨_, rfl, ?_⟩
    refine hK.out _ _ ?_ (fun hHeld => ?_)
    · exact hS
    clear hK K hHeld
    simp only [Act.put, pa92_3, pb92_3, pc92_3]
    refine tk92_3 (i := 18) (oi := zo35_1_18) (v := ?_) rfl (by kernel_rfl) (fun _ _ _ h => h) (Or.inl ⟨rfl, ?_⟩) hS ?_
    rotate_left
    · (intro w' hS'; (try dsimp only at hS'); dsimp only [zo35_1_18]; go_simp; try with_reducible rfl)
    simp only [Act.put, pa92_3, pb92_3, pc92_3]
    refine tk92_3 (i := 19) (oi := zo35_1_19) (v := ?_) rfl (by kernel_rfl) (fun _ _ _ h => h) (Or.inl ⟨rfl, ?_⟩) hS ?_
    rotate_left
    · (intro w' hS'; (try dsimp only at hS'); dsimp only [zo35_1_19]; go_simp; try with_reducible rfl)
    simp only [Act.put, pa92_3, pb92_3, pc92_3]
    refine tk92_3 (i := 20) (oi := zo35_1_20) (v := ?_) rfl (by kernel_rfl) (fun _ _ _ h => h) (Or.inl ⟨rfl, ?_⟩) hS ?_
    rotate_left
    · (intro w' hS'; (try dsimp only at hS'); dsimp only [zo35_1_20]; go_simp; try with_reducible rfl)
    simp only [Act.put, pa92_3, pb92_3, pc92_3]
    refine tk92_3 (i := 21) (oi := zo35_1_21) rfl (by kernel_rfl) (fun _ _ _ h => h) (Or.inr ⟨rfl, rfl⟩) hS ?_
    simp only [Act.put, pa92_3, pb92_3, pc92_3]
    refine tk92_3 (i := 22) (oi := zo35_1_22) rfl (by kernel_rfl) (fun _ _ _ h => h) (Or.inr ⟨rfl, rfl⟩) hS ?_
    simp only [Act.put, pa92_3, pb92_3, pc92_3]
    refine tk92_3 (i := 23) (oi := zo35_1_23) rfl (by kernel_rfl) (fun _ _ _ h => h) (Or.inr ⟨rfl, rfl⟩) hS ?_
    simp only [Act.put, pa92_3, pb92_3, pc92_3]
    refine tk92_3 (i := 24) (oi := zo35_1_24) rfl (by kernel_rfl) (fun _ _ _ h => h) (Or.inr ⟨rfl, rfl⟩) hS ?_
    simp only [Act.put, pa92_3, pb92_3, pc92_3]
    refine tk92_3 (i := 25) (oi := zo35_1_25) rfl (by kernel_rfl) (fun _ _ _ h => h) (Or.inr ⟨rfl, rfl⟩) hS ?_
    simp only [Act.put, pa92_3, pb92_3, pc92_3]
    refine tk92_3 (i := 26) (oi := zo35_1_26) rfl (by kernel_rfl) (fun _ _ _ h => h) (Or.inr ⟨rfl, rfl⟩) hS ?_
    simp only [Act.put, pa92_3, pb92_3, pc92_3]
    refine tk92_3 (i := 27) (oi := zo35_1_27) rfl (by kernel_rfl) (fun _ _ _ h => h) (Or.inr ⟨rfl, rfl⟩) hS ?_
    simp only [Act.put, pa92_3, pb92_3, pc92_3]
    refine tk92_3 (i := 28) (oi := zo35_1_28) rfl (by kernel_rfl) (fun _ _ _ h => h) (Or.inr ⟨rfl, rfl⟩) hS ?_
    simp only [Act.put, pa92_3, pb92_3, pc92_3]
    refine tk92_3 (i := 29) (oi := zo35_1_29) rfl (by kernel_rfl) (fun _ _ _ h => h) (Or.inr ⟨rfl, rfl⟩) hS ?_
    simp only [Act.put, pa92_3, pb92_3, pc92_3]
    refine tk92_3 (i := 30) (oi := zo35_1_30) (v := ?_) rfl (by kernel_rfl) (fun _ _ _ h => h) (Or.inl ⟨rfl, ?_⟩) hS ?_
    rotate_left
    · (intro w' hS'; (try dsimp only at hS'); dsimp only [zo35_1_30]; go_simp; try with_reducible rfl)
    simp only [Act.put, pa92_3, pb92_3, pc92_3]
    refine wpAnyH_done (by kernel_rfl) ?_ _
    go_wp2_with fail
    go_ret
    exact ⟨ret_boolI HF.out.symm, bb⟩
  simp only [ht] at HT
  have HE : Hid (∀ w', (pStrokes I.pt I.st).rep o w' q.strokes [.slice A3 q.strokes.length k3] F3 → w'.cell? ⟨g, 9, none⟩ = some (.slice A3 q.strokes.length k3) → Calls Tryz.prog 92 #[.pointer (some ⟨g, 9, none⟩)] w' fun e w'' => e = .returned (.int .i64 (inkEndI q.strokes)) ∧ Below w'.heap.size w' w'') := fun w' q0 c9 => (spec_l26End_c w' c9 q0 hp.j hi).mono fun _ _ ⟨h1, n, h2⟩ => ⟨h1, h2 ▸ below_drewN (Below.refl _ _) n⟩
  by_cases he : inkEndI q.strokes ≤ q.time
  case neg =>
    have HF := Lib.hid (sessB_end he)
    have ge : (q.time < inkEndI q.strokes) = True := eq_true (by omega)
    clear hs hi ht he
    go_wp2_with fail
    replace R := R.drew
    have hS : (fun w' : World => w'.cell? ⟨g, 9, none⟩ = some (.slice A3 q.strokes.length k3) ∧ w'.cell? ⟨g, 11, none⟩ = some (.int .i64 q.time)) w.drew := ⟨R.cell' (i := 9) rfl, R.cell' (i := 11) rfl⟩
    dsimp only at hS
    refine wp_region_held_drew (S := (fun w' : World => w'.cell? ⟨g, 9, none⟩ = some (.slice A3 q.strokes.length k3) ∧ w'.cell? ⟨g, 11, none⟩ = some (.int .i64 q.time))) (by kernel_rfl) hS (fun _ => ?_)
    replace bb := bb.drew
    replace h0 := h0.drew
    replace h1 := h1.drew
    replace h2 := h2.drew
    replace h3 := h3.drew
    replace h4 := h4.drew
    replace h5 := h5.drew
    refine tk92_3 (i := 0) (oi := zo35_1_0) (v := ?_) rfl (by kernel_rfl) (fun _ _ _ h => h) (Or.inl ⟨rfl, ?_⟩) hS ?_
    rotate_left
    · (intro w' hS'; (try dsimp only at hS'); dsimp only [zo35_1_0]; go_simp; try with_reducible rfl)
    simp only [Act.put, pa92_3, pb92_3, pc92_3]
    refine tk92_3 (i := 1) (oi := zo35_1_1) (v := ?_) rfl (by kernel_rfl) (fun _ _ _ h => h) (Or.inl ⟨rfl, ?_⟩) hS ?_
    rotate_left
    · (intro w' hS'; (try dsimp only at hS'); dsimp only [zo35_1_1]; go_simp; try with_reducible rfl)
    simp only [Act.put, pa92_3, pb92_3, pc92_3]
    refine tk92_3 (i := 2) (oi := zo35_1_2) (v := ?_) rfl (by kernel_rfl) (fun _ _ _ h => h) (Or.inl ⟨rfl, ?_⟩) hS ?_
    rotate_left
    · (intro w' hS'; (try dsimp only at hS'); dsimp only [zo35_1_2]; go_simp; try with_reducible rfl)
    simp only [Act.put, pa92_3, pb92_3, pc92_3]
    refine wpAnyH_ready (rs := [3]) (by kernel_rfl) (by simp) ?_
    refine AllReadyH.cons (o := zo35_1_3) rfl (fun K hK => ?_) .nil
    refine step_call 55 #[Go.Operand.tmp 6] _ rfl rfl #[.pointer (some ⟨g, 0, none⟩)] Tryz.call55 (by go_simp) (HS.out _ h0 h1 h2 R.lt (R.cell' (i := 0) rfl) (R.cell' (i := 1) rfl) (R.cell' (i := 2) rfl) (R.cell' (i := 3) rfl) (R.cell' (i := 4) rfl) (R.cell' (i := 5) rfl) (R.cell' (i := 6) rfl) (R.cell' (i := 7) rfl) (R.cell' (i := 8) rfl)) ?_
    rintro e w1 ⟨rfl, b1⟩
    refine ⟨_, rfl, ?_⟩
    replace R := R.later b1
    replace bb := bb.trans (b1.mono bb.size)
    replace h0 := h0.below b1
    replace h1 := h1.below b1
    replace h2 := h2.below b1
    replace h3 := h3.below b1
    replace h4 := h4.below b1
    replace h5 := h5.below b1
    replace hS : (fun w' : World => w'.cell? ⟨g, 9, none⟩ = some (.slice A3 q.strokes.length k3) ∧ w'.cell? ⟨g, 11, none⟩ = some (.int .i64 q.time)) w1 := ⟨R.cell' (i := 9) rfl, R.cell' (i := 11) rfl⟩
    dsimp only at hS
    refine hK.out _ _ ?_ (fun hHeld => ?_)
    · exact hS
    clear hK K hHeld
    simp only [Act.put, pa92_3, pb92_3, pc92_3]
    refine tk92_3 (i := 4) (oi := zo35_1_4) (v := ?_) rfl (by kernel_rfl) (fun _ _ _ h => h) (Or.inl ⟨rfl, ?_⟩) hS ?_
    rotate_left
    · (intro w' hS'; (try dsimp only at hS'); dsimp only [zo35_1_4]; go_simp; try with_reducible rfl)
    simp only [Act.put, pa92_3, pb92_3, pc92_3]
    refine tk92_3 (i := 5) (oi := zo35_1_5) (v := ?_) rfl (by kernel_rfl) (fun _ _ _ h => h) (Or.inl ⟨rfl, ?_⟩) hS ?_
    rotate_left
    · (intro w' hS'; (try dsimp only at hS'); dsimp only [zo35_1_5]; go_simp; try with_reducible rfl)
    simp only [Act.put, pa92_3, pb92_3, pc92_3]
    refine tk92_3 (i := 6) (oi := zo35_1_6) (v := ?_) rfl (by kernel_rfl) (fun _ _ _ h => h) (Or.inl ⟨rfl, ?_⟩) hS ?_
    rotate_left
    · (intro w' hS'; (try dsimp only at hS'); dsimp only [zo35_1_6]; go_simp; try with_reducible rfl)
    simp only [Act.put, pa92_3, pb92_3, pc92_3]
    refine tk92_3 (i := 7) (oi := zo35_1_7) (v := ?_) rfl (by kernel_rfl) (fun _ _ _ h => h) (Or.inl ⟨rfl, ?_⟩) hS ?_
    rotate_left
    · (intro w' hS'; (try dsimp only at hS'); dsimp only [zo35_1_7]; go_simp; try with_reducible rfl)
    simp only [Act.put, pa92_3, pb92_3, pc92_3]
    refine tk92_3 (i := 8) (oi := zo35_1_8) (v := ?_) rfl (by kernel_rfl) (fun _ _ _ h => h) (Or.inl ⟨rfl, ?_⟩) hS ?_
    rotate_left
    · (intro w' hS'; (try dsimp only at hS'); dsimp only [zo35_1_8]; go_simp; try with_reducible rfl)
    simp only [Act.put, pa92_3, pb92_3, pc92_3]
    refine wpAnyH_ready (rs := [9]) (by kernel_rfl) (by simp) ?_
    refine AllReadyH.cons (o := zo35_1_9) rfl (fun K hK => ?_) .nil
    refine step_call 90 #[Go.Operand.tmp 12] _ rfl rfl #[.pointer (some ⟨g, 9, none⟩)] Tryz.call90 (by go_simp) (HI.out _ h3 R.lt (R.cell' (i := 9) rfl)) ?_
    rintro e w2 ⟨rfl, b2⟩
    refine ⟨_, rfl, ?_⟩
    replace R := R.later b2
    replace bb := bb.trans (b2.mono bb.size)
    replace h0 := h0.below b2
    replace h1 := h1.below b2
    replace h2 := h2.below b2
    replace h3 := h3.below b2
    replace h4 := h4.below b2
    replace h5 := h5.below b2
    replace hS : (fun w' : World => w'.cell? ⟨g, 9, none⟩ = some (.slice A3 q.strokes.length k3) ∧ w'.cell? ⟨g, 11, none⟩ = some (.int .i64 q.time)) w2 := ⟨R.cell' (i := 9) rfl, R.cell' (i := 11) rfl⟩
    dsimp only at hS
    refine hK.out _ _ ?_ (fun hHeld => ?_)
    · exact hS
    clear hK K hHeld
    simp only [Act.put, pa92_3, pb92_3, pc92_3]
    refine tk92_3 (i := 10) (oi := zo35_1_10) (v := ?_) rfl (by kernel_rfl) (fun _ _ _ h => h) (Or.inl ⟨rfl, ?_⟩) hS ?_
    rotate_left
    · (intro w' hS'; (try dsimp only at hS'); dsimp only [zo35_1_10]; go_simp; try with_reducible rfl)
    simp only [Act.put, pa92_3, pb92_3, pc92_3]
    refine tk92_3 (i := 11) (oi := zo35_1_11) (v := ?_) rfl (by kernel_rfl) (fun _ _ _ h => h) (Or.inl ⟨rfl, ?_⟩) hS ?_
    rotate_left
    · (intro w' hS'; (try dsimp only at hS'); dsimp only [zo35_1_11]; go_simp; try with_reducible rfl)
    simp only [Act.put, pa92_3, pb92_3, pc92_3]
    refine tk92_3 (i := 12) (oi := zo35_1_12) (v := ?_) rfl (by kernel_rfl) (fun _ _ _ h => h) (Or.inl ⟨rfl, ?_⟩) hS ?_
    rotate_left
    · (intro w' hS'; (try dsimp only at hS'); dsimp only [zo35_1_12]; go_simp; try with_reducible rfl)
    simp only [Act.put, pa92_3, pb92_3, pc92_3]
    refine tk92_3 (i := 13) (oi := zo35_1_13) (v := ?_) rfl (by kernel_rfl) (fun _ _ _ h => h) (Or.inl ⟨rfl, ?_⟩) hS ?_
    rotate_left
    · (intro w' hS'; (try dsimp only at hS'); dsimp only [zo35_1_13]; go_simp; try with_reducible rfl)
    simp only [Act.put, pa92_3, pb92_3, pc92_3]
    refine tk92_3 (i := 14) (oi := zo35_1_14) (v := ?_) rfl (by kernel_rfl) (fun _ _ _ h => h) (Or.inl ⟨rfl, ?_⟩) hS ?_
    rotate_left
    · (intro w' hS'; (try dsimp only at hS'); dsimp only [zo35_1_14]; go_simp; try with_reducible rfl)
    simp only [Act.put, pa92_3, pb92_3, pc92_3]
    refine tk92_3 (i := 15) (oi := zo35_1_15) (v := ?_) rfl (by kernel_rfl) (fun _ _ _ h => h) (Or.inl ⟨rfl, ?_⟩) hS ?_
    rotate_left
    · (intro w' hS'; (try dsimp only at hS'); dsimp only [zo35_1_15]; go_simp; try with_reducible rfl)
    simp only [Act.put, pa92_3, pb92_3, pc92_3]
    refine tk92_3 (i := 16) (oi := zo35_1_16) (v := ?_) rfl (by kernel_rfl) (fun _ _ _ h => h) (Or.inl ⟨rfl, ?_⟩) hS ?_
    rotate_left
    · (intro w' hS'; (try dsimp only at hS'); dsimp only [zo35_1_16]; go_simp; try with_reducible rfl)
    simp only [Act.put, pa92_3, pb92_3, pc92_3]
    refine wpAnyH_ready (rs := [17]) (by kernel_rfl) (by simp) ?_
    refine AllReadyH.cons (o := zo35_1_17) rfl (fun K hK => ?_) .nil
    refine step_call 91 #[Go.Operand.tmp 20, Go.Operand.const (Go.Value.int Go.IntKind.i64 0), Go.Operand.const (Go.Value.int Go.IntKind.i64 3600000)] _ rfl rfl #[.int .i64 q.time, .int .i64 0, .int .i64 3600000] Tryz.call91 (by go_simp) (HT.out _) ?_
    rintro e w3 ⟨rfl, rfl⟩
    refine ⟨_, rfl, ?_⟩
    refine hK.out _ _ ?_ (fun hHeld => ?_)
    · exact hS
    clear hK K hHeld
    simp only [Act.put, pa92_3, pb92_3, pc92_3]
    refine tk92_3 (i := 18) (oi := zo35_1_18) (v := ?_) rfl (by kernel_rfl) (fun _ _ _ h => h) (Or.inl ⟨rfl, ?_⟩) hS ?_
    rotate_left
    · (intro w' hS'; (try dsimp only at hS'); dsimp only [zo35_1_18]; go_simp; try with_reducible rfl)
    simp only [Act.put, pa92_3, pb92_3, pc92_3]
    refine tk92_3 (i := 19) (oi := zo35_1_19) (v := ?_) rfl (by kernel_rfl) (fun _ _ _ h => h) (Or.inl ⟨rfl, ?_⟩) hS ?_
    rotate_left
    · (intro w' hS'; (try dsimp only at hS'); dsimp only [zo35_1_19]; go_simp; try with_reducible rfl)
    simp only [Act.put, pa92_3, pb92_3, pc92_3]
    refine tk92_3 (i := 20) (oi := zo35_1_20) (v := ?_) rfl (by kernel_rfl) (fun _ _ _ h => h) (Or.inl ⟨rfl, ?_⟩) hS ?_
    rotate_left
    · (intro w' hS'; (try dsimp only at hS'); dsimp only [zo35_1_20]; go_simp; try with_reducible rfl)
    simp only [Act.put, pa92_3, pb92_3, pc92_3]
    refine tk92_3 (i := 21) (oi := zo35_1_21) (v := ?_) rfl (by kernel_rfl) (fun _ _ _ h => h) (Or.inl ⟨rfl, ?_⟩) hS ?_
    rotate_left
    · (intro w' hS'; (try dsimp only at hS'); dsimp only [zo35_1_21]; go_simp; try with_reducible rfl)
    simp only [Act.put, pa92_3, pb92_3, pc92_3]
    refine tk92_3 (i := 22) (oi := zo35_1_22) (v := ?_) rfl (by kernel_rfl) (fun _ _ _ h => h) (Or.inl ⟨rfl, ?_⟩) hS ?_
    rotate_left
    · (intro w' hS'; (try dsimp only at hS'); dsimp only [zo35_1_22]; go_simp; try with_reducible rfl)
    simp only [Act.put, pa92_3, pb92_3, pc92_3]
    refine tk92_3 (i := 23) (oi := zo35_1_23) (v := ?_) rfl (by kernel_rfl) (fun _ _ _ h => h) (Or.inl ⟨rfl, ?_⟩) hS ?_
    rotate_left
    · (intro w' hS'; (try dsimp only at hS'); dsimp only [zo35_1_23]; go_simp; try with_reducible rfl)
    simp only [Act.put, pa92_3, pb92_3, pc92_3]
    refine tk92_3 (i := 25) (oi := zo35_1_25) (v := ?_) rfl (by kernel_rfl) (fun _ _ _ h => h) (Or.inl ⟨rfl, ?_⟩) hS ?_
    rotate_left
    · (intro w' hS'; (try dsimp only at hS'); dsimp only [zo35_1_25]; go_simp; try with_reducible rfl)
    simp only [Act.put, pa92_3, pb92_3, pc92_3]
    refine tk92_3 (i := 26) (oi := zo35_1_26) (v := ?_) rfl (by kernel_rfl) (fun _ _ _ h => h) (Or.inl ⟨rfl, ?_⟩) hS ?_
    rotate_left
    · (intro w' hS'; (try dsimp only at hS'); dsimp only [zo35_1_26]; go_simp; try with_reducible rfl)
    simp only [Act.put, pa92_3, pb92_3, pc92_3]
    refine tk92_3 (i := 27) (oi := zo35_1_27) (v := ?_) rfl (by kernel_rfl) (fun _ _ _ h => h) (Or.inl ⟨rfl, ?_⟩) hS ?_
    rotate_left
    · (intro w' hS'; (try dsimp only at hS'); dsimp only [zo35_1_27]; go_simp; try with_reducible rfl)
    simp only [Act.put, pa92_3, pb92_3, pc92_3]
    refine tk92_3 (i := 28) (oi := zo35_1_28) (v := ?_) rfl (by kernel_rfl) (fun _ _ _ h => h) (Or.inl ⟨rfl, ?_⟩) hS ?_
    rotate_left
    · (intro w' hS'; (try dsimp only at hS'); dsimp only [zo35_1_28]; go_simp; try with_reducible rfl)
    simp only [Act.put, pa92_3, pb92_3, pc92_3]
    refine wpAnyH_ready (rs := [24]) (by kernel_rfl) (by simp) ?_
    refine AllReadyH.cons (o := zo35_1_24) rfl (fun K hK => ?_) .nil
    refine step_call 92 #[Go.Operand.tmp 27] _ rfl rfl #[.pointer (some ⟨g, 9, none⟩)] Tryz.call92 (by go_simp) (HE.out _ h3 (R.cell' (i := 9) rfl)) ?_
    rintro e w4 ⟨rfl, b4⟩
    refine ⟨_, rfl, ?_⟩
    replace R := R.later b4
    replace bb := bb.trans (b4.mono bb.size)
    replace h0 := h0.below b4
    replace h1 := h1.below b4
    replace h2 := h2.below b4
    replace h3 := h3.below b4
    replace h4 := h4.below b4
    replace h5 := h5.below b4
    replace hS : (fun w' : World => w'.cell? ⟨g, 9, none⟩ = some (.slice A3 q.strokes.length k3) ∧ w'.cell? ⟨g, 11, none⟩ = some (.int .i64 q.time)) w4 := ⟨R.cell' (i := 9) rfl, R.cell' (i := 11) rfl⟩
    dsimp only at hS
    refine hK.out _ _ ?_ (fun hHeld => ?_)
    · exact hS
    clear hK K hHeld
    simp only [Act.put, pa92_3, pb92_3, pc92_3]
    refine tk92_3 (i := 29) (oi := zo35_1_29) (v := ?_) rfl (by kernel_rfl) (fun _ _ _ h => h) (Or.inl ⟨rfl, ?_⟩) hS ?_
    rotate_left
    · (intro w' hS'; (try dsimp only at hS'); dsimp only [zo35_1_29]; go_simp; try with_reducible rfl)
    simp only [Act.put, pa92_3, pb92_3, pc92_3]
    refine tk92_3 (i := 30) (oi := zo35_1_30) (v := ?_) rfl (by kernel_rfl) (fun _ _ _ h => h) (Or.inl ⟨rfl, ?_⟩) hS ?_
    rotate_left
    · (intro w' hS'; (try dsimp only at hS'); dsimp only [zo35_1_30]; go_simp; try with_reducible rfl)
    simp only [Act.put, pa92_3, pb92_3, pc92_3]
    refine wpAnyH_done (by kernel_rfl) ?_ _
    go_wp2_with fail
    go_ret
    exact ⟨ret_boolI HF.out.symm, bb⟩
  have hok1 := Lib.hid hs
  have hok2 := Lib.hid hi
  have hok3 := Lib.hid ht
  have hok4 := Lib.hid he
  have ge : (q.time < inkEndI q.strokes) = False := eq_false (by omega)
  clear hs hi ht he
  go_wp2_with fail
  replace R := R.drew
  have hS : (fun w' : World => w'.cell? ⟨g, 9, none⟩ = some (.slice A3 q.strokes.length k3) ∧ w'.cell? ⟨g, 11, none⟩ = some (.int .i64 q.time)) w.drew := ⟨R.cell' (i := 9) rfl, R.cell' (i := 11) rfl⟩
  dsimp only at hS
  refine wp_region_held_drew (S := (fun w' : World => w'.cell? ⟨g, 9, none⟩ = some (.slice A3 q.strokes.length k3) ∧ w'.cell? ⟨g, 11, none⟩ = some (.int .i64 q.time))) (by kernel_rfl) hS (fun _ => ?_)
  replace bb := bb.drew
  replace h0 := h0.drew
  replace h1 := h1.drew
  replace h2 := h2.drew
  replace h3 := h3.drew
  replace h4 := h4.drew
  replace h5 := h5.drew
  refine tk92_3 (i := 0) (oi := zo35_1_0) (v := ?_) rfl (by kernel_rfl) (fun _ _ _ h => h) (Or.inl ⟨rfl, ?_⟩) hS ?_
  rotate_left
  · (intro w' hS'; (try dsimp only at hS'); dsimp only [zo35_1_0]; go_simp; try with_reducible rfl)
  simp only [Act.put, pa92_3, pb92_3, pc92_3]
  refine tk92_3 (i := 1) (oi := zo35_1_1) (v := ?_) rfl (by kernel_rfl) (fun _ _ _ h => h) (Or.inl ⟨rfl, ?_⟩) hS ?_
  rotate_left
  · (intro w' hS'; (try dsimp only at hS'); dsimp only [zo35_1_1]; go_simp; try with_reducible rfl)
  simp only [Act.put, pa92_3, pb92_3, pc92_3]
  refine tk92_3 (i := 2) (oi := zo35_1_2) (v := ?_) rfl (by kernel_rfl) (fun _ _ _ h => h) (Or.inl ⟨rfl, ?_⟩) hS ?_
  rotate_left
  · (intro w' hS'; (try dsimp only at hS'); dsimp only [zo35_1_2]; go_simp; try with_reducible rfl)
  simp only [Act.put, pa92_3, pb92_3, pc92_3]
  refine wpAnyH_ready (rs := [3]) (by kernel_rfl) (by simp) ?_
  refine AllReadyH.cons (o := zo35_1_3) rfl (fun K hK => ?_) .nil
  refine step_call 55 #[Go.Operand.tmp 6] _ rfl rfl #[.pointer (some ⟨g, 0, none⟩)] Tryz.call55 (by go_simp) (HS.out _ h0 h1 h2 R.lt (R.cell' (i := 0) rfl) (R.cell' (i := 1) rfl) (R.cell' (i := 2) rfl) (R.cell' (i := 3) rfl) (R.cell' (i := 4) rfl) (R.cell' (i := 5) rfl) (R.cell' (i := 6) rfl) (R.cell' (i := 7) rfl) (R.cell' (i := 8) rfl)) ?_
  rintro e w1 ⟨rfl, b1⟩
  refine ⟨_, rfl, ?_⟩
  replace R := R.later b1
  replace bb := bb.trans (b1.mono bb.size)
  replace h0 := h0.below b1
  replace h1 := h1.below b1
  replace h2 := h2.below b1
  replace h3 := h3.below b1
  replace h4 := h4.below b1
  replace h5 := h5.below b1
  replace hS : (fun w' : World => w'.cell? ⟨g, 9, none⟩ = some (.slice A3 q.strokes.length k3) ∧ w'.cell? ⟨g, 11, none⟩ = some (.int .i64 q.time)) w1 := ⟨R.cell' (i := 9) rfl, R.cell' (i := 11) rfl⟩
  dsimp only at hS
  refine hK.out _ _ ?_ (fun hHeld => ?_)
  · exact hS
  clear hK K hHeld
  simp only [Act.put, pa92_3, pb92_3, pc92_3]
  refine tk92_3 (i := 4) (oi := zo35_1_4) (v := ?_) rfl (by kernel_rfl) (fun _ _ _ h => h) (Or.inl ⟨rfl, ?_⟩) hS ?_
  rotate_left
  · (intro w' hS'; (try dsimp only at hS'); dsimp only [zo35_1_4]; go_simp; try with_reducible rfl)
  simp only [Act.put, pa92_3, pb92_3, pc92_3]
  refine tk92_3 (i := 5) (oi := zo35_1_5) (v := ?_) rfl (by kernel_rfl) (fun _ _ _ h => h) (Or.inl ⟨rfl, ?_⟩) hS ?_
  rotate_left
  · (intro w' hS'; (try dsimp only at hS'); dsimp only [zo35_1_5]; go_simp; try with_reducible rfl)
  simp only [Act.put, pa92_3, pb92_3, pc92_3]
  refine tk92_3 (i := 6) (oi := zo35_1_6) (v := ?_) rfl (by kernel_rfl) (fun _ _ _ h => h) (Or.inl ⟨rfl, ?_⟩) hS ?_
  rotate_left
  · (intro w' hS'; (try dsimp only at hS'); dsimp only [zo35_1_6]; go_simp; try with_reducible rfl)
  simp only [Act.put, pa92_3, pb92_3, pc92_3]
  refine tk92_3 (i := 7) (oi := zo35_1_7) (v := ?_) rfl (by kernel_rfl) (fun _ _ _ h => h) (Or.inl ⟨rfl, ?_⟩) hS ?_
  rotate_left
  · (intro w' hS'; (try dsimp only at hS'); dsimp only [zo35_1_7]; go_simp; try with_reducible rfl)
  simp only [Act.put, pa92_3, pb92_3, pc92_3]
  refine tk92_3 (i := 8) (oi := zo35_1_8) (v := ?_) rfl (by kernel_rfl) (fun _ _ _ h => h) (Or.inl ⟨rfl, ?_⟩) hS ?_
  rotate_left
  · (intro w' hS'; (try dsimp only at hS'); dsimp only [zo35_1_8]; go_simp; try with_reducible rfl)
  simp only [Act.put, pa92_3, pb92_3, pc92_3]
  refine wpAnyH_ready (rs := [9]) (by kernel_rfl) (by simp) ?_
  refine AllReadyH.cons (o := zo35_1_9) rfl (fun K hK => ?_) .nil
  refine step_call 90 #[Go.Operand.tmp 12] _ rfl rfl #[.pointer (some ⟨g, 9, none⟩)] Tryz.call90 (by go_simp) (HI.out _ h3 R.lt (R.cell' (i := 9) rfl)) ?_
  rintro e w2 ⟨rfl, b2⟩
  refine ⟨_, rfl, ?_⟩
  replace R := R.later b2
  replace bb := bb.trans (b2.mono bb.size)
  replace h0 := h0.below b2
  replace h1 := h1.below b2
  replace h2 := h2.below b2
  replace h3 := h3.below b2
  replace h4 := h4.below b2
  replace h5 := h5.below b2
  replace hS : (fun w' : World => w'.cell? ⟨g, 9, none⟩ = some (.slice A3 q.strokes.length k3) ∧ w'.cell? ⟨g, 11, none⟩ = some (.int .i64 q.time)) w2 := ⟨R.cell' (i := 9) rfl, R.cell' (i := 11) rfl⟩
  dsimp only at hS
  refine hK.out _ _ ?_ (fun hHeld => ?_)
  · exact hS
  clear hK K hHeld
  simp only [Act.put, pa92_3, pb92_3, pc92_3]
  refine tk92_3 (i := 10) (oi := zo35_1_10) (v := ?_) rfl (by kernel_rfl) (fun _ _ _ h => h) (Or.inl ⟨rfl, ?_⟩) hS ?_
  rotate_left
  · (intro w' hS'; (try dsimp only at hS'); dsimp only [zo35_1_10]; go_simp; try with_reducible rfl)
  simp only [Act.put, pa92_3, pb92_3, pc92_3]
  refine tk92_3 (i := 11) (oi := zo35_1_11) (v := ?_) rfl (by kernel_rfl) (fun _ _ _ h => h) (Or.inl ⟨rfl, ?_⟩) hS ?_
  rotate_left
  · (intro w' hS'; (try dsimp only at hS'); dsimp only [zo35_1_11]; go_simp; try with_reducible rfl)
  simp only [Act.put, pa92_3, pb92_3, pc92_3]
  refine tk92_3 (i := 12) (oi := zo35_1_12) (v := ?_) rfl (by kernel_rfl) (fun _ _ _ h => h) (Or.inl ⟨rfl, ?_⟩) hS ?_
  rotate_left
  · (intro w' hS'; (try dsimp only at hS'); dsimp only [zo35_1_12]; go_simp; try with_reducible rfl)
  simp only [Act.put, pa92_3, pb92_3, pc92_3]
  refine tk92_3 (i := 13) (oi := zo35_1_13) (v := ?_) rfl (by kernel_rfl) (fun _ _ _ h => h) (Or.inl ⟨rfl, ?_⟩) hS ?_
  rotate_left
  · (intro w' hS'; (try dsimp only at hS'); dsimp only [zo35_1_13]; go_simp; try with_reducible rfl)
  simp only [Act.put, pa92_3, pb92_3, pc92_3]
  refine tk92_3 (i := 14) (oi := zo35_1_14) (v := ?_) rfl (by kernel_rfl) (fun _ _ _ h => h) (Or.inl ⟨rfl, ?_⟩) hS ?_
  rotate_left
  · (intro w' hS'; (try dsimp only at hS'); dsimp only [zo35_1_14]; go_simp; try with_reducible rfl)
  simp only [Act.put, pa92_3, pb92_3, pc92_3]
  refine tk92_3 (i := 15) (oi := zo35_1_15) (v := ?_) rfl (by kernel_rfl) (fun _ _ _ h => h) (Or.inl ⟨rfl, ?_⟩) hS ?_
  rotate_left
  · (intro w' hS'; (try dsimp only at hS'); dsimp only [zo35_1_15]; go_simp; try with_reducible rfl)
  simp only [Act.put, pa92_3, pb92_3, pc92_3]
  refine tk92_3 (i := 16) (oi := zo35_1_16) (v := ?_) rfl (by kernel_rfl) (fun _ _ _ h => h) (Or.inl ⟨rfl, ?_⟩) hS ?_
  rotate_left
  · (intro w' hS'; (try dsimp only at hS'); dsimp only [zo35_1_16]; go_simp; try with_reducible rfl)
  simp only [Act.put, pa92_3, pb92_3, pc92_3]
  refine wpAnyH_ready (rs := [17]) (by kernel_rfl) (by simp) ?_
  refine AllReadyH.cons (o := zo35_1_17) rfl (fun K hK => ?_) .nil
  refine step_call 91 #[Go.Operand.tmp 20, Go.Operand.const (Go.Value.int Go.IntKind.i64 0), Go.Operand.const (Go.Value.int Go.IntKind.i64 3600000)] _ rfl rfl #[.int .i64 q.time, .int .i64 0, .int .i64 3600000] Tryz.call91 (by go_simp) (HT.out _) ?_
  rintro e w3 ⟨rfl, rfl⟩
  refine ⟨_, rfl, ?_⟩
  refine hK.out _ _ ?_ (fun hHeld => ?_)
  · exact hS
  clear hK K hHeld
  simp only [Act.put, pa92_3, pb92_3, pc92_3]
  refine tk92_3 (i := 18) (oi := zo35_1_18) (v := ?_) rfl (by kernel_rfl) (fun _ _ _ h => h) (Or.inl ⟨rfl, ?_⟩) hS ?_
  rotate_left
  · (intro w' hS'; (try dsimp only at hS'); dsimp only [zo35_1_18]; go_simp; try with_reducible rfl)
  simp only [Act.put, pa92_3, pb92_3, pc92_3]
  refine tk92_3 (i := 19) (oi := zo35_1_19) (v := ?_) rfl (by kernel_rfl) (fun _ _ _ h => h) (Or.inl ⟨rfl, ?_⟩) hS ?_
  rotate_left
  · (intro w' hS'; (try dsimp only at hS'); dsimp only [zo35_1_19]; go_simp; try with_reducible rfl)
  simp only [Act.put, pa92_3, pb92_3, pc92_3]
  refine tk92_3 (i := 20) (oi := zo35_1_20) (v := ?_) rfl (by kernel_rfl) (fun _ _ _ h => h) (Or.inl ⟨rfl, ?_⟩) hS ?_
  rotate_left
  · (intro w' hS'; (try dsimp only at hS'); dsimp only [zo35_1_20]; go_simp; try with_reducible rfl)
  simp only [Act.put, pa92_3, pb92_3, pc92_3]
  refine tk92_3 (i := 21) (oi := zo35_1_21) (v := ?_) rfl (by kernel_rfl) (fun _ _ _ h => h) (Or.inl ⟨rfl, ?_⟩) hS ?_
  rotate_left
  · (intro w' hS'; (try dsimp only at hS'); dsimp only [zo35_1_21]; go_simp; try with_reducible rfl)
  simp only [Act.put, pa92_3, pb92_3, pc92_3]
  refine tk92_3 (i := 22) (oi := zo35_1_22) (v := ?_) rfl (by kernel_rfl) (fun _ _ _ h => h) (Or.inl ⟨rfl, ?_⟩) hS ?_
  rotate_left
  · (intro w' hS'; (try dsimp only at hS'); dsimp only [zo35_1_22]; go_simp; try with_reducible rfl)
  simp only [Act.put, pa92_3, pb92_3, pc92_3]
  refine tk92_3 (i := 23) (oi := zo35_1_23) (v := ?_) rfl (by kernel_rfl) (fun _ _ _ h => h) (Or.inl ⟨rfl, ?_⟩) hS ?_
  rotate_left
  · (intro w' hS'; (try dsimp only at hS'); dsimp only [zo35_1_23]; go_simp; try with_reducible rfl)
  simp only [Act.put, pa92_3, pb92_3, pc92_3]
  refine tk92_3 (i := 25) (oi := zo35_1_25) (v := ?_) rfl (by kernel_rfl) (fun _ _ _ h => h) (Or.inl ⟨rfl, ?_⟩) hS ?_
  rotate_left
  · (intro w' hS'; (try dsimp only at hS'); dsimp only [zo35_1_25]; go_simp; try with_reducible rfl)
  simp only [Act.put, pa92_3, pb92_3, pc92_3]
  refine tk92_3 (i := 26) (oi := zo35_1_26) (v := ?_) rfl (by kernel_rfl) (fun _ _ _ h => h) (Or.inl ⟨rfl, ?_⟩) hS ?_
  rotate_left
  · (intro w' hS'; (try dsimp only at hS'); dsimp only [zo35_1_26]; go_simp; try with_reducible rfl)
  simp only [Act.put, pa92_3, pb92_3, pc92_3]
  refine tk92_3 (i := 27) (oi := zo35_1_27) (v := ?_) rfl (by kernel_rfl) (fun _ _ _ h => h) (Or.inl ⟨rfl, ?_⟩) hS ?_
  rotate_left
  · (intro w' hS'; (try dsimp only at hS'); dsimp only [zo35_1_27]; go_simp; try with_reducible rfl)
  simp only [Act.put, pa92_3, pb92_3, pc92_3]
  refine tk92_3 (i := 28) (oi := zo35_1_28) (v := ?_) rfl (by kernel_rfl) (fun _ _ _ h => h) (Or.inl ⟨rfl, ?_⟩) hS ?_
  rotate_left
  · (intro w' hS'; (try dsimp only at hS'); dsimp only [zo35_1_28]; go_simp; try with_reducible rfl)
  simp only [Act.put, pa92_3, pb92_3, pc92_3]
  refine wpAnyH_ready (rs := [24]) (by kernel_rfl) (by simp) ?_
  refine AllReadyH.cons (o := zo35_1_24) rfl (fun K hK => ?_) .nil
  refine step_call 92 #[Go.Operand.tmp 27] _ rfl rfl #[.pointer (some ⟨g, 9, none⟩)] Tryz.call92 (by go_simp) (HE.out _ h3 (R.cell' (i := 9) rfl)) ?_
  rintro e w4 ⟨rfl, b4⟩
  refine ⟨_, rfl, ?_⟩
  replace R := R.later b4
  replace bb := bb.trans (b4.mono bb.size)
  replace h0 := h0.below b4
  replace h1 := h1.below b4
  replace h2 := h2.below b4
  replace h3 := h3.below b4
  replace h4 := h4.below b4
  replace h5 := h5.below b4
  replace hS : (fun w' : World => w'.cell? ⟨g, 9, none⟩ = some (.slice A3 q.strokes.length k3) ∧ w'.cell? ⟨g, 11, none⟩ = some (.int .i64 q.time)) w4 := ⟨R.cell' (i := 9) rfl, R.cell' (i := 11) rfl⟩
  dsimp only at hS
  refine hK.out _ _ ?_ (fun hHeld => ?_)
  · exact hS
  clear hK K hHeld
  simp only [Act.put, pa92_3, pb92_3, pc92_3]
  refine tk92_3 (i := 29) (oi := zo35_1_29) (v := ?_) rfl (by kernel_rfl) (fun _ _ _ h => h) (Or.inl ⟨rfl, ?_⟩) hS ?_
  rotate_left
  · (intro w' hS'; (try dsimp only at hS'); dsimp only [zo35_1_29]; go_simp; try with_reducible rfl)
  simp only [Act.put, pa92_3, pb92_3, pc92_3]
  refine tk92_3 (i := 30) (oi := zo35_1_30) (v := ?_) rfl (by kernel_rfl) (fun _ _ _ h => h) (Or.inl ⟨rfl, ?_⟩) hS ?_
  rotate_left
  · (intro w' hS'; (try dsimp only at hS'); dsimp only [zo35_1_30]; go_simp; try with_reducible rfl)
  simp only [Act.put, pa92_3, pb92_3, pc92_3]
  refine wpAnyH_done (by kernel_rfl) ?_ _
  have x2 := R.cell' (i := 10) rfl
  by_cases hz : q.opn.length = 0
  · have g0 : (0 < q.opn.length) = False := eq_false (by omega)
    have hop : Hid (openB q = true) := by show _ = _; simp [openB, hz]
    clear hz
    have hrest := Lib.hid (sessB_rest (q := q) hok1.out hok2.out hok3.out hok4.out hop.out)
    have x4 := R.cell' (i := 12) rfl
    generalize hd : q.words.all isWordB = d at HW hrest
    clear hd
    cases d
    · have HF : Hid (sessB q = false) := by show _ = _; rw [hrest.out, Bool.false_and]
      clear hrest
      go_wp2_with fail
      refine (HW.out _ h5).mono ?_
      rintro e w9 ⟨rfl, rfl⟩
      go_wp2_with fail
      go_ret
      exact ⟨ret_boolI HF.out.symm, bb⟩
    · by_cases h60 : q.words.length ≤ 60
      · have g6 : ((q.words.length : Int) ≤ 60) = True := eq_true (by omega)
        have HF : Hid (sessB q = true) := by show _ = _; rw [hrest.out, decide_eq_true h60]; rfl
        clear h60 hrest
        go_wp2_with fail
        refine (HW.out _ h5).mono ?_
        rintro e w9 ⟨rfl, rfl⟩
        go_wp2_with fail
        go_ret
        exact ⟨ret_boolI HF.out.symm, bb⟩
      · have g6 : ((q.words.length : Int) ≤ 60) = False := eq_false (by omega)
        have HF : Hid (sessB q = false) := by show _ = _; rw [hrest.out, decide_eq_false h60]; rfl
        clear h60 hrest
        go_wp2_with fail
        refine (HW.out _ h5).mono ?_
        rintro e w9 ⟨rfl, rfl⟩
        go_wp2_with fail
        go_ret
        exact ⟨ret_boolI HF.out.symm, bb⟩
  have hzp : 0 < q.opn.length := by omega
  have g0 : (0 < q.opn.length) = True := eq_true hzp
  have hob : openB q = (strokeB q.opn && (decide (inkEndI q.strokes < (pt q.opn 0).t) && decide (lastT q.opn ≤ q.time))) := by rw [show lastT q.opn = (pt q.opn (q.opn.length - 1)).t from rfl]; simp [openB, hz]
  have hp0 : (pt q.opn 0).t = q.opn[0].t := by rw [pt_get hzp]
  rw [hp0] at hob
  obtain ⟨_, _, hv4, _, _, ho⟩ := pPoints_open h4
  obtain ⟨bo, oo, ho1, nbo, _, _, _, po, _⟩ := ho 0 hzp
  simp only [Value.slice.injEq] at hv4
  obtain ⟨hv4, -, -⟩ := hv4
  subst hv4
  subst ho1
  clear ho
  simp only [Nat.zero_mul, Nat.add_zero] at po
  have HV := Lib.hid (fun w' (q0 : (pPoints I.pt).rep o w' q.opn [.slice (some ⟨bo, oo, none⟩) q.opn.length k4] F4) (c0 : w'.cell? ⟨w4.heap.size, 0, none⟩ = some (.slice (some ⟨bo, oo, none⟩) q.opn.length k4)) (hg : w4.heap.size < w'.heap.size) => spec_l02Stroke_c w' c0 hg q0 hp.o)
  have HLO : Hid (∀ w', (pPoints I.pt).rep o w' q.opn [.slice (some ⟨bo, oo, none⟩) q.opn.length k4] F4 → w'.cell? ⟨w4.heap.size, 0, none⟩ = some (.slice (some ⟨bo, oo, none⟩) q.opn.length k4) → Calls Tryz.prog 94 #[.pointer (some ⟨w4.heap.size, 0, none⟩)] w' fun e w'' => e = .returned (.int .i64 (lastT q.opn)) ∧ Below w'.heap.size w' w'') := fun w' q0 c0 => (spec_l02Last_c w' c0 q0 hzp hp.o).mono fun _ _ ⟨h1, n, h2⟩ => ⟨h1, h2 ▸ below_drewN (Below.refl _ _) n⟩
  have hi0 : (0 : Int) < (q.opn.length : Int) := by omega
  clear hz hp0
  cases hst : strokeB q.opn
  · have HF := Lib.hid (sessB_open (by rw [hob, hst]; rfl))
    simp only [hst] at HV
    clear hst hob
    go_upto_region 5 with fail
    clear x2
    replace po := (((Below.refl _ _).alloc (Nat.le_refl _) (.cells #[.slice (some ⟨bo, oo, none⟩) q.opn.length k4] 107)).cell (p := ⟨_, _, none⟩) nbo).trans po
    replace nbo : bo < (w4.alloc (.cells #[.slice (some ⟨bo, oo, none⟩) q.opn.length k4] 107)).drew.heap.size := by simp; omega
    replace R := R.alloc (.cells #[.slice (some ⟨bo, oo, none⟩) q.opn.length k4] 107)
    have Q := Row.new w4 107 #[.slice (some ⟨bo, oo, none⟩) q.opn.length k4]
    replace bb := bb.alloc bb.size (.cells #[.slice (some ⟨bo, oo, none⟩) q.opn.length k4] 107)
    replace h0 := h0.alloc (.cells #[.slice (some ⟨bo, oo, none⟩) q.opn.length k4] 107)
    replace h1 := h1.alloc (.cells #[.slice (some ⟨bo, oo, none⟩) q.opn.length k4] 107)
    replace h2 := h2.alloc (.cells #[.slice (some ⟨bo, oo, none⟩) q.opn.length k4] 107)
    replace h3 := h3.alloc (.cells #[.slice (some ⟨bo, oo, none⟩) q.opn.length k4] 107)
    replace h4 := h4.alloc (.cells #[.slice (some ⟨bo, oo, none⟩) q.opn.length k4] 107)
    replace h5 := h5.alloc (.cells #[.slice (some ⟨bo, oo, none⟩) q.opn.length k4] 107)
    go_wp2_with fail
    replace R := R.drew
    replace Q := Q.drew
    have hS : (fun w' : World => w'.cell? ⟨g, 9, none⟩ = some (.slice A3 q.strokes.length k3) ∧ w'.cell? ⟨g, 10, none⟩ = some (.slice (some ⟨bo, oo, none⟩) q.opn.length k4) ∧ w'.cell? ⟨g, 11, none⟩ = some (.int .i64 q.time) ∧ w'.cell? ⟨w4.heap.size, 0, none⟩ = some (.slice (some ⟨bo, oo, none⟩) q.opn.length k4) ∧ w'.cell? ⟨bo, oo + 2, none⟩ = some (.int .i64 q.opn[0].t)) (w4.alloc (.cells #[.slice (some ⟨bo, oo, none⟩) q.opn.length k4] 107)).drew := ⟨R.cell' (i := 9) rfl, R.cell' (i := 10) rfl, R.cell' (i := 11) rfl, Q.cell' (i := 0) rfl, po⟩
    dsimp only at hS
    refine wp_region_held_drew (S := (fun w' : World => w'.cell? ⟨g, 9, none⟩ = some (.slice A3 q.strokes.length k3) ∧ w'.cell? ⟨g, 10, none⟩ = some (.slice (some ⟨bo, oo, none⟩) q.opn.length k4) ∧ w'.cell? ⟨g, 11, none⟩ = some (.int .i64 q.time) ∧ w'.cell? ⟨w4.heap.size, 0, none⟩ = some (.slice (some ⟨bo, oo, none⟩) q.opn.length k4) ∧ w'.cell? ⟨bo, oo + 2, none⟩ = some (.int .i64 q.opn[0].t))) (by kernel_rfl) hS (fun _ => ?_)
    replace bb := bb.drew
    replace h0 := h0.drew
    replace h1 := h1.drew
    replace h2 := h2.drew
    replace h3 := h3.drew
    replace h4 := h4.drew
    replace h5 := h5.drew
    refine wpAnyH_ready (rs := [0]) (by kernel_rfl) (by simp) ?_
    refine AllReadyH.cons (o := zo35_5_0) rfl (fun K hK => ?_) .nil
    refine step_call 93 #[Go.Operand.tmp 3] _ rfl rfl #[.pointer (some ⟨w4.heap.size, 0, none⟩)] Tryz.call93 (by go_simp) (HV.out _ h4 (Q.cell' (i := 0) rfl) Q.lt) ?_
    rintro e w5 ⟨rfl, b5⟩
    refine ⟨_, rfl, ?_⟩
    replace R := R.later b5
    replace Q := Q.later b5
    replace po := (b5.cell (p := ⟨_, _, none⟩) nbo).trans po
    replace nbo := Nat.lt_of_lt_of_le nbo b5.size
    replace bb := bb.trans (b5.mono bb.size)
    replace h0 := h0.below b5
    replace h1 := h1.below b5
    replace h2 := h2.below b5
    replace h3 := h3.below b5
    replace h4 := h4.below b5
    replace h5 := h5.below b5
    replace hS : (fun w' : World => w'.cell? ⟨g, 9, none⟩ = some (.slice A3 q.strokes.length k3) ∧ w'.cell? ⟨g, 10, none⟩ = some (.slice (some ⟨bo, oo, none⟩) q.opn.length k4) ∧ w'.cell? ⟨g, 11, none⟩ = some (.int .i64 q.time) ∧ w'.cell? ⟨w4.heap.size, 0, none⟩ = some (.slice (some ⟨bo, oo, none⟩) q.opn.length k4) ∧ w'.cell? ⟨bo, oo + 2, none⟩ = some (.int .i64 q.opn[0].t)) w5 := ⟨R.cell' (i := 9) rfl, R.cell' (i := 10) rfl, R.cell' (i := 11) rfl, Q.cell' (i := 0) rfl, po⟩
    dsimp only at hS
    refine hK.out _ _ ?_ (fun hHeld => ?_)
    · exact hS
    clear hK K hHeld
    simp only [Act.put, pa92_3, pb92_3, pc92_3]
    refine tk92_3 (i := 1) (oi := zo35_5_1) (v := ?_) rfl (by kernel_rfl) (fun _ _ _ h => h) (Or.inl ⟨rfl, ?_⟩) hS ?_
    rotate_left
    · (intro w' hS'; (try dsimp only at hS'); dsimp only [zo35_5_1]; go_simp; try with_reducible rfl)
    simp only [Act.put, pa92_3, pb92_3, pc92_3]
    refine tk92_3 (i := 2) (oi := zo35_5_2) (v := ?_) rfl (by kernel_rfl) (fun _ _ _ h => h) (Or.inl ⟨rfl, ?_⟩) hS ?_
    rotate_left
    · (intro w' hS'; (try dsimp only at hS'); dsimp only [zo35_5_2]; go_simp; try with_reducible rfl)
    simp only [Act.put, pa92_3, pb92_3, pc92_3]
    refine tk92_3 (i := 3) (oi := zo35_5_3) rfl (by kernel_rfl) (fun _ _ _ h => h) (Or.inr ⟨rfl, rfl⟩) hS ?_
    simp only [Act.put, pa92_3, pb92_3, pc92_3]
    refine tk92_3 (i := 4) (oi := zo35_5_4) rfl (by kernel_rfl) (fun _ _ _ h => h) (Or.inr ⟨rfl, rfl⟩) hS ?_
    simp only [Act.put, pa92_3, pb92_3, pc92_3]
    refine tk92_3 (i := 5) (oi := zo35_5_5) rfl (by kernel_rfl) (fun _ _ _ h => h) (Or.inr ⟨rfl, rfl⟩) hS ?_
    simp only [Act.put, pa92_3, pb92_3, pc92_3]
    refine tk92_3 (i := 6) (oi := zo35_5_6) rfl (by kernel_rfl) (fun _ _ _ h => h) (Or.inr ⟨rfl, rfl⟩) hS ?_
    simp only [Act.put, pa92_3, pb92_3, pc92_3]
    refine tk92_3 (i := 7) (oi := zo35_5_7) rfl (by kernel_rfl) (fun _ _ _ h => h) (Or.inr ⟨rfl, rfl⟩) hS ?_
    simp only [Act.put, pa92_3, pb92_3, pc92_3]
    refine tk92_3 (i := 8) (oi := zo35_5_8) rfl (by kernel_rfl) (fun _ _ _ h => h) (Or.inr ⟨rfl, rfl⟩) hS ?_
    simp only [Act.put, pa92_3, pb92_3, pc92_3]
    refine tk92_3 (i := 9) (oi := zo35_5_9) rfl (by kernel_rfl) (fun _ _ _ h => h) (Or.inr ⟨rfl, rfl⟩) hS ?_
    simp only [Act.put, pa92_3, pb92_3, pc92_3]
    refine tk92_3 (i := 10) (oi := zo35_5_10) rfl (by kernel_rfl) (fun _ _ _ h => h) (Or.inr ⟨rfl, rfl⟩) hS ?_
    simp only [Act.put, pa92_3, pb92_3, pc92_3]
    refine tk92_3 (i := 11) (oi := zo35_5_11) rfl (by kernel_rfl) (fun _ _ _ h => h) (Or.inr ⟨rfl, rfl⟩) hS ?_
    simp only [Act.put, pa92_3, pb92_3, pc92_3]
    refine tk92_3 (i := 12) (oi := zo35_5_12) rfl (by kernel_rfl) (fun _ _ _ h => h) (Or.inr ⟨rfl, rfl⟩) hS ?_
    simp only [Act.put, pa92_3, pb92_3, pc92_3]
    refine tk92_3 (i := 13) (oi := zo35_5_13) rfl (by kernel_rfl) (fun _ _ _ h => h) (Or.inr ⟨rfl, rfl⟩) hS ?_
    simp only [Act.put, pa92_3, pb92_3, pc92_3]
    refine tk92_3 (i := 14) (oi := zo35_5_14) rfl (by kernel_rfl) (fun _ _ _ h => h) (Or.inr ⟨rfl, rfl⟩) hS ?_
    simp only [Act.put, pa92_3, pb92_3, pc92_3]
    refine tk92_3 (i := 15) (oi := zo35_5_15) (v := ?_) rfl (by kernel_rfl) (fun _ _ _ h => h) (Or.inl ⟨rfl, ?_⟩) hS ?_
    rotate_left
    · (intro w' hS'; (try dsimp only at hS'); dsimp only [zo35_5_15]; go_simp; try with_reducible rfl)
    simp only [Act.put, pa92_3, pb92_3, pc92_3]
    refine tk92_3 (i := 16) (oi := zo35_5_16) (v := ?_) rfl (by kernel_rfl) (fun _ _ _ h => h) (Or.inl ⟨rfl, ?_⟩) hS ?_
    rotate_left
    · (intro w' hS'; (try dsimp only at hS'); dsimp only [zo35_5_16]; go_simp; try with_reducible rfl)
    simp only [Act.put, pa92_3, pb92_3, pc92_3]
    refine tk92_3 (i := 17) (oi := zo35_5_17) rfl (by kernel_rfl) (fun _ _ _ h => h) (Or.inr ⟨rfl, rfl⟩) hS ?_
    simp only [Act.put, pa92_3, pb92_3, pc92_3]
    refine tk92_3 (i := 18) (oi := zo35_5_18) rfl (by kernel_rfl) (fun _ _ _ h => h) (Or.inr ⟨rfl, rfl⟩) hS ?_
    simp only [Act.put, pa92_3, pb92_3, pc92_3]
    refine tk92_3 (i := 19) (oi := zo35_5_19) rfl (by kernel_rfl) (fun _ _ _ h => h) (Or.inr ⟨rfl, rfl⟩) hS ?_
    simp only [Act.put, pa92_3, pb92_3, pc92_3]
    refine tk92_3 (i := 20) (oi := zo35_5_20) rfl (by kernel_rfl) (fun _ _ _ h => h) (Or.inr ⟨rfl, rfl⟩) hS ?_
    simp only [Act.put, pa92_3, pb92_3, pc92_3]
    refine tk92_3 (i := 21) (oi := zo35_5_21) rfl (by kernel_rfl) (fun _ _ _ h => h) (Or.inr ⟨rfl, rfl⟩) hS ?_
    simp only [Act.put, pa92_3, pb92_3, pc92_3]
    refine tk92_3 (i := 22) (oi := zo35_5_22) rfl (by kernel_rfl) (fun _ _ _ h => h) (Or.inr ⟨rfl, rfl⟩) hS ?_
    simp only [Act.put, pa92_3, pb92_3, pc92_3]
    refine tk92_3 (i := 23) (oi := zo35_5_23) (v := ?_) rfl (by kernel_rfl) (fun _ _ _ h => h) (Or.inl ⟨rfl, ?_⟩) hS ?_
    rotate_left
    · (intro w' hS'; (try dsimp only at hS'); dsimp only [zo35_5_23]; go_simp; try with_reducible rfl)
    simp only [Act.put, pa92_3, pb92_3, pc92_3]
    refine wpAnyH_done (by kernel_rfl) ?_ _
    go_wp2_with fail
    go_ret
    exact ⟨ret_boolI HF.out.symm, bb⟩
  simp only [hst] at HV
  by_cases hfi : inkEndI q.strokes < q.opn[0].t
  case neg =>
    have HF := Lib.hid (sessB_open (by rw [hob, decide_eq_false hfi, Bool.false_and, Bool.and_false]))
    have gf : (q.opn[0].t ≤ inkEndI q.strokes) = True := eq_true (by omega)
    clear hst hob hfi
    go_upto_region 5 with fail
    clear x2
    replace po := (((Below.refl _ _).alloc (Nat.le_refl _) (.cells #[.slice (some ⟨bo, oo, none⟩) q.opn.length k4] 107)).cell (p := ⟨_, _, none⟩) nbo).trans po
    replace nbo : bo < (w4.alloc (.cells #[.slice (some ⟨bo, oo, none⟩) q.opn.length k4] 107)).drew.heap.size := by simp; omega
    replace R := R.alloc (.cells #[.slice (some ⟨bo, oo, none⟩) q.opn.length k4] 107)
    have Q := Row.new w4 107 #[.slice (some ⟨bo, oo, none⟩) q.opn.length k4]
    replace bb := bb.alloc bb.size (.cells #[.slice (some ⟨bo, oo, none⟩) q.opn.length k4] 107)
    replace h0 := h0.alloc (.cells #[.slice (some ⟨bo, oo, none⟩) q.opn.length k4] 107)
    replace h1 := h1.alloc (.cells #[.slice (some ⟨bo, oo, none⟩) q.opn.length k4] 107)
    replace h2 := h2.alloc (.cells #[.slice (some ⟨bo, oo, none⟩) q.opn.length k4] 107)
    replace h3 := h3.alloc (.cells #[.slice (some ⟨bo, oo, none⟩) q.opn.length k4] 107)
    replace h4 := h4.alloc (.cells #[.slice (some ⟨bo, oo, none⟩) q.opn.length k4] 107)
    replace h5 := h5.alloc (.cells #[.slice (some ⟨bo, oo, none⟩) q.opn.length k4] 107)
    go_wp2_with fail
    replace R := R.drew
    replace Q := Q.drew
    have hS : (fun w' : World => w'.cell? ⟨g, 9, none⟩ = some (.slice A3 q.strokes.length k3) ∧ w'.cell? ⟨g, 10, none⟩ = some (.slice (some ⟨bo, oo, none⟩) q.opn.length k4) ∧ w'.cell? ⟨g, 11, none⟩ = some (.int .i64 q.time) ∧ w'.cell? ⟨w4.heap.size, 0, none⟩ = some (.slice (some ⟨bo, oo, none⟩) q.opn.length k4) ∧ w'.cell? ⟨bo, oo + 2, none⟩ = some (.int .i64 q.opn[0].t)) (w4.alloc (.cells #[.slice (some ⟨bo, oo, none⟩) q.opn.length k4] 107)).drew := ⟨R.cell' (i := 9) rfl, R.cell' (i := 10) rfl, R.cell' (i := 11) rfl, Q.cell' (i := 0) rfl, po⟩
    dsimp only at hS
    refine wp_region_held_drew (S := (fun w' : World => w'.cell? ⟨g, 9, none⟩ = some (.slice A3 q.strokes.length k3) ∧ w'.cell? ⟨g, 10, none⟩ = some (.slice (some ⟨bo, oo, none⟩) q.opn.length k4) ∧ w'.cell? ⟨g, 11, none⟩ = some (.int .i64 q.time) ∧ w'.cell? ⟨w4.heap.size, 0, none⟩ = some (.slice (some ⟨bo, oo, none⟩) q.opn.length k4) ∧ w'.cell? ⟨bo, oo + 2, none⟩ = some (.int .i64 q.opn[0].t))) (by kernel_rfl) hS (fun _ => ?_)
    replace bb := bb.drew
    replace h0 := h0.drew
    replace h1 := h1.drew
    replace h2 := h2.drew
    replace h3 := h3.drew
    replace h4 := h4.drew
    replace h5 := h5.drew
    refine wpAnyH_ready (rs := [0]) (by kernel_rfl) (by simp) ?_
    refine AllReadyH.cons (o := zo35_5_0) rfl (fun K hK => ?_) .nil
    refine step_call 93 #[Go.Operand.tmp 3] _ rfl rfl #[.pointer (some ⟨w4.heap.size, 0, none⟩)] Tryz.call93 (by go_simp) (HV.out _ h4 (Q.cell' (i := 0) rfl) Q.lt) ?_
    rintro e w5 ⟨rfl, b5⟩
    refine ⟨_, rfl, ?_⟩
    replace R := R.later b5
    replace Q := Q.later b5
    replace po := (b5.cell (p := ⟨_, _, none⟩) nbo).trans po
    replace nbo := Nat.lt_of_lt_of_le nbo b5.size
    replace bb := bb.trans (b5.mono bb.size)
    replace h0 := h0.below b5
    replace h1 := h1.below b5
    replace h2 := h2.below b5
    replace h3 := h3.below b5
    replace h4 := h4.below b5
    replace h5 := h5.below b5
    replace hS : (fun w' : World => w'.cell? ⟨g, 9, none⟩ = some (.slice A3 q.strokes.length k3) ∧ w'.cell? ⟨g, 10, none⟩ = some (.slice (some ⟨bo, oo, none⟩) q.opn.length k4) ∧ w'.cell? ⟨g, 11, none⟩ = some (.int .i64 q.time) ∧ w'.cell? ⟨w4.heap.size, 0, none⟩ = some (.slice (some ⟨bo, oo, none⟩) q.opn.length k4) ∧ w'.cell? ⟨bo, oo + 2, none⟩ = some (.int .i64 q.opn[0].t)) w5 := ⟨R.cell' (i := 9) rfl, R.cell' (i := 10) rfl, R.cell' (i := 11) rfl, Q.cell' (i := 0) rfl, po⟩
    dsimp only at hS
    refine hK.out _ _ ?_ (fun hHeld => ?_)
    · exact hS
    clear hK K hHeld
    simp only [Act.put, pa92_3, pb92_3, pc92_3]
    refine tk92_3 (i := 1) (oi := zo35_5_1) (v := ?_) rfl (by kernel_rfl) (fun _ _ _ h => h) (Or.inl ⟨rfl, ?_⟩) hS ?_
    rotate_left
    · (intro w' hS'; (try dsimp only at hS'); dsimp only [zo35_5_1]; go_simp; try with_reducible rfl)
    simp only [Act.put, pa92_3, pb92_3, pc92_3]
    refine tk92_3 (i := 2) (oi := zo35_5_2) (v := ?_) rfl (by kernel_rfl) (fun _ _ _ h => h) (Or.inl ⟨rfl, ?_⟩) hS ?_
    rotate_left
    · (intro w' hS'; (try dsimp only at hS'); dsimp only [zo35_5_2]; go_simp; try with_reducible rfl)
    simp only [Act.put, pa92_3, pb92_3, pc92_3]
    refine tk92_3 (i := 3) (oi := zo35_5_3) (v := ?_) rfl (by kernel_rfl) (fun _ _ _ h => h) (Or.inl ⟨rfl, ?_⟩) hS ?_
    rotate_left
    · (intro w' hS'; (try dsimp only at hS'); dsimp only [zo35_5_3]; go_simp; try with_reducible rfl)
    simp only [Act.put, pa92_3, pb92_3, pc92_3]
    refine tk92_3 (i := 4) (oi := zo35_5_4) (v := ?_) rfl (by kernel_rfl) (fun _ _ _ h => h) (Or.inl ⟨rfl, ?_⟩) hS ?_
    rotate_left
    · (intro w' hS'; (try dsimp only at hS'); dsimp only [zo35_5_4]; go_simp; try with_reducible rfl)
    simp only [Act.put, pa92_3, pb92_3, pc92_3]
    refine tk92_3 (i := 5) (oi := zo35_5_5) (v := ?_) rfl (by kernel_rfl) (fun _ _ _ h => h) (Or.inl ⟨rfl, ?_⟩) hS ?_
    rotate_left
    · (intro w' hS'; (try dsimp only at hS'); dsimp only [zo35_5_5]; go_simp; try with_reducible rfl)
    simp only [Act.put, pa92_3, pb92_3, pc92_3]
    refine tk92_3 (i := 6) (oi := zo35_5_6) (v := ?_) rfl (by kernel_rfl) (fun _ _ _ h => h) (Or.inl ⟨rfl, ?_⟩) hS ?_
    rotate_left
    · (intro w' hS'; (try dsimp only at hS'); dsimp only [zo35_5_6]; go_simp; try with_reducible rfl)
    simp only [Act.put, pa92_3, pb92_3, pc92_3]
    refine tk92_3 (i := 7) (oi := zo35_5_7) (v := ?_) rfl (by kernel_rfl) (fun _ _ _ h => h) (Or.inl ⟨rfl, ?_⟩) hS ?_
    rotate_left
    · (intro w' hS'; (try dsimp only at hS'); dsimp only [zo35_5_7]; go_simp; try with_reducible rfl)
    simp only [Act.put, pa92_3, pb92_3, pc92_3]
    refine tk92_3 (i := 8) (oi := zo35_5_8) (v := ?_) rfl (by kernel_rfl) (fun _ _ _ h => h) (Or.inl ⟨rfl, ?_⟩) hS ?_
    rotate_left
    · (intro w' hS'; (try dsimp only at hS'); dsimp only [zo35_5_8]; go_simp; try with_reducible rfl)
    simp only [Act.put, pa92_3, pb92_3, pc92_3]
    refine tk92_3 (i := 9) (oi := zo35_5_9) (v := ?_) rfl (by kernel_rfl) (fun _ _ _ h => h) (Or.inl ⟨rfl, ?_⟩) hS ?_
    rotate_left
    · (intro w' hS'; (try dsimp only at hS'); dsimp only [zo35_5_9]; go_simp; try with_reducible rfl)
    simp only [Act.put, pa92_3, pb92_3, pc92_3]
    refine tk92_3 (i := 10) (oi := zo35_5_10) (v := ?_) rfl (by kernel_rfl) (fun _ _ _ h => h) (Or.inl ⟨rfl, ?_⟩) hS ?_
    rotate_left
    · (intro w' hS'; (try dsimp only at hS'); dsimp only [zo35_5_10]; go_simp; try with_reducible rfl)
    simp only [Act.put, pa92_3, pb92_3, pc92_3]
    refine tk92_3 (i := 11) (oi := zo35_5_11) (v := ?_) rfl (by kernel_rfl) (fun _ _ _ h => h) (Or.inl ⟨rfl, ?_⟩) hS ?_
    rotate_left
    · (intro w' hS'; (try dsimp only at hS'); dsimp only [zo35_5_11]; go_simp; try with_reducible rfl)
    simp only [Act.put, pa92_3, pb92_3, pc92_3]
    refine tk92_3 (i := 12) (oi := zo35_5_12) (v := ?_) rfl (by kernel_rfl) (fun _ _ _ h => h) (Or.inl ⟨rfl, ?_⟩) hS ?_
    rotate_left
    · (intro w' hS'; (try dsimp only at hS'); dsimp only [zo35_5_12]; go_simp; try with_reducible rfl)
    simp only [Act.put, pa92_3, pb92_3, pc92_3]
    refine wpAnyH_ready (rs := [13]) (by kernel_rfl) (by simp) ?_
    refine AllReadyH.cons (o := zo35_5_13) rfl (fun K hK => ?_) .nil
    refine step_call 92 #[Go.Operand.tmp 58] _ rfl rfl #[.pointer (some ⟨g, 9, none⟩)] Tryz.call92 (by go_simp) (HE.out _ h3 (R.cell' (i := 9) rfl)) ?_
    rintro e w6 ⟨rfl, b6⟩
    refine ⟨_, rfl, ?_⟩
    replace R := R.later b6
    replace Q := Q.later b6
    replace po := (b6.cell (p := ⟨_, _, none⟩) nbo).trans po
    replace nbo := Nat.lt_of_lt_of_le nbo b6.size
    replace bb := bb.trans (b6.mono bb.size)
    replace h0 := h0.below b6
    replace h1 := h1.below b6
    replace h2 := h2.below b6
    replace h3 := h3.below b6
    replace h4 := h4.below b6
    replace h5 := h5.below b6
    replace hS : (fun w' : World => w'.cell? ⟨g, 9, none⟩ = some (.slice A3 q.strokes.length k3) ∧ w'.cell? ⟨g, 10, none⟩ = some (.slice (some ⟨bo, oo, none⟩) q.opn.length k4) ∧ w'.cell? ⟨g, 11, none⟩ = some (.int .i64 q.time) ∧ w'.cell? ⟨w4.heap.size, 0, none⟩ = some (.slice (some ⟨bo, oo, none⟩) q.opn.length k4) ∧ w'.cell? ⟨bo, oo + 2, none⟩ = some (.int .i64 q.opn[0].t)) w6 := ⟨R.cell' (i := 9) rfl, R.cell' (i := 10) rfl, R.cell' (i := 11) rfl, Q.cell' (i := 0) rfl, po⟩
    dsimp only at hS
    refine hK.out _ _ ?_ (fun hHeld => ?_)
    · exact hS
    clear hK K hHeld
    simp only [Act.put, pa92_3, pb92_3, pc92_3]
    refine tk92_3 (i := 14) (oi := zo35_5_14) (v := ?_) rfl (by kernel_rfl) (fun _ _ _ h => h) (Or.inl ⟨rfl, ?_⟩) hS ?_
    rotate_left
    · (intro w' hS'; (try dsimp only at hS'); dsimp only [zo35_5_14]; go_simp; try with_reducible rfl)
    simp only [Act.put, pa92_3, pb92_3, pc92_3]
    refine tk92_3 (i := 15) (oi := zo35_5_15) (v := ?_) rfl (by kernel_rfl) (fun _ _ _ h => h) (Or.inl ⟨rfl, ?_⟩) hS ?_
    rotate_left
    · (intro w' hS'; (try dsimp only at hS'); dsimp only [zo35_5_15]; go_simp; try with_reducible rfl)
    simp only [Act.put, pa92_3, pb92_3, pc92_3]
    refine tk92_3 (i := 16) (oi := zo35_5_16) (v := ?_) rfl (by kernel_rfl) (fun _ _ _ h => h) (Or.inl ⟨rfl, ?_⟩) hS ?_
    rotate_left
    · (intro w' hS'; (try dsimp only at hS'); dsimp only [zo35_5_16]; go_simp; try with_reducible rfl)
    simp only [Act.put, pa92_3, pb92_3, pc92_3]
    refine tk92_3 (i := 17) (oi := zo35_5_17) rfl (by kernel_rfl) (fun _ _ _ h => h) (Or.inr ⟨rfl, rfl⟩) hS ?_
    simp only [Act.put, pa92_3, pb92_3, pc92_3]
    refine tk92_3 (i := 18) (oi := zo35_5_18) rfl (by kernel_rfl) (fun _ _ _ h => h) (Or.inr ⟨rfl, rfl⟩) hS ?_
    simp only [Act.put, pa92_3, pb92_3, pc92_3]
    refine tk92_3 (i := 19) (oi := zo35_5_19) rfl (by kernel_rfl) (fun _ _ _ h => h) (Or.inr ⟨rfl, rfl⟩) hS ?_
    simp only [Act.put, pa92_3, pb92_3, pc92_3]
    refine tk92_3 (i := 20) (oi := zo35_5_20) rfl (by kernel_rfl) (fun _ _ _ h => h) (Or.inr ⟨rfl, rfl⟩) hS ?_
    simp only [Act.put, pa92_3, pb92_3, pc92_3]
    refine tk92_3 (i := 21) (oi := zo35_5_21) rfl (by kernel_rfl) (fun _ _ _ h => h) (Or.inr ⟨rfl, rfl⟩) hS ?_
    simp only [Act.put, pa92_3, pb92_3, pc92_3]
    refine tk92_3 (i := 22) (oi := zo35_5_22) rfl (by kernel_rfl) (fun _ _ _ h => h) (Or.inr ⟨rfl, rfl⟩) hS ?_
    simp only [Act.put, pa92_3, pb92_3, pc92_3]
    refine tk92_3 (i := 23) (oi := zo35_5_23) (v := ?_) rfl (by kernel_rfl) (fun _ _ _ h => h) (Or.inl ⟨rfl, ?_⟩) hS ?_
    rotate_left
    · (intro w' hS'; (try dsimp only at hS'); dsimp only [zo35_5_23]; go_simp; try with_reducible rfl)
    simp only [Act.put, pa92_3, pb92_3, pc92_3]
    refine wpAnyH_done (by kernel_rfl) ?_ _
    go_wp2_with fail
    go_ret
    exact ⟨ret_boolI HF.out.symm, bb⟩
  have gf : (q.opn[0].t ≤ inkEndI q.strokes) = False := eq_false (by omega)
  by_cases hla : lastT q.opn ≤ q.time
  case neg =>
    have HF := Lib.hid (sessB_open (by rw [hob, decide_eq_false hla, Bool.and_false, Bool.and_false]))
    have gl : (q.time < lastT q.opn) = True := eq_true (by omega)
    clear hst hob hfi hla
    go_upto_region 5 with fail
    clear x2
    replace po := (((Below.refl _ _).alloc (Nat.le_refl _) (.cells #[.slice (some ⟨bo, oo, none⟩) q.opn.length k4] 107)).cell (p := ⟨_, _, none⟩) nbo).trans po
    replace nbo : bo < (w4.alloc (.cells #[.slice (some ⟨bo, oo, none⟩) q.opn.length k4] 107)).drew.heap.size := by simp; omega
    replace R := R.alloc (.cells #[.slice (some ⟨bo, oo, none⟩) q.opn.length k4] 107)
    have Q := Row.new w4 107 #[.slice (some ⟨bo, oo, none⟩) q.opn.length k4]
    replace bb := bb.alloc bb.size (.cells #[.slice (some ⟨bo, oo, none⟩) q.opn.length k4] 107)
    replace h0 := h0.alloc (.cells #[.slice (some ⟨bo, oo, none⟩) q.opn.length k4] 107)
    replace h1 := h1.alloc (.cells #[.slice (some ⟨bo, oo, none⟩) q.opn.length k4] 107)
    replace h2 := h2.alloc (.cells #[.slice (some ⟨bo, oo, none⟩) q.opn.length k4] 107)
    replace h3 := h3.alloc (.cells #[.slice (some ⟨bo, oo, none⟩) q.opn.length k4] 107)
    replace h4 := h4.alloc (.cells #[.slice (some ⟨bo, oo, none⟩) q.opn.length k4] 107)
    replace h5 := h5.alloc (.cells #[.slice (some ⟨bo, oo, none⟩) q.opn.length k4] 107)
    go_wp2_with fail
    replace R := R.drew
    replace Q := Q.drew
    have hS : (fun w' : World => w'.cell? ⟨g, 9, none⟩ = some (.slice A3 q.strokes.length k3) ∧ w'.cell? ⟨g, 10, none⟩ = some (.slice (some ⟨bo, oo, none⟩) q.opn.length k4) ∧ w'.cell? ⟨g, 11, none⟩ = some (.int .i64 q.time) ∧ w'.cell? ⟨w4.heap.size, 0, none⟩ = some (.slice (some ⟨bo, oo, none⟩) q.opn.length k4) ∧ w'.cell? ⟨bo, oo + 2, none⟩ = some (.int .i64 q.opn[0].t)) (w4.alloc (.cells #[.slice (some ⟨bo, oo, none⟩) q.opn.length k4] 107)).drew := ⟨R.cell' (i := 9) rfl, R.cell' (i := 10) rfl, R.cell' (i := 11) rfl, Q.cell' (i := 0) rfl, po⟩
    dsimp only at hS
    refine wp_region_held_drew (S := (fun w' : World => w'.cell? ⟨g, 9, none⟩ = some (.slice A3 q.strokes.length k3) ∧ w'.cell? ⟨g, 10, none⟩ = some (.slice (some ⟨bo, oo, none⟩) q.opn.length k4) ∧ w'.cell? ⟨g, 11, none⟩ = some (.int .i64 q.time) ∧ w'.cell? ⟨w4.heap.size, 0, none⟩ = some (.slice (some ⟨bo, oo, none⟩) q.opn.length k4) ∧ w'.cell? ⟨bo, oo + 2, none⟩ = some (.int .i64 q.opn[0].t))) (by kernel_rfl) hS (fun _ => ?_)
    replace bb := bb.drew
    replace h0 := h0.drew
    replace h1 := h1.drew
    replace h2 := h2.drew
    replace h3 := h3.drew
    replace h4 := h4.drew
    replace h5 := h5.drew
    refine wpAnyH_ready (rs := [0]) (by kernel_rfl) (by simp) ?_
    refine AllReadyH.cons (o := zo35_5_0) rfl (fun K hK => ?_) .nil
    refine step_call 93 #[Go.Operand.tmp 3] _ rfl rfl #[.pointer (some ⟨w4.heap.size, 0, none⟩)] Tryz.call93 (by go_simp) (HV.out _ h4 (Q.cell' (i := 0) rfl) Q.lt) ?_
    rintro e w5 ⟨rfl, b5⟩
    refine ⟨_, rfl, ?_⟩
    replace R := R.later b5
    replace Q := Q.later b5
    replace po := (b5.cell (p := ⟨_, _, none⟩) nbo).trans po
    replace nbo := Nat.lt_of_lt_of_le nbo b5.size
    replace bb := bb.trans (b5.mono bb.size)
    replace h0 := h0.below b5
    replace h1 := h1.below b5
    replace h2 := h2.below b5
    replace h3 := h3.below b5
    replace h4 := h4.below b5
    replace h5 := h5.below b5
    replace hS : (fun w' : World => w'.cell? ⟨g, 9, none⟩ = some (.slice A3 q.strokes.length k3) ∧ w'.cell? ⟨g, 10, none⟩ = some (.slice (some ⟨bo, oo, none⟩) q.opn.length k4) ∧ w'.cell? ⟨g, 11, none⟩ = some (.int .i64 q.time) ∧ w'.cell? ⟨w4.heap.size, 0, none⟩ = some (.slice (some ⟨bo, oo, none⟩) q.opn.length k4) ∧ w'.cell? ⟨bo, oo + 2, none⟩ = some (.int .i64 q.opn[0].t)) w5 := ⟨R.cell' (i := 9) rfl, R.cell' (i := 10) rfl, R.cell' (i := 11) rfl, Q.cell' (i := 0) rfl, po⟩
    dsimp only at hS
    refine hK.out _ _ ?_ (fun hHeld => ?_)
    · exact hS
    clear hK K hHeld
    simp only [Act.put, pa92_3, pb92_3, pc92_3]
    refine tk92_3 (i := 1) (oi := zo35_5_1) (v := ?_) rfl (by kernel_rfl) (fun _ _ _ h => h) (Or.inl ⟨rfl, ?_⟩) hS ?_
    rotate_left
    · (intro w' hS'; (try dsimp only at hS'); dsimp only [zo35_5_1]; go_simp; try with_reducible rfl)
    simp only [Act.put, pa92_3, pb92_3, pc92_3]
    refine tk92_3 (i := 2) (oi := zo35_5_2) (v := ?_) rfl (by kernel_rfl) (fun _ _ _ h => h) (Or.inl ⟨rfl, ?_⟩) hS ?_
    rotate_left
    · (intro w' hS'; (try dsimp only at hS'); dsimp only [zo35_5_2]; go_simp; try with_reducible rfl)
    simp only [Act.put, pa92_3, pb92_3, pc92_3]
    refine tk92_3 (i := 3) (oi := zo35_5_3) (v := ?_) rfl (by kernel_rfl) (fun _ _ _ h => h) (Or.inl ⟨rfl, ?_⟩) hS ?_
    rotate_left
    · (intro w' hS'; (try dsimp only at hS'); dsimp only [zo35_5_3]; go_simp; try with_reducible rfl)
    simp only [Act.put, pa92_3, pb92_3, pc92_3]
    refine tk92_3 (i := 4) (oi := zo35_5_4) (v := ?_) rfl (by kernel_rfl) (fun _ _ _ h => h) (Or.inl ⟨rfl, ?_⟩) hS ?_
    rotate_left
    · (intro w' hS'; (try dsimp only at hS'); dsimp only [zo35_5_4]; go_simp; try with_reducible rfl)
    simp only [Act.put, pa92_3, pb92_3, pc92_3]
    refine tk92_3 (i := 5) (oi := zo35_5_5) (v := ?_) rfl (by kernel_rfl) (fun _ _ _ h => h) (Or.inl ⟨rfl, ?_⟩) hS ?_
    rotate_left
    · (intro w' hS'; (try dsimp only at hS'); dsimp only [zo35_5_5]; go_simp; try with_reducible rfl)
    simp only [Act.put, pa92_3, pb92_3, pc92_3]
    refine tk92_3 (i := 6) (oi := zo35_5_6) (v := ?_) rfl (by kernel_rfl) (fun _ _ _ h => h) (Or.inl ⟨rfl, ?_⟩) hS ?_
    rotate_left
    · (intro w' hS'; (try dsimp only at hS'); dsimp only [zo35_5_6]; go_simp; try with_reducible rfl)
    simp only [Act.put, pa92_3, pb92_3, pc92_3]
    refine tk92_3 (i := 7) (oi := zo35_5_7) (v := ?_) rfl (by kernel_rfl) (fun _ _ _ h => h) (Or.inl ⟨rfl, ?_⟩) hS ?_
    rotate_left
    · (intro w' hS'; (try dsimp only at hS'); dsimp only [zo35_5_7]; go_simp; try with_reducible rfl)
    simp only [Act.put, pa92_3, pb92_3, pc92_3]
    refine tk92_3 (i := 8) (oi := zo35_5_8) (v := ?_) rfl (by kernel_rfl) (fun _ _ _ h => h) (Or.inl ⟨rfl, ?_⟩) hS ?_
    rotate_left
    · (intro w' hS'; (try dsimp only at hS'); dsimp only [zo35_5_8]; go_simp; try with_reducible rfl)
    simp only [Act.put, pa92_3, pb92_3, pc92_3]
    refine tk92_3 (i := 9) (oi := zo35_5_9) (v := ?_) rfl (by kernel_rfl) (fun _ _ _ h => h) (Or.inl ⟨rfl, ?_⟩) hS ?_
    rotate_left
    · (intro w' hS'; (try dsimp only at hS'); dsimp only [zo35_5_9]; go_simp; try with_reducible rfl)
    simp only [Act.put, pa92_3, pb92_3, pc92_3]
    refine tk92_3 (i := 10) (oi := zo35_5_10) (v := ?_) rfl (by kernel_rfl) (fun _ _ _ h => h) (Or.inl ⟨rfl, ?_⟩) hS ?_
    rotate_left
    · (intro w' hS'; (try dsimp only at hS'); dsimp only [zo35_5_10]; go_simp; try with_reducible rfl)
    simp only [Act.put, pa92_3, pb92_3, pc92_3]
    refine tk92_3 (i := 11) (oi := zo35_5_11) (v := ?_) rfl (by kernel_rfl) (fun _ _ _ h => h) (Or.inl ⟨rfl, ?_⟩) hS ?_
    rotate_left
    · (intro w' hS'; (try dsimp only at hS'); dsimp only [zo35_5_11]; go_simp; try with_reducible rfl)
    simp only [Act.put, pa92_3, pb92_3, pc92_3]
    refine tk92_3 (i := 12) (oi := zo35_5_12) (v := ?_) rfl (by kernel_rfl) (fun _ _ _ h => h) (Or.inl ⟨rfl, ?_⟩) hS ?_
    rotate_left
    · (intro w' hS'; (try dsimp only at hS'); dsimp only [zo35_5_12]; go_simp; try with_reducible rfl)
    simp only [Act.put, pa92_3, pb92_3, pc92_3]
    refine wpAnyH_ready (rs := [13]) (by kernel_rfl) (by simp) ?_
    refine AllReadyH.cons (o := zo35_5_13) rfl (fun K hK => ?_) .nil
    refine step_call 92 #[Go.Operand.tmp 58] _ rfl rfl #[.pointer (some ⟨g, 9, none⟩)] Tryz.call92 (by go_simp) (HE.out _ h3 (R.cell' (i := 9) rfl)) ?_
    rintro e w6 ⟨rfl, b6⟩
    refine ⟨_, rfl, ?_⟩
    replace R := R.later b6
    replace Q := Q.later b6
    replace po := (b6.cell (p := ⟨_, _, none⟩) nbo).trans po
    replace nbo := Nat.lt_of_lt_of_le nbo b6.size
    replace bb := bb.trans (b6.mono bb.size)
    replace h0 := h0.below b6
    replace h1 := h1.below b6
    replace h2 := h2.below b6
    replace h3 := h3.below b6
    replace h4 := h4.below b6
    replace h5 := h5.below b6
    replace hS : (fun w' : World => w'.cell? ⟨g, 9, none⟩ = some (.slice A3 q.strokes.length k3) ∧ w'.cell? ⟨g, 10, none⟩ = some (.slice (some ⟨bo, oo, none⟩) q.opn.length k4) ∧ w'.cell? ⟨g, 11, none⟩ = some (.int .i64 q.time) ∧ w'.cell? ⟨w4.heap.size, 0, none⟩ = some (.slice (some ⟨bo, oo, none⟩) q.opn.length k4) ∧ w'.cell? ⟨bo, oo + 2, none⟩ = some (.int .i64 q.opn[0].t)) w6 := ⟨R.cell' (i := 9) rfl, R.cell' (i := 10) rfl, R.cell' (i := 11) rfl, Q.cell' (i := 0) rfl, po⟩
    dsimp only at hS
    refine hK.out _ _ ?_ (fun hHeld => ?_)
    · exact hS
    clear hK K hHeld
    simp only [Act.put, pa92_3, pb92_3, pc92_3]
    refine tk92_3 (i := 14) (oi := zo35_5_14) (v := ?_) rfl (by kernel_rfl) (fun _ _ _ h => h) (Or.inl ⟨rfl, ?_⟩) hS ?_
    rotate_left
    · (intro w' hS'; (try dsimp only at hS'); dsimp only [zo35_5_14]; go_simp; try with_reducible rfl)
    simp only [Act.put, pa92_3, pb92_3, pc92_3]
    refine tk92_3 (i := 15) (oi := zo35_5_15) (v := ?_) rfl (by kernel_rfl) (fun _ _ _ h => h) (Or.inl ⟨rfl, ?_⟩) hS ?_
    rotate_left
    · (intro w' hS'; (try dsimp only at hS'); dsimp only [zo35_5_15]; go_simp; try with_reducible rfl)
    simp only [Act.put, pa92_3, pb92_3, pc92_3]
    refine tk92_3 (i := 16) (oi := zo35_5_16) (v := ?_) rfl (by kernel_rfl) (fun _ _ _ h => h) (Or.inl ⟨rfl, ?_⟩) hS ?_
    rotate_left
    · (intro w' hS'; (try dsimp only at hS'); dsimp only [zo35_5_16]; go_simp; try with_reducible rfl)
    simp only [Act.put, pa92_3, pb92_3, pc92_3]
    refine tk92_3 (i := 18) (oi := zo35_5_18) (v := ?_) rfl (by kernel_rfl) (fun _ _ _ h => h) (Or.inl ⟨rfl, ?_⟩) hS ?_
    rotate_left
    · (intro w' hS'; (try dsimp only at hS'); dsimp only [zo35_5_18]; go_simp; try with_reducible rfl)
    simp only [Act.put, pa92_3, pb92_3, pc92_3]
    refine tk92_3 (i := 19) (oi := zo35_5_19) (v := ?_) rfl (by kernel_rfl) (fun _ _ _ h => h) (Or.inl ⟨rfl, ?_⟩) hS ?_
    rotate_left
    · (intro w' hS'; (try dsimp only at hS'); dsimp only [zo35_5_19]; go_simp; try with_reducible rfl)
    simp only [Act.put, pa92_3, pb92_3, pc92_3]
    refine tk92_3 (i := 20) (oi := zo35_5_20) (v := ?_) rfl (by kernel_rfl) (fun _ _ _ h => h) (Or.inl ⟨rfl, ?_⟩) hS ?_
    rotate_left
    · (intro w' hS'; (try dsimp only at hS'); dsimp only [zo35_5_20]; go_simp; try with_reducible rfl)
    simp only [Act.put, pa92_3, pb92_3, pc92_3]
    refine tk92_3 (i := 21) (oi := zo35_5_21) (v := ?_) rfl (by kernel_rfl) (fun _ _ _ h => h) (Or.inl ⟨rfl, ?_⟩) hS ?_
    rotate_left
    · (intro w' hS'; (try dsimp only at hS'); dsimp only [zo35_5_21]; go_simp; try with_reducible rfl)
    simp only [Act.put, pa92_3, pb92_3, pc92_3]
    refine wpAnyH_ready (rs := [17]) (by kernel_rfl) (by simp) ?_
    refine AllReadyH.cons (o := zo35_5_17) rfl (fun K hK => ?_) .nil
    refine step_call 94 #[Go.Operand.tmp 3] _ rfl rfl #[.pointer (some ⟨w4.heap.size, 0, none⟩)] Tryz.call94 (by go_simp) (HLO.out _ h4 (Q.cell' (i := 0) rfl)) ?_
    rintro e w7 ⟨rfl, b7⟩
    refine ⟨_, rfl, ?_⟩
    replace R := R.later b7
    replace Q := Q.later b7
    replace po := (b7.cell (p := ⟨_, _, none⟩) nbo).trans po
    replace nbo := Nat.lt_of_lt_of_le nbo b7.size
    replace bb := bb.trans (b7.mono bb.size)
    replace h0 := h0.below b7
    replace h1 := h1.below b7
    replace h2 := h2.below b7
    replace h3 := h3.below b7
    replace h4 := h4.below b7
    replace h5 := h5.below b7
    replace hS : (fun w' : World => w'.cell? ⟨g, 9, none⟩ = some (.slice A3 q.strokes.length k3) ∧ w'.cell? ⟨g, 10, none⟩ = some (.slice (some ⟨bo, oo, none⟩) q.opn.length k4) ∧ w'.cell? ⟨g, 11, none⟩ = some (.int .i64 q.time) ∧ w'.cell? ⟨w4.heap.size, 0, none⟩ = some (.slice (some ⟨bo, oo, none⟩) q.opn.length k4) ∧ w'.cell? ⟨bo, oo + 2, none⟩ = some (.int .i64 q.opn[0].t)) w7 := ⟨R.cell' (i := 9) rfl, R.cell' (i := 10) rfl, R.cell' (i := 11) rfl, Q.cell' (i := 0) rfl, po⟩
    dsimp only at hS
    refine hK.out _ _ ?_ (fun hHeld => ?_)
    · exact hS
    clear hK K hHeld
    simp only [Act.put, pa92_3, pb92_3, pc92_3]
    refine tk92_3 (i := 22) (oi := zo35_5_22) (v := ?_) rfl (by kernel_rfl) (fun _ _ _ h => h) (Or.inl ⟨rfl, ?_⟩) hS ?_
    rotate_left
    · (intro w' hS'; (try dsimp only at hS'); dsimp only [zo35_5_22]; go_simp; try with_reducible rfl)
    simp only [Act.put, pa92_3, pb92_3, pc92_3]
    refine tk92_3 (i := 23) (oi := zo35_5_23) (v := ?_) rfl (by kernel_rfl) (fun _ _ _ h => h) (Or.inl ⟨rfl, ?_⟩) hS ?_
    rotate_left
    · (intro w' hS'; (try dsimp only at hS'); dsimp only [zo35_5_23]; go_simp; try with_reducible rfl)
    simp only [Act.put, pa92_3, pb92_3, pc92_3]
    refine wpAnyH_done (by kernel_rfl) ?_ _
    go_wp2_with fail
    go_ret
    exact ⟨ret_boolI HF.out.symm, bb⟩
  have hop : Hid (openB q = true) := by show _ = _; rw [hob, hst, decide_eq_true hfi, decide_eq_true hla]; rfl
  have gl : (q.time < lastT q.opn) = False := eq_false (by omega)
  clear hst hob hfi hla
  go_upto_region 5 with fail
  clear x2
  replace po := (((Below.refl _ _).alloc (Nat.le_refl _) (.cells #[.slice (some ⟨bo, oo, none⟩) q.opn.length k4] 107)).cell (p := ⟨_, _, none⟩) nbo).trans po
  replace nbo : bo < (w4.alloc (.cells #[.slice (some ⟨bo, oo, none⟩) q.opn.length k4] 107)).drew.heap.size := by simp; omega
  replace R := R.alloc (.cells #[.slice (some ⟨bo, oo, none⟩) q.opn.length k4] 107)
  have Q := Row.new w4 107 #[.slice (some ⟨bo, oo, none⟩) q.opn.length k4]
  replace bb := bb.alloc bb.size (.cells #[.slice (some ⟨bo, oo, none⟩) q.opn.length k4] 107)
  replace h0 := h0.alloc (.cells #[.slice (some ⟨bo, oo, none⟩) q.opn.length k4] 107)
  replace h1 := h1.alloc (.cells #[.slice (some ⟨bo, oo, none⟩) q.opn.length k4] 107)
  replace h2 := h2.alloc (.cells #[.slice (some ⟨bo, oo, none⟩) q.opn.length k4] 107)
  replace h3 := h3.alloc (.cells #[.slice (some ⟨bo, oo, none⟩) q.opn.length k4] 107)
  replace h4 := h4.alloc (.cells #[.slice (some ⟨bo, oo, none⟩) q.opn.length k4] 107)
  replace h5 := h5.alloc (.cells #[.slice (some ⟨bo, oo, none⟩) q.opn.length k4] 107)
  go_wp2_with fail
  replace R := R.drew
  replace Q := Q.drew
  have hS : (fun w' : World => w'.cell? ⟨g, 9, none⟩ = some (.slice A3 q.strokes.length k3) ∧ w'.cell? ⟨g, 10, none⟩ = some (.slice (some ⟨bo, oo, none⟩) q.opn.length k4) ∧ w'.cell? ⟨g, 11, none⟩ = some (.int .i64 q.time) ∧ w'.cell? ⟨w4.heap.size, 0, none⟩ = some (.slice (some ⟨bo, oo, none⟩) q.opn.length k4) ∧ w'.cell? ⟨bo, oo + 2, none⟩ = some (.int .i64 q.opn[0].t)) (w4.alloc (.cells #[.slice (some ⟨bo, oo, none⟩) q.opn.length k4] 107)).drew := ⟨R.cell' (i := 9) rfl, R.cell' (i := 10) rfl, R.cell' (i := 11) rfl, Q.cell' (i := 0) rfl, po⟩
  dsimp only at hS
  refine wp_region_held_drew (S := (fun w' : World => w'.cell? ⟨g, 9, none⟩ = some (.slice A3 q.strokes.length k3) ∧ w'.cell? ⟨g, 10, none⟩ = some (.slice (some ⟨bo, oo, none⟩) q.opn.length k4) ∧ w'.cell? ⟨g, 11, none⟩ = some (.int .i64 q.time) ∧ w'.cell? ⟨w4.heap.size, 0, none⟩ = some (.slice (some ⟨bo, oo, none⟩) q.opn.length k4) ∧ w'.cell? ⟨bo, oo + 2, none⟩ = some (.int .i64 q.opn[0].t))) (by kernel_rfl) hS (fun _ => ?_)
  replace bb := bb.drew
  replace h0 := h0.drew
  replace h1 := h1.drew
  replace h2 := h2.drew
  replace h3 := h3.drew
  replace h4 := h4.drew
  replace h5 := h5.drew
  refine wpAnyH_ready (rs := [0]) (by kernel_rfl) (by simp) ?_
  refine AllReadyH.cons (o := zo35_5_0) rfl (fun K hK => ?_) .nil
  refine step_call 93 #[Go.Operand.tmp 3] _ rfl rfl #[.pointer (some ⟨w4.heap.size, 0, none⟩)] Tryz.call93 (by go_simp) (HV.out _ h4 (Q.cell' (i := 0) rfl) Q.lt) ?_
  rintro e w5 ⟨rfl, b5⟩
  refine ⟨_, rfl, ?_⟩
  replace R := R.later b5
  replace Q := Q.later b5
  replace po := (b5.cell (p := ⟨_, _, none⟩) nbo).trans po
  replace nbo := Nat.lt_of_lt_of_le nbo b5.size
  replace bb := bb.trans (b5.mono bb.size)
  replace h0 := h0.below b5
  replace h1 := h1.below b5
  replace h2 := h2.below b5
  replace h3 := h3.below b5
  replace h4 := h4.below b5
  replace h5 := h5.below b5
  replace hS : (fun w' : World => w'.cell? ⟨g, 9, none⟩ = some (.slice A3 q.strokes.length k3) ∧ w'.cell? ⟨g, 10, none⟩ = some (.slice (some ⟨bo, oo, none⟩) q.opn.length k4) ∧ w'.cell? ⟨g, 11, none⟩ = some (.int .i64 q.time) ∧ w'.cell? ⟨w4.heap.size, 0, none⟩ = some (.slice (some ⟨bo, oo, none⟩) q.opn.length k4) ∧ w'.cell? ⟨bo, oo + 2, none⟩ = some (.int .i64 q.opn[0].t)) w5 := ⟨R.cell' (i := 9) rfl, R.cell' (i := 10) rfl, R.cell' (i := 11) rfl, Q.cell' (i := 0) rfl, po⟩
  dsimp only at hS
  refine hK.out _ _ ?_ (fun hHeld => ?_)
  · exact hS
  clear hK K hHeld
  simp only [Act.put, pa92_3, pb92_3, pc92_3]
  refine tk92_3 (i := 1) (oi := zo35_5_1) (v := ?_) rfl (by kernel_rfl) (fun _ _ _ h => h) (Or.inl ⟨rfl, ?_⟩) hS ?_
  rotate_left
  · (intro w' hS'; (try dsimp only at hS'); dsimp only [zo35_5_1]; go_simp; try with_reducible rfl)
  simp only [Act.put, pa92_3, pb92_3, pc92_3]
  refine tk92_3 (i := 2) (oi := zo35_5_2) (v := ?_) rfl (by kernel_rfl) (fun _ _ _ h => h) (Or.inl ⟨rfl, ?_⟩) hS ?_
  rotate_left
  · (intro w' hS'; (try dsimp only at hS'); dsimp only [zo35_5_2]; go_simp; try with_reducible rfl)
  simp only [Act.put, pa92_3, pb92_3, pc92_3]
  refine tk92_3 (i := 3) (oi := zo35_5_3) (v := ?_) rfl (by kernel_rfl) (fun _ _ _ h => h) (Or.inl ⟨rfl, ?_⟩) hS ?_
  rotate_left
  · (intro w' hS'; (try dsimp only at hS'); dsimp only [zo35_5_3]; go_simp; try with_reducible rfl)
  simp only [Act.put, pa92_3, pb92_3, pc92_3]
  refine tk92_3 (i := 4) (oi := zo35_5_4) (v := ?_) rfl (by kernel_rfl) (fun _ _ _ h => h) (Or.inl ⟨rfl, ?_⟩) hS ?_
  rotate_left
  · (intro w' hS'; (try dsimp only at hS'); dsimp only [zo35_5_4]; go_simp; try with_reducible rfl)
  simp only [Act.put, pa92_3, pb92_3, pc92_3]
  refine tk92_3 (i := 5) (oi := zo35_5_5) (v := ?_) rfl (by kernel_rfl) (fun _ _ _ h => h) (Or.inl ⟨rfl, ?_⟩) hS ?_
  rotate_left
  · (intro w' hS'; (try dsimp only at hS'); dsimp only [zo35_5_5]; go_simp; try with_reducible rfl)
  simp only [Act.put, pa92_3, pb92_3, pc92_3]
  refine tk92_3 (i := 6) (oi := zo35_5_6) (v := ?_) rfl (by kernel_rfl) (fun _ _ _ h => h) (Or.inl ⟨rfl, ?_⟩) hS ?_
  rotate_left
  · (intro w' hS'; (try dsimp only at hS'); dsimp only [zo35_5_6]; go_simp; try with_reducible rfl)
  simp only [Act.put, pa92_3, pb92_3, pc92_3]
  refine tk92_3 (i := 7) (oi := zo35_5_7) (v := ?_) rfl (by kernel_rfl) (fun _ _ _ h => h) (Or.inl ⟨rfl, ?_⟩) hS ?_
  rotate_left
  · (intro w' hS'; (try dsimp only at hS'); dsimp only [zo35_5_7]; go_simp; try with_reducible rfl)
  simp only [Act.put, pa92_3, pb92_3, pc92_3]
  refine tk92_3 (i := 8) (oi := zo35_5_8) (v := ?_) rfl (by kernel_rfl) (fun _ _ _ h => h) (Or.inl ⟨rfl, ?_⟩) hS ?_
  rotate_left
  · (intro w' hS'; (try dsimp only at hS'); dsimp only [zo35_5_8]; go_simp; try with_reducible rfl)
  simp only [Act.put, pa92_3, pb92_3, pc92_3]
  refine tk92_3 (i := 9) (oi := zo35_5_9) (v := ?_) rfl (by kernel_rfl) (fun _ _ _ h => h) (Or.inl ⟨rfl, ?_⟩) hS ?_
  rotate_left
  · (intro w' hS'; (try dsimp only at hS'); dsimp only [zo35_5_9]; go_simp; try with_reducible rfl)
  simp only [Act.put, pa92_3, pb92_3, pc92_3]
  refine tk92_3 (i := 10) (oi := zo35_5_10) (v := ?_) rfl (by kernel_rfl) (fun _ _ _ h => h) (Or.inl ⟨rfl, ?_⟩) hS ?_
  rotate_left
  · (intro w' hS'; (try dsimp only at hS'); dsimp only [zo35_5_10]; go_simp; try with_reducible rfl)
  simp only [Act.put, pa92_3, pb92_3, pc92_3]
  refine tk92_3 (i := 11) (oi := zo35_5_11) (v := ?_) rfl (by kernel_rfl) (fun _ _ _ h => h) (Or.inl ⟨rfl, ?_⟩) hS ?_
  rotate_left
  · (intro w' hS'; (try dsimp only at hS'); dsimp only [zo35_5_11]; go_simp; try with_reducible rfl)
  simp only [Act.put, pa92_3, pb92_3, pc92_3]
  refine tk92_3 (i := 12) (oi := zo35_5_12) (v := ?_) rfl (by kernel_rfl) (fun _ _ _ h => h) (Or.inl ⟨rfl, ?_⟩) hS ?_
  rotate_left
  · (intro w' hS'; (try dsimp only at hS'); dsimp only [zo35_5_12]; go_simp; try with_reducible rfl)
  simp only [Act.put, pa92_3, pb92_3, pc92_3]
  refine wpAnyH_ready (rs := [13]) (by kernel_rfl) (by simp) ?_
  refine AllReadyH.cons (o := zo35_5_13) rfl (fun K hK => ?_) .nil
  refine step_call 92 #[Go.Operand.tmp 58] _ rfl rfl #[.pointer (some ⟨g, 9, none⟩)] Tryz.call92 (by go_simp) (HE.out _ h3 (R.cell' (i := 9) rfl)) ?_
  rintro e w6 ⟨rfl, b6⟩
  refine ⟨_, rfl, ?_⟩
  replace R := R.later b6
  replace Q := Q.later b6
  replace po := (b6.cell (p := ⟨_, _, none⟩) nbo).trans po
  replace nbo := Nat.lt_of_lt_of_le nbo b6.size
  replace bb := bb.trans (b6.mono bb.size)
  replace h0 := h0.below b6
  replace h1 := h1.below b6
  replace h2 := h2.below b6
  replace h3 := h3.below b6
  replace h4 := h4.below b6
  replace h5 := h5.below b6
  replace hS : (fun w' : World => w'.cell? ⟨g, 9, none⟩ = some (.slice A3 q.strokes.length k3) ∧ w'.cell? ⟨g, 10, none⟩ = some (.slice (some ⟨bo, oo, none⟩) q.opn.length k4) ∧ w'.cell? ⟨g, 11, none⟩ = some (.int .i64 q.time) ∧ w'.cell? ⟨w4.heap.size, 0, none⟩ = some (.slice (some ⟨bo, oo, none⟩) q.opn.length k4) ∧ w'.cell? ⟨bo, oo + 2, none⟩ = some (.int .i64 q.opn[0].t)) w6 := ⟨R.cell' (i := 9) rfl, R.cell' (i := 10) rfl, R.cell' (i := 11) rfl, Q.cell' (i := 0) rfl, po⟩
  dsimp only at hS
  refine hK.out _ _ ?_ (fun hHeld => ?_)
  · exact hS
  clear hK K hHeld
  simp only [Act.put, pa92_3, pb92_3, pc92_3]
  refine tk92_3 (i := 14) (oi := zo35_5_14) (v := ?_) rfl (by kernel_rfl) (fun _ _ _ h => h) (Or.inl ⟨rfl, ?_⟩) hS ?_
  rotate_left
  · (intro w' hS'; (try dsimp only at hS'); dsimp only [zo35_5_14]; go_simp; try with_reducible rfl)
  simp only [Act.put, pa92_3, pb92_3, pc92_3]
  refine tk92_3 (i := 15) (oi := zo35_5_15) (v := ?_) rfl (by kernel_rfl) (fun _ _ _ h => h) (Or.inl ⟨rfl, ?_⟩) hS ?_
  rotate_left
  · (intro w' hS'; (try dsimp only at hS'); dsimp only [zo35_5_15]; go_simp; try with_reducible rfl)
  simp only [Act.put, pa92_3, pb92_3, pc92_3]
  refine tk92_3 (i := 16) (oi := zo35_5_16) (v := ?_) rfl (by kernel_rfl) (fun _ _ _ h => h) (Or.inl ⟨rfl, ?_⟩) hS ?_
  rotate_left
  · (intro w' hS'; (try dsimp only at hS'); dsimp only [zo35_5_16]; go_simp; try with_reducible rfl)
  simp only [Act.put, pa92_3, pb92_3, pc92_3]
  refine tk92_3 (i := 18) (oi := zo35_5_18) (v := ?_) rfl (by kernel_rfl) (fun _ _ _ h => h) (Or.inl ⟨rfl, ?_⟩) hS ?_
  rotate_left
  · (intro w' hS'; (try dsimp only at hS'); dsimp only [zo35_5_18]; go_simp; try with_reducible rfl)
  simp only [Act.put, pa92_3, pb92_3, pc92_3]
  refine tk92_3 (i := 19) (oi := zo35_5_19) (v := ?_) rfl (by kernel_rfl) (fun _ _ _ h => h) (Or.inl ⟨rfl, ?_⟩) hS ?_
  rotate_left
  · (intro w' hS'; (try dsimp only at hS'); dsimp only [zo35_5_19]; go_simp; try with_reducible rfl)
  simp only [Act.put, pa92_3, pb92_3, pc92_3]
  refine tk92_3 (i := 20) (oi := zo35_5_20) (v := ?_) rfl (by kernel_rfl) (fun _ _ _ h => h) (Or.inl ⟨rfl, ?_⟩) hS ?_
  rotate_left
  · (intro w' hS'; (try dsimp only at hS'); dsimp only [zo35_5_20]; go_simp; try with_reducible rfl)
  simp only [Act.put, pa92_3, pb92_3, pc92_3]
  refine tk92_3 (i := 21) (oi := zo35_5_21) (v := ?_) rfl (by kernel_rfl) (fun _ _ _ h => h) (Or.inl ⟨rfl, ?_⟩) hS ?_
  rotate_left
  · (intro w' hS'; (try dsimp only at hS'); dsimp only [zo35_5_21]; go_simp; try with_reducible rfl)
  simp only [Act.put, pa92_3, pb92_3, pc92_3]
  refine wpAnyH_ready (rs := [17]) (by kernel_rfl) (by simp) ?_
  refine AllReadyH.cons (o := zo35_5_17) rfl (fun K hK => ?_) .nil
  refine step_call 94 #[Go.Operand.tmp 3] _ rfl rfl #[.pointer (some ⟨w4.heap.size, 0, none⟩)] Tryz.call94 (by go_simp) (HLO.out _ h4 (Q.cell' (i := 0) rfl)) ?_
  rintro e w7 ⟨rfl, b7⟩
  refine ⟨_, rfl, ?_⟩
  replace R := R.later b7
  replace Q := Q.later b7
  replace po := (b7.cell (p := ⟨_, _, none⟩) nbo).trans po
  replace nbo := Nat.lt_of_lt_of_le nbo b7.size
  replace bb := bb.trans (b7.mono bb.size)
  replace h0 := h0.below b7
  replace h1 := h1.below b7
  replace h2 := h2.below b7
  replace h3 := h3.below b7
  replace h4 := h4.below b7
  replace h5 := h5.below b7
  replace hS : (fun w' : World => w'.cell? ⟨g, 9, none⟩ = some (.slice A3 q.strokes.length k3) ∧ w'.cell? ⟨g, 10, none⟩ = some (.slice (some ⟨bo, oo, none⟩) q.opn.length k4) ∧ w'.cell? ⟨g, 11, none⟩ = some (.int .i64 q.time) ∧ w'.cell? ⟨w4.heap.size, 0, none⟩ = some (.slice (some ⟨bo, oo, none⟩) q.opn.length k4) ∧ w'.cell? ⟨bo, oo + 2, none⟩ = some (.int .i64 q.opn[0].t)) w7 := ⟨R.cell' (i := 9) rfl, R.cell' (i := 10) rfl, R.cell' (i := 11) rfl, Q.cell' (i := 0) rfl, po⟩
  dsimp only at hS
  refine hK.out _ _ ?_ (fun hHeld => ?_)
  · exact hS
  clear hK K hHeld
  simp only [Act.put, pa92_3, pb92_3, pc92_3]
  refine tk92_3 (i := 22) (oi := zo35_5_22) (v := ?_) rfl (by kernel_rfl) (fun _ _ _ h => h) (Or.inl ⟨rfl, ?_⟩) hS ?_
  rotate_left
  · (intro w' hS'; (try dsimp only at hS'); dsimp only [zo35_5_22]; go_simp; try with_reducible rfl)
  simp only [Act.put, pa92_3, pb92_3, pc92_3]
  refine tk92_3 (i := 23) (oi := zo35_5_23) (v := ?_) rfl (by kernel_rfl) (fun _ _ _ h => h) (Or.inl ⟨rfl, ?_⟩) hS ?_
  rotate_left
  · (intro w' hS'; (try dsimp only at hS'); dsimp only [zo35_5_23]; go_simp; try with_reducible rfl)
  simp only [Act.put, pa92_3, pb92_3, pc92_3]
  refine wpAnyH_done (by kernel_rfl) ?_ _
  have hrest := Lib.hid (sessB_rest (q := q) hok1.out hok2.out hok3.out hok4.out hop.out)
  have x4 := R.cell' (i := 12) rfl
  generalize hd : q.words.all isWordB = d at HW hrest
  clear hd
  cases d
  · have HF : Hid (sessB q = false) := by show _ = _; rw [hrest.out, Bool.false_and]
    clear hrest
    go_wp2_with fail
    refine (HW.out _ h5).mono ?_
    rintro e w9 ⟨rfl, rfl⟩
    go_wp2_with fail
    go_ret
    exact ⟨ret_boolI HF.out.symm, bb⟩
  · by_cases h60 : q.words.length ≤ 60
    · have g6 : ((q.words.length : Int) ≤ 60) = True := eq_true (by omega)
      have HF : Hid (sessB q = true) := by show _ = _; rw [hrest.out, decide_eq_true h60]; rfl
      clear h60 hrest
      go_wp2_with fail
      refine (HW.out _ h5).mono ?_
      rintro e w9 ⟨rfl, rfl⟩
      go_wp2_with fail
      go_ret
      exact ⟨ret_boolI HF.out.symm, bb⟩
    · have g6 : ((q.words.length : Int) ≤ 60) = False := eq_false (by omega)
      have HF : Hid (sessB q = false) := by show _ = _; rw [hrest.out, decide_eq_false h60]; rfl
      clear h60 hrest
      go_wp2_with fail
      refine (HW.out _ h5).mono ?_
      rintro e w9 ⟨rfl, rfl⟩
      go_wp2_with fail
      go_ret
      exact ⟨ret_boolI HF.out.symm, bb⟩
set_option maxHeartbeats 1000000 in
theorem spec_ValidSession_p {I : Ids} {o : Bool} {q : PSess} {v : Value} {F : List Nat} (w : World) (h : SessIs I o w q v F) (hp : SsSmall q) (hb : SsBytes q) :
    Calls Tryz.prog 9 #[v] w fun e w' => e = .returned (.bool (sessB q)) ∧ Below w.heap.size w w' := by
  obtain ⟨a0, a1, a2, a3, a4, a5, F0, F1, F2, F3, F4, F5, rfl, rfl, h0, h1, h2, h3, h4, h5⟩ := h
  obtain ⟨A0, k0, rfl⟩ := slice_len h0
  obtain ⟨A1, k1, rfl⟩ := slice_len h1
  obtain ⟨A2, k2, rfl⟩ := slice_len h2
  obtain ⟨A3, k3, rfl⟩ := slice_len h3
  obtain ⟨A4, k4, rfl⟩ := slice_len h4
  obtain ⟨A5, k5, rfl⟩ := slice_len h5
  have R := Row.new w 61 #[.int .i64 q.setup.band, .slice A0 q.setup.temps.length k0, .int .i64 q.setup.points, .int .i64 q.setup.most, .int .i64 q.setup.pen, .slice A1 q.setup.entries.length k1, .int .i64 q.setup.dflt, .slice A2 q.setup.bigrams.length k2, .int .i64 q.setup.pause, .slice A3 q.strokes.length k3, .slice A4 q.opn.length k4, .int .i64 q.time, .slice A5 q.words.length k5]
  have H := Lib.hid (spec_l26Ok_c (more := []) _ (by rw [List.append_nil]; exact R) (h0.alloc _) (h1.alloc _) (h2.alloc _) (h3.alloc _) (h4.alloc _) (h5.alloc _) hp hb)
  have al : Below w.heap.size w (w.alloc (.cells #[.int .i64 q.setup.band, .slice A0 q.setup.temps.length k0, .int .i64 q.setup.points, .int .i64 q.setup.most, .int .i64 q.setup.pen, .slice A1 q.setup.entries.length k1, .int .i64 q.setup.dflt, .slice A2 q.setup.bigrams.length k2, .int .i64 q.setup.pause, .slice A3 q.strokes.length k3, .slice A4 q.opn.length k4, .int .i64 q.time, .slice A5 q.words.length k5] 61)) := (Below.refl _ _).alloc (Nat.le_refl _) _
  generalize sessB q = d at H ⊢
  go_enter Tryz.func9, Tryz.ntmps9
  go_wp2_with fail
  refine H.out.mono ?_
  rintro e w1 ⟨rfl, b1⟩
  go_wp2_with fail
  go_ret
  exact ⟨rfl, al.trans (b1.mono al.size)⟩
end Go.Proofs.YtkkignkoneeieaaGreat

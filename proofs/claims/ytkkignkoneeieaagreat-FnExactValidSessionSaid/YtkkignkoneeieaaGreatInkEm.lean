/- Ink: the events of ink, plainly, and the program's walk. Conditions: none. -/
import Derived.Test.YtkkignkoneeieaaGreatInkAm
import Derived.Test.YtkkignkoneeieaaGreatTyEventm
import Derived.Test.YtkkignkoneeieaaGreatAppendm
namespace Go.Proofs.YtkkignkoneeieaaGreat
open Go Go.RowKit
theorem pa93_4 (l : List Value) (i : Nat) (a : Value) : l.toArray.setIfInBounds i a = (l.set i a).toArray := List.setIfInBounds_toArray ..
theorem pb93_4 (a b : Value) (l : List Value) : (a :: l).set 0 b = b :: l := List.set_cons_zero ..
theorem pc93_4 (a b : Value) (l : List Value) (n : Nat) : (a :: l).set (n + 1) b = a :: l.set n b := List.set_cons_succ ..
theorem tk93_4 {P : Program} {md : Region.Mode} {ops : Array Oper} {Q : Exit → Act → World → Prop} {S : World → Prop} {i : Nat} {oi : Oper} {v : Value} {fuel : Nat} {listed : Array Bool} {a : Act} {w : World} (hi : ops[i]? = some oi)
    (hs : (Region.noSelect ops && (Region.free md ops listed i && (Region.ready md ops listed).contains i)) = true) (hQ : ∀ c a w, Q (.panic c) (a.put oi.dst v) w → Q (.panic c) a w) (hy : YieldsIf P ops S oi v a) (hS : S w)
    (h : wpAnyH P md ops Q S fuel (listed.setIfInBounds i true) (a.put oi.dst v) w) : wpAnyH P md ops Q S (fuel + 1) listed a w := by
  simp only [Bool.and_eq_true] at hs
  exact wpAnyH_take hi hs.1 hs.2.1 hs.2.2 hQ hy hS h
abbrev zo93_4_0 : Oper := { dst := some 13, op := Go.Op.move (Go.Operand.tmp 0), type := 153, pos := "l02_strokes.go:11", after := #[], guard := none }
abbrev zo93_4_1 : Oper := { dst := some 14, op := Go.Op.nilCheck (Go.Operand.tmp 13), type := 0, pos := "l02_strokes.go:11", after := #[{ on := 0, ground := Go.Ground.data }], guard := none }
abbrev zo93_4_2 : Oper := { dst := some 15, op := Go.Op.fieldAddr 107 (Go.Operand.tmp 14) 0, type := 0, pos := "l02_strokes.go:11", after := #[{ on := 1, ground := Go.Ground.data }], guard := none }
abbrev zo93_4_3 : Oper := { dst := some 16, op := Go.Op.load 59 (Go.Operand.tmp 15), type := 59, pos := "l02_strokes.go:11", after := #[{ on := 2, ground := Go.Ground.data }], guard := none }
abbrev zo93_4_4 : Oper := { dst := some 17, op := Go.Op.move (Go.Operand.tmp 3), type := 3, pos := "l02_strokes.go:11", after := #[], guard := none }
abbrev zo93_4_5 : Oper := { dst := some 18, op := Go.Op.indexAddr 59 (Go.Operand.tmp 16) (Go.Operand.tmp 17), type := 0, pos := "l02_strokes.go:11", after := #[{ on := 3, ground := Go.Ground.data }, { on := 4, ground := Go.Ground.data }], guard := none }
abbrev zo93_4_6 : Oper := { dst := some 19, op := Go.Op.load 110 (Go.Operand.tmp 18), type := 110, pos := "l02_strokes.go:11", after := #[{ on := 5, ground := Go.Ground.data }], guard := none }
abbrev zo93_4_7 : Oper := { dst := some 20, op := Go.Op.call { callee := Go.Callee.value (Go.Operand.func 166), args := #[Go.Operand.tmp 19], argTypes := #[110] }, type := 4, pos := "l02_strokes.go:11", after := #[{ on := 6, ground := Go.Ground.data }], guard := none }
abbrev zo93_4_8 : Oper := { dst := some 21, op := Go.Op.unOp Go.UnOp.not 4 (Go.Operand.tmp 20), type := 4, pos := "l02_strokes.go:11", after := #[{ on := 7, ground := Go.Ground.data }], guard := none }
abbrev zo93_4_9 : Oper := { dst := some 22, op := Go.Op.move (Go.Operand.tmp 21), type := 4, pos := "l02_strokes.go:11", after := #[{ on := 8, ground := Go.Ground.data }, { on := 7, ground := Go.Ground.chain }], guard := none }
abbrev zo93_4_10 : Oper := { dst := some 23, op := Go.Op.move (Go.Operand.tmp 3), type := 3, pos := "l02_strokes.go:11", after := #[{ on := 9, ground := Go.Ground.guard }], guard := some (9, false) }
abbrev zo93_4_11 : Oper := { dst := some 24, op := Go.Op.binOp Go.BinOp.gtr 3 (Go.Operand.tmp 23) (Go.Operand.const (Go.Value.int Go.IntKind.i64 0)) 3, type := 4, pos := "l02_strokes.go:11", after := #[{ on := 10, ground := Go.Ground.data }, { on := 9, ground := Go.Ground.guard }], guard := some (9, false) }
abbrev zo93_4_12 : Oper := { dst := some 25, op := Go.Op.move (Go.Operand.tmp 24), type := 4, pos := "l02_strokes.go:11", after := #[{ on := 11, ground := Go.Ground.data }, { on := 9, ground := Go.Ground.chain }, { on := 9, ground := Go.Ground.guard }], guard := some (9, false) }
abbrev zo93_4_13 : Oper := { dst := some 26, op := Go.Op.move (Go.Operand.tmp 0), type := 153, pos := "l02_strokes.go:11", after := #[{ on := 12, ground := Go.Ground.guard }], guard := some (12, true) }
abbrev zo93_4_14 : Oper := { dst := some 27, op := Go.Op.nilCheck (Go.Operand.tmp 26), type := 0, pos := "l02_strokes.go:11", after := #[{ on := 13, ground := Go.Ground.data }, { on := 12, ground := Go.Ground.guard }], guard := some (12, true) }
abbrev zo93_4_15 : Oper := { dst := some 28, op := Go.Op.fieldAddr 107 (Go.Operand.tmp 27) 0, type := 0, pos := "l02_strokes.go:11", after := #[{ on := 14, ground := Go.Ground.data }, { on := 12, ground := Go.Ground.guard }], guard := some (12, true) }
abbrev zo93_4_16 : Oper := { dst := some 29, op := Go.Op.load 59 (Go.Operand.tmp 28), type := 59, pos := "l02_strokes.go:11", after := #[{ on := 15, ground := Go.Ground.data }, { on := 12, ground := Go.Ground.guard }], guard := some (12, true) }
abbrev zo93_4_17 : Oper := { dst := some 30, op := Go.Op.move (Go.Operand.tmp 3), type := 3, pos := "l02_strokes.go:11", after := #[{ on := 12, ground := Go.Ground.guard }], guard := some (12, true) }
abbrev zo93_4_18 : Oper := { dst := some 31, op := Go.Op.indexAddr 59 (Go.Operand.tmp 29) (Go.Operand.tmp 30), type := 0, pos := "l02_strokes.go:11", after := #[{ on := 16, ground := Go.Ground.data }, { on := 17, ground := Go.Ground.data }, { on := 12, ground := Go.Ground.guard }], guard := some (12, true) }
abbrev zo93_4_19 : Oper := { dst := some 32, op := Go.Op.fieldAddr 110 (Go.Operand.tmp 31) 2, type := 0, pos := "l02_strokes.go:11", after := #[{ on := 18, ground := Go.Ground.data }, { on := 12, ground := Go.Ground.guard }], guard := some (12, true) }
abbrev zo93_4_20 : Oper := { dst := some 33, op := Go.Op.load 2 (Go.Operand.tmp 32), type := 2, pos := "l02_strokes.go:11", after := #[{ on := 19, ground := Go.Ground.data }, { on := 12, ground := Go.Ground.guard }], guard := some (12, true) }
abbrev zo93_4_21 : Oper := { dst := some 34, op := Go.Op.move (Go.Operand.tmp 0), type := 153, pos := "l02_strokes.go:11", after := #[{ on := 12, ground := Go.Ground.guard }], guard := some (12, true) }
abbrev zo93_4_22 : Oper := { dst := some 35, op := Go.Op.nilCheck (Go.Operand.tmp 34), type := 0, pos := "l02_strokes.go:11", after := #[{ on := 21, ground := Go.Ground.data }, { on := 12, ground := Go.Ground.guard }], guard := some (12, true) }
abbrev zo93_4_23 : Oper := { dst := some 36, op := Go.Op.fieldAddr 107 (Go.Operand.tmp 35) 0, type := 0, pos := "l02_strokes.go:11", after := #[{ on := 22, ground := Go.Ground.data }, { on := 12, ground := Go.Ground.guard }], guard := some (12, true) }
abbrev zo93_4_24 : Oper := { dst := some 37, op := Go.Op.load 59 (Go.Operand.tmp 36), type := 59, pos := "l02_strokes.go:11", after := #[{ on := 23, ground := Go.Ground.data }, { on := 12, ground := Go.Ground.guard }], guard := some (12, true) }
abbrev zo93_4_25 : Oper := { dst := some 38, op := Go.Op.move (Go.Operand.tmp 3), type := 3, pos := "l02_strokes.go:11", after := #[{ on := 12, ground := Go.Ground.guard }], guard := some (12, true) }
abbrev zo93_4_26 : Oper := { dst := some 39, op := Go.Op.binOp Go.BinOp.sub 3 (Go.Operand.tmp 38) (Go.Operand.const (Go.Value.int Go.IntKind.i64 1)) 3, type := 3, pos := "l02_strokes.go:11", after := #[{ on := 25, ground := Go.Ground.data }, { on := 12, ground := Go.Ground.guard }], guard := some (12, true) }
abbrev zo93_4_27 : Oper := { dst := some 40, op := Go.Op.indexAddr 59 (Go.Operand.tmp 37) (Go.Operand.tmp 39), type := 0, pos := "l02_strokes.go:11", after := #[{ on := 24, ground := Go.Ground.data }, { on := 26, ground := Go.Ground.data }, { on := 12, ground := Go.Ground.guard }], guard := some (12, true) }
abbrev zo93_4_28 : Oper := { dst := some 41, op := Go.Op.fieldAddr 110 (Go.Operand.tmp 40) 2, type := 0, pos := "l02_strokes.go:11", after := #[{ on := 27, ground := Go.Ground.data }, { on := 12, ground := Go.Ground.guard }], guard := some (12, true) }
abbrev zo93_4_29 : Oper := { dst := some 42, op := Go.Op.load 2 (Go.Operand.tmp 41), type := 2, pos := "l02_strokes.go:11", after := #[{ on := 28, ground := Go.Ground.data }, { on := 12, ground := Go.Ground.guard }], guard := some (12, true) }
abbrev zo93_4_30 : Oper := { dst := some 43, op := Go.Op.binOp Go.BinOp.leq 2 (Go.Operand.tmp 33) (Go.Operand.tmp 42) 2, type := 4, pos := "l02_strokes.go:11", after := #[{ on := 20, ground := Go.Ground.data }, { on := 29, ground := Go.Ground.data }, { on := 12, ground := Go.Ground.guard }], guard := some (12, true) }
abbrev zo93_4_31 : Oper := { dst := some 44, op := Go.Op.pick (Go.Operand.tmp 25) (Go.Operand.tmp 43) (Go.Operand.const (Go.Value.bool false)), type := 4, pos := "l02_strokes.go:11", after := #[{ on := 12, ground := Go.Ground.data }, { on := 30, ground := Go.Ground.data }, { on := 9, ground := Go.Ground.guard }], guard := some (9, false) }
abbrev zo93_4_32 : Oper := { dst := some 45, op := Go.Op.pick (Go.Operand.tmp 22) (Go.Operand.const (Go.Value.bool true)) (Go.Operand.tmp 44), type := 4, pos := "l02_strokes.go:11", after := #[{ on := 9, ground := Go.Ground.data }, { on := 31, ground := Go.Ground.data }], guard := none }
abbrev zo90_4_0 : Oper := { dst := some 13, op := Go.Op.move (Go.Operand.tmp 0), type := 150, pos := "l02_strokes.go:25", after := #[], guard := none }
abbrev zo90_4_1 : Oper := { dst := some 14, op := Go.Op.nilCheck (Go.Operand.tmp 13), type := 0, pos := "l02_strokes.go:25", after := #[{ on := 0, ground := Go.Ground.data }], guard := none }
abbrev zo90_4_2 : Oper := { dst := some 15, op := Go.Op.fieldAddr 58 (Go.Operand.tmp 14) 0, type := 0, pos := "l02_strokes.go:25", after := #[{ on := 1, ground := Go.Ground.data }], guard := none }
abbrev zo90_4_3 : Oper := { dst := some 16, op := Go.Op.load 56 (Go.Operand.tmp 15), type := 56, pos := "l02_strokes.go:25", after := #[{ on := 2, ground := Go.Ground.data }], guard := none }
abbrev zo90_4_4 : Oper := { dst := some 17, op := Go.Op.move (Go.Operand.tmp 3), type := 3, pos := "l02_strokes.go:25", after := #[], guard := none }
abbrev zo90_4_5 : Oper := { dst := some 18, op := Go.Op.indexAddr 56 (Go.Operand.tmp 16) (Go.Operand.tmp 17), type := 0, pos := "l02_strokes.go:25", after := #[{ on := 3, ground := Go.Ground.data }, { on := 4, ground := Go.Ground.data }], guard := none }
abbrev zo90_4_6 : Oper := { dst := some 19, op := Go.Op.call { callee := Go.Callee.value (Go.Operand.func 93), args := #[Go.Operand.tmp 18], argTypes := #[153] }, type := 4, pos := "l02_strokes.go:25", after := #[{ on := 5, ground := Go.Ground.data }], guard := none }
abbrev zo90_4_7 : Oper := { dst := some 20, op := Go.Op.unOp Go.UnOp.not 4 (Go.Operand.tmp 19), type := 4, pos := "l02_strokes.go:25", after := #[{ on := 6, ground := Go.Ground.data }], guard := none }
abbrev zo90_4_8 : Oper := { dst := some 21, op := Go.Op.move (Go.Operand.tmp 20), type := 4, pos := "l02_strokes.go:25", after := #[{ on := 7, ground := Go.Ground.data }, { on := 6, ground := Go.Ground.chain }], guard := none }
abbrev zo90_4_9 : Oper := { dst := some 22, op := Go.Op.move (Go.Operand.tmp 3), type := 3, pos := "l02_strokes.go:25", after := #[{ on := 8, ground := Go.Ground.guard }], guard := some (8, false) }
abbrev zo90_4_10 : Oper := { dst := some 23, op := Go.Op.binOp Go.BinOp.gtr 3 (Go.Operand.tmp 22) (Go.Operand.const (Go.Value.int Go.IntKind.i64 0)) 3, type := 4, pos := "l02_strokes.go:25", after := #[{ on := 9, ground := Go.Ground.data }, { on := 8, ground := Go.Ground.guard }], guard := some (8, false) }
abbrev zo90_4_11 : Oper := { dst := some 24, op := Go.Op.move (Go.Operand.tmp 23), type := 4, pos := "l02_strokes.go:25", after := #[{ on := 10, ground := Go.Ground.data }, { on := 8, ground := Go.Ground.chain }, { on := 8, ground := Go.Ground.guard }], guard := some (8, false) }
abbrev zo90_4_12 : Oper := { dst := some 25, op := Go.Op.move (Go.Operand.tmp 0), type := 150, pos := "l02_strokes.go:25", after := #[{ on := 11, ground := Go.Ground.guard }], guard := some (11, true) }
abbrev zo90_4_13 : Oper := { dst := some 26, op := Go.Op.nilCheck (Go.Operand.tmp 25), type := 0, pos := "l02_strokes.go:25", after := #[{ on := 12, ground := Go.Ground.data }, { on := 11, ground := Go.Ground.guard }], guard := some (11, true) }
abbrev zo90_4_14 : Oper := { dst := some 27, op := Go.Op.fieldAddr 58 (Go.Operand.tmp 26) 0, type := 0, pos := "l02_strokes.go:25", after := #[{ on := 13, ground := Go.Ground.data }, { on := 11, ground := Go.Ground.guard }], guard := some (11, true) }
abbrev zo90_4_15 : Oper := { dst := some 28, op := Go.Op.load 56 (Go.Operand.tmp 27), type := 56, pos := "l02_strokes.go:25", after := #[{ on := 14, ground := Go.Ground.data }, { on := 11, ground := Go.Ground.guard }], guard := some (11, true) }
abbrev zo90_4_16 : Oper := { dst := some 29, op := Go.Op.move (Go.Operand.tmp 3), type := 3, pos := "l02_strokes.go:25", after := #[{ on := 11, ground := Go.Ground.guard }], guard := some (11, true) }
abbrev zo90_4_17 : Oper := { dst := some 30, op := Go.Op.indexAddr 56 (Go.Operand.tmp 28) (Go.Operand.tmp 29), type := 0, pos := "l02_strokes.go:25", after := #[{ on := 15, ground := Go.Ground.data }, { on := 16, ground := Go.Ground.data }, { on := 11, ground := Go.Ground.guard }], guard := some (11, true) }
abbrev zo90_4_18 : Oper := { dst := some 31, op := Go.Op.fieldAddr 107 (Go.Operand.tmp 30) 0, type := 0, pos := "l02_strokes.go:25", after := #[{ on := 17, ground := Go.Ground.data }, { on := 11, ground := Go.Ground.guard }], guard := some (11, true) }
abbrev zo90_4_19 : Oper := { dst := some 32, op := Go.Op.load 59 (Go.Operand.tmp 31), type := 59, pos := "l02_strokes.go:25", after := #[{ on := 18, ground := Go.Ground.data }, { on := 11, ground := Go.Ground.guard }], guard := some (11, true) }
abbrev zo90_4_20 : Oper := { dst := some 33, op := Go.Op.indexAddr 59 (Go.Operand.tmp 32) (Go.Operand.const (Go.Value.int Go.IntKind.i64 0)), type := 0, pos := "l02_strokes.go:25", after := #[{ on := 19, ground := Go.Ground.data }, { on := 11, ground := Go.Ground.guard }], guard := some (11, true) }
abbrev zo90_4_21 : Oper := { dst := some 34, op := Go.Op.fieldAddr 110 (Go.Operand.tmp 33) 2, type := 0, pos := "l02_strokes.go:25", after := #[{ on := 20, ground := Go.Ground.data }, { on := 11, ground := Go.Ground.guard }], guard := some (11, true) }
abbrev zo90_4_22 : Oper := { dst := some 35, op := Go.Op.load 2 (Go.Operand.tmp 34), type := 2, pos := "l02_strokes.go:25", after := #[{ on := 21, ground := Go.Ground.data }, { on := 11, ground := Go.Ground.guard }], guard := some (11, true) }
abbrev zo90_4_23 : Oper := { dst := some 36, op := Go.Op.move (Go.Operand.tmp 0), type := 150, pos := "l02_strokes.go:25", after := #[{ on := 11, ground := Go.Ground.guard }], guard := some (11, true) }
abbrev zo90_4_24 : Oper := { dst := some 37, op := Go.Op.nilCheck (Go.Operand.tmp 36), type := 0, pos := "l02_strokes.go:25", after := #[{ on := 23, ground := Go.Ground.data }, { on := 11, ground := Go.Ground.guard }], guard := some (11, true) }
abbrev zo90_4_25 : Oper := { dst := some 38, op := Go.Op.fieldAddr 58 (Go.Operand.tmp 37) 0, type := 0, pos := "l02_strokes.go:25", after := #[{ on := 24, ground := Go.Ground.data }, { on := 11, ground := Go.Ground.guard }], guard := some (11, true) }
abbrev zo90_4_26 : Oper := { dst := some 39, op := Go.Op.load 56 (Go.Operand.tmp 38), type := 56, pos := "l02_strokes.go:25", after := #[{ on := 25, ground := Go.Ground.data }, { on := 11, ground := Go.Ground.guard }], guard := some (11, true) }
abbrev zo90_4_27 : Oper := { dst := some 40, op := Go.Op.move (Go.Operand.tmp 3), type := 3, pos := "l02_strokes.go:25", after := #[{ on := 11, ground := Go.Ground.guard }], guard := some (11, true) }
abbrev zo90_4_28 : Oper := { dst := some 41, op := Go.Op.binOp Go.BinOp.sub 3 (Go.Operand.tmp 40) (Go.Operand.const (Go.Value.int Go.IntKind.i64 1)) 3, type := 3, pos := "l02_strokes.go:25", after := #[{ on := 27, ground := Go.Ground.data }, { on := 11, ground := Go.Ground.guard }], guard := some (11, true) }
abbrev zo90_4_29 : Oper := { dst := some 42, op := Go.Op.indexAddr 56 (Go.Operand.tmp 39) (Go.Operand.tmp 41), type := 0, pos := "l02_strokes.go:25", after := #[{ on := 26, ground := Go.Ground.data }, { on := 28, ground := Go.Ground.data }, { on := 11, ground := Go.Ground.guard }], guard := some (11, true) }
abbrev zo90_4_30 : Oper := { dst := some 43, op := Go.Op.call { callee := Go.Callee.value (Go.Operand.func 94), args := #[Go.Operand.tmp 42], argTypes := #[153] }, type := 2, pos := "l02_strokes.go:25", after := #[{ on := 29, ground := Go.Ground.data }, { on := 11, ground := Go.Ground.chain }, { on := 11, ground := Go.Ground.guard }], guard := some (11, true) }
abbrev zo90_4_31 : Oper := { dst := some 44, op := Go.Op.binOp Go.BinOp.leq 2 (Go.Operand.tmp 35) (Go.Operand.tmp 43) 2, type := 4, pos := "l02_strokes.go:25", after := #[{ on := 22, ground := Go.Ground.data }, { on := 30, ground := Go.Ground.data }, { on := 11, ground := Go.Ground.guard }], guard := some (11, true) }
abbrev zo90_4_32 : Oper := { dst := some 45, op := Go.Op.pick (Go.Operand.tmp 24) (Go.Operand.tmp 44) (Go.Operand.const (Go.Value.bool false)), type := 4, pos := "l02_strokes.go:25", after := #[{ on := 11, ground := Go.Ground.data }, { on := 31, ground := Go.Ground.data }, { on := 8, ground := Go.Ground.guard }], guard := some (8, false) }
abbrev zo90_4_33 : Oper := { dst := some 46, op := Go.Op.pick (Go.Operand.tmp 21) (Go.Operand.const (Go.Value.bool true)) (Go.Operand.tmp 45), type := 4, pos := "l02_strokes.go:25", after := #[{ on := 8, ground := Go.Ground.data }, { on := 32, ground := Go.Ground.data }], guard := none }

def ptEvent (s : PStroke) (k : Nat) : PEvent := ⟨if k = 0 then 1 else 2, (pt s k).x, (pt s k).y, (pt s k).t⟩
/-- The events of the first n points. -/
def ptEvents (s : PStroke) (n : Nat) : List PEvent := (List.range n).map (ptEvent s)
def upEvent (s : PStroke) : PEvent := ⟨3, 0, 0, lastT s⟩
/-- The events of the first n strokes. -/
def inkEvents (xs : List PStroke) (n : Nat) : List PEvent := (List.range n).flatMap fun k => ptEvents (strk xs k) (strk xs k).length ++ [upEvent (strk xs k)]
theorem ptEvents_succ (s : PStroke) (n : Nat) : ptEvents s (n + 1) = ptEvents s n ++ [ptEvent s n] := by simp [ptEvents, List.range_succ]
theorem ptEvents_len (s : PStroke) (n : Nat) : (ptEvents s n).length = n := by simp [ptEvents]
theorem inkEvents_succ (xs : List PStroke) (n : Nat) : inkEvents xs (n + 1) = (inkEvents xs n ++ ptEvents (strk xs n) (strk xs n).length) ++ [upEvent (strk xs n)] := by simp [inkEvents, List.range_succ]
theorem inkEvents_len {xs : List PStroke} (h : ∀ k, k < xs.length → (strk xs k).length ≤ 60) : ∀ n, n ≤ xs.length → (inkEvents xs n).length ≤ n * 61
  | 0, _ => by simp [inkEvents]
  | n + 1, hn => by
    have h1 := inkEvents_len h n (by omega)
    have h2 := h n (by omega)
    rw [inkEvents_succ]
    simp only [List.length_append, List.length_cons, List.length_nil, ptEvents_len]
    omega
theorem strokeB_len {s : PStroke} (h : strokeB s = true) : s.length ≤ 60 := by
  simp only [strokeB, Bool.and_eq_true, decide_eq_true_eq] at h
  omega
theorem inkB_stroke {xs : List PStroke} (h : inkB xs = true) {k : Nat} (hk : k < xs.length) : strokeB xs[k] = true := by
  simp only [inkB, Bool.and_eq_true] at h
  exact stOk_stroke hk (stsOk_get h.1 hk)
theorem inkB_few {xs : List PStroke} (h : inkB xs = true) : xs.length ≤ 16 := by
  simp only [inkB, Bool.and_eq_true, decide_eq_true_eq] at h
  exact h.2
theorem inkEvents_few {xs : List PStroke} (h : inkB xs = true) {n : Nat} (hn : n ≤ xs.length) : (inkEvents xs n).length ≤ 976 := by
  have h1 := inkEvents_len (xs := xs) (fun k hk => by rw [strk_get hk]; exact strokeB_len (inkB_stroke h hk)) n hn
  have h2 := inkB_few h
  omega
theorem only_cell {F : List Nat} {a b : World} (h : Only F a b) {g i : Nat} (hg : g < a.heap.size) (hn : g ∉ F) : b.cell? ⟨g, i, none⟩ = a.cell? ⟨g, i, none⟩ := by
  have := h.block g hg hn
  simp [World.cell?, this]
theorem cellsAt_at (w : World) (e : TypeId) (cs : List Value) {n : Nat} (hn : n = w.heap.size) : CellsAt (w.alloc (.cells cs.toArray e)) (some ⟨n, 0, none⟩) cs := hn ▸ cellsAt_new w e cs
end Go.Proofs.YtkkignkoneeieaaGreat

/- Ink: the reference's test of a stroke, and the time of its last point. Conditions: none. -/
namespace Go.Proofs.YtkkignkoneeieaaGreat
open Go Go.RowKit

set_option maxRecDepth 100000 in
set_option maxHeartbeats 1000000 in
theorem spec_l02Stroke_c {o : Bool} {e : TypeId} {xs : PStroke} {v : Value} {F : List Nat} {g f : Nat} (w : World) (hg : w.cell? ⟨g, f, none⟩ = some v) (hgl : g < w.heap.size) (h : (pPoints e).rep o w xs [v] F) (hx : xs.length ≤ 1048576) :
    Calls Tryz.prog 93 #[.pointer (some ⟨g, f, none⟩)] w fun e w' => e = .returned (.bool (strokeB xs)) ∧ Below w.heap.size w w' := by
  obtain ⟨A, c, rfl, hc1, hc2, hr⟩ := pPoints_open h
  clear h
  go_enter Tryz.func93, Tryz.ntmps93
  go_wp2_with fail
  go_loopw [3] (fun i wr => ∃ k : Nat, k ≤ xs.length ∧ i = .int .i64 k ∧ Hid (ptsOk xs k = true) ∧ Below w.heap.size w wr) (fun i _ => xs.length - (intOf i).toNat)
  case atStart => exact ⟨0, Nat.zero_le _, rfl, rfl, Below.refl _ _⟩
  case round =>
    obtain ⟨k, hk, rfl, hok, hb⟩ := hrel
    have hbs := hb.size
    rw [← hb.cell (p := ⟨g, _, none⟩) hgl] at hg
    replace hgl : g < wr.heap.size := by omega
    by_cases hlt : k < xs.length
    · obtain ⟨b, off, rfl, hbb, _, h0, h1, h2, _⟩ := hr k hlt
      rw [← hb.cell (p := ⟨b, _, none⟩) hbb] at h0 h1 h2
      have hbb' : b < wr.heap.size := by omega
      have HC := Lib.hid (spec_l02Point_c xs[k])
      have kp : ∀ (g i : Nat) (u : Value), g < wr.heap.size → wr.cell? ⟨g, i, none⟩ = some u → (wr.drew.alloc (.cells #[.int .i64 xs[k].x, .int .i64 xs[k].y, .int .i64 xs[k].t] 110)).cell? ⟨g, i, none⟩ = some u := fun g i u hg hc => (World.cell?_alloc_past (w := wr.drew) _ _ _ hg).trans hc
      have al : Below w.heap.size w (wr.drew.alloc (.cells #[.int .i64 xs[k].x, .int .i64 xs[k].y, .int .i64 xs[k].t] 110)) := (hb.drew).alloc hbs _
      have k0 : (0 : Int) ≤ (k : Int) := by omega
      have kl' : (k : Int) < (xs.length : Int) := by omega
      cases hp : pointB xs[k]
      · have HF := Lib.hid (strokeB_false hlt (ptOk_bad hlt hp))
        simp only [hp] at HC
        clear hr hp
        go_wp2_with fail
        have hS : (fun w' => w'.cell? ⟨g, f, none⟩ = some (.slice (some ⟨b, off, none⟩) xs.length c) ∧ w'.cell? ⟨b, off + k * 3, none⟩ = some (.int .i64 xs[k].x) ∧ w'.cell? ⟨b, off + k * 3 + 1, none⟩ = some (.int .i64 xs[k].y) ∧ w'.cell? ⟨b, off + k * 3 + 2, none⟩ = some (.int .i64 xs[k].t)) wr.drew := ⟨hg, h0, h1, h2⟩
        dsimp only at hS
        refine wp_region_held_drew (S := (fun w' => w'.cell? ⟨g, f, none⟩ = some (.slice (some ⟨b, off, none⟩) xs.length c) ∧ w'.cell? ⟨b, off + k * 3, none⟩ = some (.int .i64 xs[k].x) ∧ w'.cell? ⟨b, off + k * 3 + 1, none⟩ = some (.int .i64 xs[k].y) ∧ w'.cell? ⟨b, off + k * 3 + 2, none⟩ = some (.int .i64 xs[k].t))) (by kernel_rfl) hS (fun _ => ?_)
        refine tk93_4 (i := 0) (oi := zo93_4_0) (v := ?_) rfl (by kernel_rfl) (fun _ _ _ h => h) (Or.inl ⟨rfl, ?_⟩) hS ?_
        rotate_left
        · (intro w' hS'; (try dsimp only at hS'); dsimp only [zo93_4_0]; go_simp; try with_reducible rfl)
        simp only [Act.put, pa93_4, pb93_4, pc93_4]
        refine tk93_4 (i := 1) (oi := zo93_4_1) (v := ?_) rfl (by kernel_rfl) (fun _ _ _ h => h) (Or.inl ⟨rfl, ?_⟩) hS ?_
        rotate_left
        · (intro w' hS'; (try dsimp only at hS'); dsimp only [zo93_4_1]; go_simp; try with_reducible rfl)
        simp only [Act.put, pa93_4, pb93_4, pc93_4]
        refine tk93_4 (i := 2) (oi := zo93_4_2) (v := ?_) rfl (by kernel_rfl) (fun _ _ _ h => h) (Or.inl ⟨rfl, ?_⟩) hS ?_
        rotate_left
        · (intro w' hS'; (try dsimp only at hS'); dsimp only [zo93_4_2]; go_simp; try with_reducible rfl)
        simp only [Act.put, pa93_4, pb93_4, pc93_4]
        refine tk93_4 (i := 3) (oi := zo93_4_3) (v := ?_) rfl (by kernel_rfl) (fun _ _ _ h => h) (Or.inl ⟨rfl, ?_⟩) hS ?_
        rotate_left
        · (intro w' hS'; (try dsimp only at hS'); dsimp only [zo93_4_3]; go_simp; try with_reducible rfl)
        simp only [Act.put, pa93_4, pb93_4, pc93_4]
        refine tk93_4 (i := 4) (oi := zo93_4_4) (v := ?_) rfl (by kernel_rfl) (fun _ _ _ h => h) (Or.inl ⟨rfl, ?_⟩) hS ?_
        rotate_left
        · (intro w' hS'; (try dsimp only at hS'); dsimp only [zo93_4_4]; go_simp; try with_reducible rfl)
        simp only [Act.put, pa93_4, pb93_4, pc93_4]
        refine tk93_4 (i := 5) (oi := zo93_4_5) (v := ?_) rfl (by kernel_rfl) (fun _ _ _ h => h) (Or.inl ⟨rfl, ?_⟩) hS ?_
        rotate_left
        · (intro w' hS'; (try dsimp only at hS'); dsimp only [zo93_4_5]; go_simp; try with_reducible rfl)
        simp only [Act.put, pa93_4, pb93_4, pc93_4]
        refine tk93_4 (i := 6) (oi := zo93_4_6) (v := ?_) rfl (by kernel_rfl) (fun _ _ _ h => h) (Or.inl ⟨rfl, ?_⟩) hS ?_
        rotate_left
        · (intro w' hS'; (try dsimp only at hS'); dsimp only [zo93_4_6]; go_simp; try with_reducible rfl)
        simp only [Act.put, pa93_4, pb93_4, pc93_4]
        refine wpAnyH_ready (rs := [7]) (by kernel_rfl) (by simp) ?_
        refine AllReadyH.cons (o := zo93_4_7) rfl (fun K hK => ?_) .nil
        refine step_call 166 #[.tmp 19] _ rfl rfl #[.agg #[.int .i64 xs[k].x, .int .i64 xs[k].y, .int .i64 xs[k].t]] Tryz.call166 (by go_simp) (HC.out _) ?_
        rintro e w1 ⟨rfl, rfl⟩
        refine ⟨_, rfl, ?_⟩
        replace hS : (fun w' => w'.cell? ⟨g, f, none⟩ = some (.slice (some ⟨b, off, none⟩) xs.length c) ∧ w'.cell? ⟨b, off + k * 3, none⟩ = some (.int .i64 xs[k].x) ∧ w'.cell? ⟨b, off + k * 3 + 1, none⟩ = some (.int .i64 xs[k].y) ∧ w'.cell? ⟨b, off + k * 3 + 2, none⟩ = some (.int .i64 xs[k].t)) (wr.drew.alloc (.cells #[.int .i64 xs[k].x, .int .i64 xs[k].y, .int .i64 xs[k].t] 110)) := ⟨kp _ _ _ hgl hg, kp _ _ _ hbb' h0, kp _ _ _ hbb' h1, kp _ _ _ hbb' h2⟩
        dsimp only at hS
        refine hK.out _ _ ?_ (fun hHeld => ?_)
        · exact hS
        clear hK K hHeld
        simp only [Act.put, pa93_4, pb93_4, pc93_4]
        refine tk93_4 (i := 8) (oi := zo93_4_8) (v := ?_) rfl (by kernel_rfl) (fun _ _ _ h => h) (Or.inl ⟨rfl, ?_⟩) hS ?_
        rotate_left
        · (intro w' hS'; (try dsimp only at hS'); dsimp only [zo93_4_8]; go_simp; try with_reducible rfl)
        simp only [Act.put, pa93_4, pb93_4, pc93_4]
        refine tk93_4 (i := 9) (oi := zo93_4_9) (v := ?_) rfl (by kernel_rfl) (fun _ _ _ h => h) (Or.inl ⟨rfl, ?_⟩) hS ?_
        rotate_left
        · (intro w' hS'; (try dsimp only at hS'); dsimp only [zo93_4_9]; go_simp; try with_reducible rfl)
        simp only [Act.put, pa93_4, pb93_4, pc93_4]
        refine tk93_4 (i := 10) (oi := zo93_4_10) rfl (by kernel_rfl) (fun _ _ _ h => h) (Or.inr ⟨rfl, rfl⟩) hS ?_
        simp only [Act.put, pa93_4, pb93_4, pc93_4]
        refine tk93_4 (i := 11) (oi := zo93_4_11) rfl (by kernel_rfl) (fun _ _ _ h => h) (Or.inr ⟨rfl, rfl⟩) hS ?_
        simp only [Act.put, pa93_4, pb93_4, pc93_4]
        refine tk93_4 (i := 12) (oi := zo93_4_12) rfl (by kernel_rfl) (fun _ _ _ h => h) (Or.inr ⟨rfl, rfl⟩) hS ?_
        simp only [Act.put, pa93_4, pb93_4, pc93_4]
        refine tk93_4 (i := 13) (oi := zo93_4_13) rfl (by kernel_rfl) (fun _ _ _ h => h) (Or.inr ⟨rfl, rfl⟩) hS ?_
        simp only [Act.put, pa93_4, pb93_4, pc93_4]
        refine tk93_4 (i := 14) (oi := zo93_4_14) rfl (by kernel_rfl) (fun _ _ _ h => h) (Or.inr ⟨rfl, rfl⟩) hS ?_
        simp only [Act.put, pa93_4, pb93_4, pc93_4]
        refine tk93_4 (i := 15) (oi := zo93_4_15) rfl (by kernel_rfl) (fun _ _ _ h => h) (Or.inr ⟨rfl, rfl⟩) hS ?_
        simp only [Act.put, pa93_4, pb93_4, pc93_4]
        refine tk93_4 (i := 16) (oi := zo93_4_16) rfl (by kernel_rfl) (fun _ _ _ h => h) (Or.inr ⟨rfl, rfl⟩) hS ?_
        simp only [Act.put, pa93_4, pb93_4, pc93_4]
        refine tk93_4 (i := 17) (oi := zo93_4_17) rfl (by kernel_rfl) (fun _ _ _ h => h) (Or.inr ⟨rfl, rfl⟩) hS ?_
        simp only [Act.put, pa93_4, pb93_4, pc93_4]
        refine tk93_4 (i := 18) (oi := zo93_4_18) rfl (by kernel_rfl) (fun _ _ _ h => h) (Or.inr ⟨rfl, rfl⟩) hS ?_
        simp only [Act.put, pa93_4, pb93_4, pc93_4]
        refine tk93_4 (i := 19) (oi := zo93_4_19) rfl (by kernel_rfl) (fun _ _ _ h => h) (Or.inr ⟨rfl, rfl⟩) hS ?_
        simp only [Act.put, pa93_4, pb93_4, pc93_4]
        refine tk93_4 (i := 20) (oi := zo93_4_20) rfl (by kernel_rfl) (fun _ _ _ h => h) (Or.inr ⟨rfl, rfl⟩) hS ?_
        simp only [Act.put, pa93_4, pb93_4, pc93_4]
        refine tk93_4 (i := 21) (oi := zo93_4_21) rfl (by kernel_rfl) (fun _ _ _ h => h) (Or.inr ⟨rfl, rfl⟩) hS ?_
        simp only [Act.put, pa93_4, pb93_4, pc93_4]
        refine tk93_4 (i := 22) (oi := zo93_4_22) rfl (by kernel_rfl) (fun _ _ _ h => h) (Or.inr ⟨rfl, rfl⟩) hS ?_
        simp only [Act.put, pa93_4, pb93_4, pc93_4]
        refine tk93_4 (i := 23) (oi := zo93_4_23) rfl (by kernel_rfl) (fun _ _ _ h => h) (Or.inr ⟨rfl, rfl⟩) hS ?_
        simp only [Act.put, pa93_4, pb93_4, pc93_4]
        refine tk93_4 (i := 24) (oi := zo93_4_24) rfl (by kernel_rfl) (fun _ _ _ h => h) (Or.inr ⟨rfl, rfl⟩) hS ?_
        simp only [Act.put, pa93_4, pb93_4, pc93_4]
        refine tk93_4 (i := 25) (oi := zo93_4_25) rfl (by kernel_rfl) (fun _ _ _ h => h) (Or.inr ⟨rfl, rfl⟩) hS ?_
        simp only [Act.put, pa93_4, pb93_4, pc93_4]
        refine tk93_4 (i := 26) (oi := zo93_4_26) rfl (by kernel_rfl) (fun _ _ _ h => h) (Or.inr ⟨rfl, rfl⟩) hS ?_
        simp only [Act.put, pa93_4, pb93_4, pc93_4]
        refine tk93_4 (i := 27) (oi := zo93_4_27) rfl (by kernel_rfl) (fun _ _ _ h => h) (Or.inr ⟨rfl, rfl⟩) hS ?_
        simp only [Act.put, pa93_4, pb93_4, pc93_4]
        refine tk93_4 (i := 28) (oi := zo93_4_28) rfl (by kernel_rfl) (fun _ _ _ h => h) (Or.inr ⟨rfl, rfl⟩) hS ?_
        simp only [Act.put, pa93_4, pb93_4, pc93_4]
        refine tk93_4 (i := 29) (oi := zo93_4_29) rfl (by kernel_rfl) (fun _ _ _ h => h) (Or.inr ⟨rfl, rfl⟩) hS ?_
        simp only [Act.put, pa93_4, pb93_4, pc93_4]
        refine tk93_4 (i := 30) (oi := zo93_4_30) rfl (by kernel_rfl) (fun _ _ _ h => h) (Or.inr ⟨rfl, rfl⟩) hS ?_
        simp only [Act.put, pa93_4, pb93_4, pc93_4]
        refine tk93_4 (i := 31) (oi := zo93_4_31) rfl (by kernel_rfl) (fun _ _ _ h => h) (Or.inr ⟨rfl, rfl⟩) hS ?_
        simp only [Act.put, pa93_4, pb93_4, pc93_4]
        refine tk93_4 (i := 32) (oi := zo93_4_32) (v := ?_) rfl (by kernel_rfl) (fun _ _ _ h => h) (Or.inl ⟨rfl, ?_⟩) hS ?_
        rotate_left
        · (intro w' hS'; (try dsimp only at hS'); dsimp only [zo93_4_32]; go_simp; try with_reducible rfl)
        simp only [Act.put, pa93_4, pb93_4, pc93_4]
        refine wpAnyH_done (by kernel_rfl) ?_ _
        go_wp2_with fail
        go_ret
        exact ⟨ret_boolI HF.out.symm, al⟩
      · have HP := Lib.hid hp
        simp only [hp] at HC
        clear hp
        by_cases hz : k = 0
        · have HK : Hid (ptsOk xs (k + 1) = true) := by show _ = _; rw [ptsOk, hok.out, ptOk_step hlt HP.out (.inl hz)]; rfl
          have g0 : (0 < k) = False := eq_false (by omega)
          clear hr hz
          go_wp2_with fail
          have hS : (fun w' => w'.cell? ⟨g, f, none⟩ = some (.slice (some ⟨b, off, none⟩) xs.length c) ∧ w'.cell? ⟨b, off + k * 3, none⟩ = some (.int .i64 xs[k].x) ∧ w'.cell? ⟨b, off + k * 3 + 1, none⟩ = some (.int .i64 xs[k].y) ∧ w'.cell? ⟨b, off + k * 3 + 2, none⟩ = some (.int .i64 xs[k].t)) wr.drew := ⟨hg, h0, h1, h2⟩
          dsimp only at hS
          refine wp_region_held_drew (S := (fun w' => w'.cell? ⟨g, f, none⟩ = some (.slice (some ⟨b, off, none⟩) xs.length c) ∧ w'.cell? ⟨b, off + k * 3, none⟩ = some (.int .i64 xs[k].x) ∧ w'.cell? ⟨b, off + k * 3 + 1, none⟩ = some (.int .i64 xs[k].y) ∧ w'.cell? ⟨b, off + k * 3 + 2, none⟩ = some (.int .i64 xs[k].t))) (by kernel_rfl) hS (fun _ => ?_)
          refine tk93_4 (i := 0) (oi := zo93_4_0) (v := ?_) rfl (by kernel_rfl) (fun _ _ _ h => h) (Or.inl ⟨rfl, ?_⟩) hS ?_
          rotate_left
          · (intro w' hS'; (try dsimp only at hS'); dsimp only [zo93_4_0]; go_simp; try with_reducible rfl)
          simp only [Act.put, pa93_4, pb93_4, pc93_4]
          refine tk93_4 (i := 1) (oi := zo93_4_1) (v := ?_) rfl (by kernel_rfl) (fun _ _ _ h => h) (Or.inl ⟨rfl, ?_⟩) hS ?_
          rotate_left
          · (intro w' hS'; (try dsimp only at hS'); dsimp only [zo93_4_1]; go_simp; try with_reducible rfl)
          simp only [Act.put, pa93_4, pb93_4, pc93_4]
          refine tk93_4 (i := 2) (oi := zo93_4_2) (v := ?_) rfl (by kernel_rfl) (fun _ _ _ h => h) (Or.inl ⟨rfl, ?_⟩) hS ?_
          rotate_left
          · (intro w' hS'; (try dsimp only at hS'); dsimp only [zo93_4_2]; go_simp; try with_reducible rfl)
          simp only [Act.put, pa93_4, pb93_4, pc93_4]
          refine tk93_4 (i := 3) (oi := zo93_4_3) (v := ?_) rfl (by kernel_rfl) (fun _ _ _ h => h) (Or.inl ⟨rfl, ?_⟩) hS ?_
          rotate_left
          · (intro w' hS'; (try dsimp only at hS'); dsimp only [zo93_4_3]; go_simp; try with_reducible rfl)
          simp only [Act.put, pa93_4, pb93_4, pc93_4]
          refine tk93_4 (i := 4) (oi := zo93_4_4) (v := ?_) rfl (by kernel_rfl) (fun _ _ _ h => h) (Or.inl ⟨rfl, ?_⟩) hS ?_
          rotate_left
          · (intro w' hS'; (try dsimp only at hS'); dsimp only [zo93_4_4]; go_simp; try with_reducible rfl)
          simp only [Act.put, pa93_4, pb93_4, pc93_4]
          refine tk93_4 (i := 5) (oi := zo93_4_5) (v := ?_) rfl (by kernel_rfl) (fun _ _ _ h => h) (Or.inl ⟨rfl, ?_⟩) hS ?_
          rotate_left
          · (intro w' hS'; (try dsimp only at hS'); dsimp only [zo93_4_5]; go_simp; try with_reducible rfl)
          simp only [Act.put, pa93_4, pb93_4, pc93_4]
          refine tk93_4 (i := 6) (oi := zo93_4_6) (v := ?_) rfl (by kernel_rfl) (fun _ _ _ h => h) (Or.inl ⟨rfl, ?_⟩) hS ?_
          rotate_left
          · (intro w' hS'; (try dsimp only at hS'); dsimp only [zo93_4_6]; go_simp; try with_reducible rfl)
          simp only [Act.put, pa93_4, pb93_4, pc93_4]
          refine wpAnyH_ready (rs := [7]) (by kernel_rfl) (by simp) ?_
          refine AllReadyH.cons (o := zo93_4_7) rfl (fun K hK => ?_) .nil
          refine step_call 166 #[.tmp 19] _ rfl rfl #[.agg #[.int .i64 xs[k].x, .int .i64 xs[k].y, .int .i64 xs[k].t]] Tryz.call166 (by go_simp) (HC.out _) ?_
          rintro e w1 ⟨rfl, rfl⟩
          refine ⟨_, rfl, ?_⟩
          replace hS : (fun w' => w'.cell? ⟨g, f, none⟩ = some (.slice (some ⟨b, off, none⟩) xs.length c) ∧ w'.cell? ⟨b, off + k * 3, none⟩ = some (.int .i64 xs[k].x) ∧ w'.cell? ⟨b, off + k * 3 + 1, none⟩ = some (.int .i64 xs[k].y) ∧ w'.cell? ⟨b, off + k * 3 + 2, none⟩ = some (.int .i64 xs[k].t)) (wr.drew.alloc (.cells #[.int .i64 xs[k].x, .int .i64 xs[k].y, .int .i64 xs[k].t] 110)) := ⟨kp _ _ _ hgl hg, kp _ _ _ hbb' h0, kp _ _ _ hbb' h1, kp _ _ _ hbb' h2⟩
          dsimp only at hS
          refine hK.out _ _ ?_ (fun hHeld => ?_)
          · exact hS
          clear hK K hHeld
          simp only [Act.put, pa93_4, pb93_4, pc93_4]
          refine tk93_4 (i := 8) (oi := zo93_4_8) (v := ?_) rfl (by kernel_rfl) (fun _ _ _ h => h) (Or.inl ⟨rfl, ?_⟩) hS ?_
          rotate_left
          · (intro w' hS'; (try dsimp only at hS'); dsimp only [zo93_4_8]; go_simp; try with_reducible rfl)
          simp only [Act.put, pa93_4, pb93_4, pc93_4]
          refine tk93_4 (i := 9) (oi := zo93_4_9) (v := ?_) rfl (by kernel_rfl) (fun _ _ _ h => h) (Or.inl ⟨rfl, ?_⟩) hS ?_
          rotate_left
          · (intro w' hS'; (try dsimp only at hS'); dsimp only [zo93_4_9]; go_simp; try with_reducible rfl)
          simp only [Act.put, pa93_4, pb93_4, pc93_4]
          refine tk93_4 (i := 10) (oi := zo93_4_10) (v := ?_) rfl (by kernel_rfl) (fun _ _ _ h => h) (Or.inl ⟨rfl, ?_⟩) hS ?_
          rotate_left
          · (intro w' hS'; (try dsimp only at hS'); dsimp only [zo93_4_10]; go_simp; try with_reducible rfl)
          simp only [Act.put, pa93_4, pb93_4, pc93_4]
          refine tk93_4 (i := 11) (oi := zo93_4_11) (v := ?_) rfl (by kernel_rfl) (fun _ _ _ h => h) (Or.inl ⟨rfl, ?_⟩) hS ?_
          rotate_left
          · (intro w' hS'; (try dsimp only at hS'); dsimp only [zo93_4_11]; go_simp; try with_reducible rfl)
          simp only [Act.put, pa93_4, pb93_4, pc93_4]
          refine tk93_4 (i := 12) (oi := zo93_4_12) (v := ?_) rfl (by kernel_rfl) (fun _ _ _ h => h) (Or.inl ⟨rfl, ?_⟩) hS ?_
          rotate_left
          · (intro w' hS'; (try dsimp only at hS'); dsimp only [zo93_4_12]; go_simp; try with_reducible rfl)
          simp only [Act.put, pa93_4, pb93_4, pc93_4]
          refine tk93_4 (i := 13) (oi := zo93_4_13) rfl (by kernel_rfl) (fun _ _ _ h => h) (Or.inr ⟨rfl, rfl⟩) hS ?_
          simp only [Act.put, pa93_4, pb93_4, pc93_4]
          refine tk93_4 (i := 14) (oi := zo93_4_14) rfl (by kernel_rfl) (fun _ _ _ h => h) (Or.inr ⟨rfl, rfl⟩) hS ?_
          simp only [Act.put, pa93_4, pb93_4, pc93_4]
          refine tk93_4 (i := 15) (oi := zo93_4_15) rfl (by kernel_rfl) (fun _ _ _ h => h) (Or.inr ⟨rfl, rfl⟩) hS ?_
          simp only [Act.put, pa93_4, pb93_4, pc93_4]
          refine tk93_4 (i := 16) (oi := zo93_4_16) rfl (by kernel_rfl) (fun _ _ _ h => h) (Or.inr ⟨rfl, rfl⟩) hS ?_
          simp only [Act.put, pa93_4, pb93_4, pc93_4]
          refine tk93_4 (i := 17) (oi := zo93_4_17) rfl (by kernel_rfl) (fun _ _ _ h => h) (Or.inr ⟨rfl, rfl⟩) hS ?_
          simp only [Act.put, pa93_4, pb93_4, pc93_4]
          refine tk93_4 (i := 18) (oi := zo93_4_18) rfl (by kernel_rfl) (fun _ _ _ h => h) (Or.inr ⟨rfl, rfl⟩) hS ?_
          simp only [Act.put, pa93_4, pb93_4, pc93_4]
          refine tk93_4 (i := 19) (oi := zo93_4_19) rfl (by kernel_rfl) (fun _ _ _ h => h) (Or.inr ⟨rfl, rfl⟩) hS ?_
          simp only [Act.put, pa93_4, pb93_4, pc93_4]
          refine tk93_4 (i := 20) (oi := zo93_4_20) rfl (by kernel_rfl) (fun _ _ _ h => h) (Or.inr ⟨rfl, rfl⟩) hS ?_
          simp only [Act.put, pa93_4, pb93_4, pc93_4]
          refine tk93_4 (i := 21) (oi := zo93_4_21) rfl (by kernel_rfl) (fun _ _ _ h => h) (Or.inr ⟨rfl, rfl⟩) hS ?_
          simp only [Act.put, pa93_4, pb93_4, pc93_4]
          refine tk93_4 (i := 22) (oi := zo93_4_22) rfl (by kernel_rfl) (fun _ _ _ h => h) (Or.inr ⟨rfl, rfl⟩) hS ?_
          simp only [Act.put, pa93_4, pb93_4, pc93_4]
          refine tk93_4 (i := 23) (oi := zo93_4_23) rfl (by kernel_rfl) (fun _ _ _ h => h) (Or.inr ⟨rfl, rfl⟩) hS ?_
          simp only [Act.put, pa93_4, pb93_4, pc93_4]
          refine tk93_4 (i := 24) (oi := zo93_4_24) rfl (by kernel_rfl) (fun _ _ _ h => h) (Or.inr ⟨rfl, rfl⟩) hS ?_
          simp only [Act.put, pa93_4, pb93_4, pc93_4]
          refine tk93_4 (i := 25) (oi := zo93_4_25) rfl (by kernel_rfl) (fun _ _ _ h => h) (Or.inr ⟨rfl, rfl⟩) hS ?_
          simp only [Act.put, pa93_4, pb93_4, pc93_4]
          refine tk93_4 (i := 26) (oi := zo93_4_26) rfl (by kernel_rfl) (fun _ _ _ h => h) (Or.inr ⟨rfl, rfl⟩) hS ?_
          simp only [Act.put, pa93_4, pb93_4, pc93_4]
          refine tk93_4 (i := 27) (oi := zo93_4_27) rfl (by kernel_rfl) (fun _ _ _ h => h) (Or.inr ⟨rfl, rfl⟩) hS ?_
          simp only [Act.put, pa93_4, pb93_4, pc93_4]
          refine tk93_4 (i := 28) (oi := zo93_4_28) rfl (by kernel_rfl) (fun _ _ _ h => h) (Or.inr ⟨rfl, rfl⟩) hS ?_
          simp only [Act.put, pa93_4, pb93_4, pc93_4]
          refine tk93_4 (i := 29) (oi := zo93_4_29) rfl (by kernel_rfl) (fun _ _ _ h => h) (Or.inr ⟨rfl, rfl⟩) hS ?_
          simp only [Act.put, pa93_4, pb93_4, pc93_4]
          refine tk93_4 (i := 30) (oi := zo93_4_30) rfl (by kernel_rfl) (fun _ _ _ h => h) (Or.inr ⟨rfl, rfl⟩) hS ?_
          simp only [Act.put, pa93_4, pb93_4, pc93_4]
          refine tk93_4 (i := 31) (oi := zo93_4_31) (v := ?_) rfl (by kernel_rfl) (fun _ _ _ h => h) (Or.inl ⟨rfl, ?_⟩) hS ?_
          rotate_left
          · (intro w' hS'; (try dsimp only at hS'); dsimp only [zo93_4_31]; go_simp; try with_reducible rfl)
          simp only [Act.put, pa93_4, pb93_4, pc93_4]
          refine tk93_4 (i := 32) (oi := zo93_4_32) (v := ?_) rfl (by kernel_rfl) (fun _ _ _ h => h) (Or.inl ⟨rfl, ?_⟩) hS ?_
          rotate_left
          · (intro w' hS'; (try dsimp only at hS'); dsimp only [zo93_4_32]; go_simp; try with_reducible rfl)
          simp only [Act.put, pa93_4, pb93_4, pc93_4]
          refine wpAnyH_done (by kernel_rfl) ?_ _
          go_wp2_with fail
          go_roundw
          case rel => exact ⟨k + 1, by omega, by go_num, HK, al⟩
          case measure => simp [intOf]; omega
        · obtain ⟨j, hj⟩ : ∃ j, k = j + 1 := ⟨k - 1, by omega⟩
          have jl : j < xs.length := by omega
          obtain ⟨b', off', e', hb3, _, _, _, h3, _⟩ := hr j jl
          injection e' with e'
          injection e' with e1 e2 _
          subst e1; subst e2
          rw [← hb.cell (p := ⟨b, _, none⟩) hb3] at h3
          have g0 : (0 < k) = True := eq_true (by omega)
          have gj : IntKind.i64.wrap ((k : Int) - 1) = (j : Int) := (IntWalk.i64_in _ (by omega)).trans (by omega)
          have jl' : (j : Int) < (xs.length : Int) := by omega
          have j0 : (0 : Int) ≤ (j : Int) := by omega
          clear hr
          by_cases ht : xs[k].t ≤ xs[j].t
          · have HF : Hid (strokeB xs = false) := strokeB_false hlt (by subst hj; exact ptOk_late hlt ht)
            have gt : (xs[k].t ≤ xs[j].t) = True := eq_true ht
            have HJ := Lib.hid hj
            clear hj ht hz
            go_wp2_with fail
            have hS : (fun w' => w'.cell? ⟨g, f, none⟩ = some (.slice (some ⟨b, off, none⟩) xs.length c) ∧ w'.cell? ⟨b, off + k * 3, none⟩ = some (.int .i64 xs[k].x) ∧ w'.cell? ⟨b, off + k * 3 + 1, none⟩ = some (.int .i64 xs[k].y) ∧ w'.cell? ⟨b, off + k * 3 + 2, none⟩ = some (.int .i64 xs[k].t) ∧ w'.cell? ⟨b, off + j * 3 + 2, none⟩ = some (.int .i64 xs[j].t)) wr.drew := ⟨hg, h0, h1, h2, h3⟩
            dsimp only at hS
            refine wp_region_held_drew (S := (fun w' => w'.cell? ⟨g, f, none⟩ = some (.slice (some ⟨b, off, none⟩) xs.length c) ∧ w'.cell? ⟨b, off + k * 3, none⟩ = some (.int .i64 xs[k].x) ∧ w'.cell? ⟨b, off + k * 3 + 1, none⟩ = some (.int .i64 xs[k].y) ∧ w'.cell? ⟨b, off + k * 3 + 2, none⟩ = some (.int .i64 xs[k].t) ∧ w'.cell? ⟨b, off + j * 3 + 2, none⟩ = some (.int .i64 xs[j].t))) (by kernel_rfl) hS (fun _ => ?_)
            refine tk93_4 (i := 0) (oi := zo93_4_0) (v := ?_) rfl (by kernel_rfl) (fun _ _ _ h => h) (Or.inl ⟨rfl, ?_⟩) hS ?_
            rotate_left
            · (intro w' hS'; (try dsimp only at hS'); dsimp only [zo93_4_0]; go_simp; try with_reducible rfl)
            simp only [Act.put, pa93_4, pb93_4, pc93_4]
            refine tk93_4 (i := 1) (oi := zo93_4_1) (v := ?_) rfl (by kernel_rfl) (fun _ _ _ h => h) (Or.inl ⟨rfl, ?_⟩) hS ?_
            rotate_left
            · (intro w' hS'; (try dsimp only at hS'); dsimp only [zo93_4_1]; go_simp; try with_reducible rfl)
            simp only [Act.put, pa93_4, pb93_4, pc93_4]
            refine tk93_4 (i := 2) (oi := zo93_4_2) (v := ?_) rfl (by kernel_rfl) (fun _ _ _ h => h) (Or.inl ⟨rfl, ?_⟩) hS ?_
            rotate_left
            · (intro w' hS'; (try dsimp only at hS'); dsimp only [zo93_4_2]; go_simp; try with_reducible rfl)
            simp only [Act.put, pa93_4, pb93_4, pc93_4]
            refine tk93_4 (i := 3) (oi := zo93_4_3) (v := ?_) rfl (by kernel_rfl) (fun _ _ _ h => h) (Or.inl ⟨rfl, ?_⟩) hS ?_
            rotate_left
            · (intro w' hS'; (try dsimp only at hS'); dsimp only [zo93_4_3]; go_simp; try with_reducible rfl)
            simp only [Act.put, pa93_4, pb93_4, pc93_4]
            refine tk93_4 (i := 4) (oi := zo93_4_4) (v := ?_) rfl (by kernel_rfl) (fun _ _ _ h => h) (Or.inl ⟨rfl, ?_⟩) hS ?_
            rotate_left
            · (intro w' hS'; (try dsimp only at hS'); dsimp only [zo93_4_4]; go_simp; try with_reducible rfl)
            simp only [Act.put, pa93_4, pb93_4, pc93_4]
            refine tk93_4 (i := 5) (oi := zo93_4_5) (v := ?_) rfl (by kernel_rfl) (fun _ _ _ h => h) (Or.inl ⟨rfl, ?_⟩) hS ?_
            rotate_left
            · (intro w' hS'; (try dsimp only at hS'); dsimp only [zo93_4_5]; go_simp; try with_reducible rfl)
            simp only [Act.put, pa93_4, pb93_4, pc93_4]
            refine tk93_4 (i := 6) (oi := zo93_4_6) (v := ?_) rfl (by kernel_rfl) (fun _ _ _ h => h) (Or.inl ⟨rfl, ?_⟩) hS ?_
            rotate_left
            · (intro w' hS'; (try dsimp only at hS'); dsimp only [zo93_4_6]; go_simp; try with_reducible rfl)
            simp only [Act.put, pa93_4, pb93_4, pc93_4]
            refine wpAnyH_ready (rs := [7]) (by kernel_rfl) (by simp) ?_
            refine AllReadyH.cons (o := zo93_4_7) rfl (fun K hK => ?_) .nil
            refine step_call 166 #[.tmp 19] _ rfl rfl #[.agg #[.int .i64 xs[k].x, .int .i64 xs[k].y, .int .i64 xs[k].t]] Tryz.call166 (by go_simp) (HC.out _) ?_
            rintro e w1 ⟨rfl, rfl⟩
            refine ⟨_, rfl, ?_⟩
            replace hS : (fun w' => w'.cell? ⟨g, f, none⟩ = some (.slice (some ⟨b, off, none⟩) xs.length c) ∧ w'.cell? ⟨b, off + k * 3, none⟩ = some (.int .i64 xs[k].x) ∧ w'.cell? ⟨b, off + k * 3 + 1, none⟩ = some (.int .i64 xs[k].y) ∧ w'.cell? ⟨b, off + k * 3 + 2, none⟩ = some (.int .i64 xs[k].t) ∧ w'.cell? ⟨b, off + j * 3 + 2, none⟩ = some (.int .i64 xs[j].t)) (wr.drew.alloc (.cells #[.int .i64 xs[k].x, .int .i64 xs[k].y, .int .i64 xs[k].t] 110)) := ⟨kp _ _ _ hgl hg, kp _ _ _ hbb' h0, kp _ _ _ hbb' h1, kp _ _ _ hbb' h2, kp _ _ _ hbb' h3⟩
            dsimp only at hS
            refine hK.out _ _ ?_ (fun hHeld => ?_)
            · exact hS
            clear hK K hHeld
            simp only [Act.put, pa93_4, pb93_4, pc93_4]
            refine tk93_4 (i := 8) (oi := zo93_4_8) (v := ?_) rfl (by kernel_rfl) (fun _ _ _ h => h) (Or.inl ⟨rfl, ?_⟩) hS ?_
            rotate_left
            · (intro w' hS'; (try dsimp only at hS'); dsimp only [zo93_4_8]; go_simp; try with_reducible rfl)
            simp only [Act.put, pa93_4, pb93_4, pc93_4]
            refine tk93_4 (i := 9) (oi := zo93_4_9) (v := ?_) rfl (by kernel_rfl) (fun _ _ _ h => h) (Or.inl ⟨rfl, ?_⟩) hS ?_
            rotate_left
            · (intro w' hS'; (try dsimp only at hS'); dsimp only [zo93_4_9]; go_simp; try with_reducible rfl)
            simp only [Act.put, pa93_4, pb93_4, pc93_4]
            refine tk93_4 (i := 10) (oi := zo93_4_10) (v := ?_) rfl (by kernel_rfl) (fun _ _ _ h => h) (Or.inl ⟨rfl, ?_⟩) hS ?_
            rotate_left
            · (intro w' hS'; (try dsimp only at hS'); dsimp only [zo93_4_10]; go_simp; try with_reducible rfl)
            simp only [Act.put, pa93_4, pb93_4, pc93_4]
            refine tk93_4 (i := 11) (oi := zo93_4_11) (v := ?_) rfl (by kernel_rfl) (fun _ _ _ h => h) (Or.inl ⟨rfl, ?_⟩) hS ?_
            rotate_left
            · (intro w' hS'; (try dsimp only at hS'); dsimp only [zo93_4_11]; go_simp; try with_reducible rfl)
            simp only [Act.put, pa93_4, pb93_4, pc93_4]
            refine tk93_4 (i := 12) (oi := zo93_4_12) (v := ?_) rfl (by kernel_rfl) (fun _ _ _ h => h) (Or.inl ⟨rfl, ?_⟩) hS ?_
            rotate_left
            · (intro w' hS'; (try dsimp only at hS'); dsimp only [zo93_4_12]; go_simp; try with_reducible rfl)
            simp only [Act.put, pa93_4, pb93_4, pc93_4]
            refine tk93_4 (i := 13) (oi := zo93_4_13) (v := ?_) rfl (by kernel_rfl) (fun _ _ _ h => h) (Or.inl ⟨rfl, ?_⟩) hS ?_
            rotate_left
            · (intro w' hS'; (try dsimp only at hS'); dsimp only [zo93_4_13]; go_simp; try with_reducible rfl)
            simp only [Act.put, pa93_4, pb93_4, pc93_4]
            refine tk93_4 (i := 14) (oi := zo93_4_14) (v := ?_) rfl (by kernel_rfl) (fun _ _ _ h => h) (Or.inl ⟨rfl, ?_⟩) hS ?_
            rotate_left
            · (intro w' hS'; (try dsimp only at hS'); dsimp only [zo93_4_14]; go_simp; try with_reducible rfl)
            simp only [Act.put, pa93_4, pb93_4, pc93_4]
            refine tk93_4 (i := 15) (oi := zo93_4_15) (v := ?_) rfl (by kernel_rfl) (fun _ _ _ h => h) (Or.inl ⟨rfl, ?_⟩) hS ?_
            rotate_left
            · (intro w' hS'; (try dsimp only at hS'); dsimp only [zo93_4_15]; go_simp; try with_reducible rfl)
            simp only [Act.put, pa93_4, pb93_4, pc93_4]
            refine tk93_4 (i := 16) (oi := zo93_4_16) (v := ?_) rfl (by kernel_rfl) (fun _ _ _ h => h) (Or.inl ⟨rfl, ?_⟩) hS ?_
            rotate_left
            · (intro w' hS'; (try dsimp only at hS'); dsimp only [zo93_4_16]; go_simp; try with_reducible rfl)
            simp only [Act.put, pa93_4, pb93_4, pc93_4]
            refine tk93_4 (i := 17) (oi := zo93_4_17) (v := ?_) rfl (by kernel_rfl) (fun _ _ _ h => h) (Or.inl ⟨rfl, ?_⟩) hS ?_
            rotate_left
            · (intro w' hS'; (try dsimp only at hS'); dsimp only [zo93_4_17]; go_simp; try with_reducible rfl)
            simp only [Act.put, pa93_4, pb93_4, pc93_4]
            refine tk93_4 (i := 18) (oi := zo93_4_18) (v := ?_) rfl (by kernel_rfl) (fun _ _ _ h => h) (Or.inl ⟨rfl, ?_⟩) hS ?_
            rotate_left
            · (intro w' hS'; (try dsimp only at hS'); dsimp only [zo93_4_18]; go_simp; try with_reducible rfl)
            simp only [Act.put, pa93_4, pb93_4, pc93_4]
            refine tk93_4 (i := 19) (oi := zo93_4_19) (v := ?_) rfl (by kernel_rfl) (fun _ _ _ h => h) (Or.inl ⟨rfl, ?_⟩) hS ?_
            rotate_left
            · (intro w' hS'; (try dsimp only at hS'); dsimp only [zo93_4_19]; go_simp; try with_reducible rfl)
            simp only [Act.put, pa93_4, pb93_4, pc93_4]
            refine tk93_4 (i := 20) (oi := zo93_4_20) (v := ?_) rfl (by kernel_rfl) (fun _ _ _ h => h) (Or.inl ⟨rfl, ?_⟩) hS ?_
            rotate_left
            · (intro w' hS'; (try dsimp only at hS'); dsimp only [zo93_4_20]; go_simp; try with_reducible rfl)
            simp only [Act.put, pa93_4, pb93_4, pc93_4]
            refine tk93_4 (i := 21) (oi := zo93_4_21) (v := ?_) rfl (by kernel_rfl) (fun _ _ _ h => h) (Or.inl ⟨rfl, ?_⟩) hS ?_
            rotate_left
            · (intro w' hS'; (try dsimp only at hS'); dsimp only [zo93_4_21]; go_simp; try with_reducible rfl)
            simp only [Act.put, pa93_4, pb93_4, pc93_4]
            refine tk93_4 (i := 22) (oi := zo93_4_22) (v := ?_) rfl (by kernel_rfl) (fun _ _ _ h => h) (Or.inl ⟨rfl, ?_⟩) hS ?_
            rotate_left
            · (intro w' hS'; (try dsimp only at hS'); dsimp only [zo93_4_22]; go_simp; try with_reducible rfl)
            simp only [Act.put, pa93_4, pb93_4, pc93_4]
            refine tk93_4 (i := 23) (oi := zo93_4_23) (v := ?_) rfl (by kernel_rfl) (fun _ _ _ h => h) (Or.inl ⟨rfl, ?_⟩) hS ?_
            rotate_left
            · (intro w' hS'; (try dsimp only at hS'); dsimp only [zo93_4_23]; go_simp; try with_reducible rfl)
            simp only [Act.put, pa93_4, pb93_4, pc93_4]
            refine tk93_4 (i := 24) (oi := zo93_4_24) (v := ?_) rfl (by kernel_rfl) (fun _ _ _ h => h) (Or.inl ⟨rfl, ?_⟩) hS ?_
            rotate_left
            · (intro w' hS'; (try dsimp only at hS'); dsimp only [zo93_4_24]; go_simp; try with_reducible rfl)
            simp only [Act.put, pa93_4, pb93_4, pc93_4]
            refine tk93_4 (i := 25) (oi := zo93_4_25) (v := ?_) rfl (by kernel_rfl) (fun _ _ _ h => h) (Or.inl ⟨rfl, ?_⟩) hS ?_
            rotate_left
            · (intro w' hS'; (try dsimp only at hS'); dsimp only [zo93_4_25]; go_simp; try with_reducible rfl)
            simp only [Act.put, pa93_4, pb93_4, pc93_4]
            refine tk93_4 (i := 26) (oi := zo93_4_26) (v := ?_) rfl (by kernel_rfl) (fun _ _ _ h => h) (Or.inl ⟨rfl, ?_⟩) hS ?_
            rotate_left
            · (intro w' hS'; (try dsimp only at hS'); dsimp only [zo93_4_26]; go_simp; try with_reducible rfl)
            simp only [Act.put, pa93_4, pb93_4, pc93_4]
            refine tk93_4 (i := 27) (oi := zo93_4_27) (v := ?_) rfl (by kernel_rfl) (fun _ _ _ h => h) (Or.inl ⟨rfl, ?_⟩) hS ?_
            rotate_left
            · (intro w' hS'; (try dsimp only at hS'); dsimp only [zo93_4_27]; go_simp; try with_reducible rfl)
            simp only [Act.put, pa93_4, pb93_4, pc93_4]
            refine tk93_4 (i := 28) (oi := zo93_4_28) (v := ?_) rfl (by kernel_rfl) (fun _ _ _ h => h) (Or.inl ⟨rfl, ?_⟩) hS ?_
            rotate_left
            · (intro w' hS'; (try dsimp only at hS'); dsimp only [zo93_4_28]; go_simp; try with_reducible rfl)
            simp only [Act.put, pa93_4, pb93_4, pc93_4]
            refine tk93_4 (i := 29) (oi := zo93_4_29) (v := ?_) rfl (by kernel_rfl) (fun _ _ _ h => h) (Or.inl ⟨rfl, ?_⟩) hS ?_
            rotate_left
            · (intro w' hS'; (try dsimp only at hS'); dsimp only [zo93_4_29]; go_simp; try with_reducible rfl)
            simp only [Act.put, pa93_4, pb93_4, pc93_4]
            refine tk93_4 (i := 30) (oi := zo93_4_30) (v := ?_) rfl (by kernel_rfl) (fun _ _ _ h => h) (Or.inl ⟨rfl, ?_⟩) hS ?_
            rotate_left
            · (intro w' hS'; (try dsimp only at hS'); dsimp only [zo93_4_30]; go_simp; try with_reducible rfl)
            simp only [Act.put, pa93_4, pb93_4, pc93_4]
            refine tk93_4 (i := 31) (oi := zo93_4_31) (v := ?_) rfl (by kernel_rfl) (fun _ _ _ h => h) (Or.inl ⟨rfl, ?_⟩) hS ?_
            rotate_left
            · (intro w' hS'; (try dsimp only at hS'); dsimp only [zo93_4_31]; go_simp; try with_reducible rfl)
            simp only [Act.put, pa93_4, pb93_4, pc93_4]
            refine tk93_4 (i := 32) (oi := zo93_4_32) (v := ?_) rfl (by kernel_rfl) (fun _ _ _ h => h) (Or.inl ⟨rfl, ?_⟩) hS ?_
            rotate_left
            · (intro w' hS'; (try dsimp only at hS'); dsimp only [zo93_4_32]; go_simp; try with_reducible rfl)
            simp only [Act.put, pa93_4, pb93_4, pc93_4]
            refine wpAnyH_done (by kernel_rfl) ?_ _
            go_wp2_with fail
            go_ret
            exact ⟨ret_boolI HF.out.symm, al⟩
          · have HK : Hid (ptsOk xs (k + 1) = true) := by
              show _ = _
              rw [ptsOk, hok.out, ptOk_step hlt HP.out (.inr ⟨j, hj, fun _ => by omega⟩)]; rfl
            have gt : (xs[k].t ≤ xs[j].t) = False := eq_false ht
            have HJ := Lib.hid hj
            clear hj ht hz
            go_wp2_with fail
            have hS : (fun w' => w'.cell? ⟨g, f, none⟩ = some (.slice (some ⟨b, off, none⟩) xs.length c) ∧ w'.cell? ⟨b, off + k * 3, none⟩ = some (.int .i64 xs[k].x) ∧ w'.cell? ⟨b, off + k * 3 + 1, none⟩ = some (.int .i64 xs[k].y) ∧ w'.cell? ⟨b, off + k * 3 + 2, none⟩ = some (.int .i64 xs[k].t) ∧ w'.cell? ⟨b, off + j * 3 + 2, none⟩ = some (.int .i64 xs[j].t)) wr.drew := ⟨hg, h0, h1, h2, h3⟩
            dsimp only at hS
            refine wp_region_held_drew (S := (fun w' => w'.cell? ⟨g, f, none⟩ = some (.slice (some ⟨b, off, none⟩) xs.length c) ∧ w'.cell? ⟨b, off + k * 3, none⟩ = some (.int .i64 xs[k].x) ∧ w'.cell? ⟨b, off + k * 3 + 1, none⟩ = some (.int .i64 xs[k].y) ∧ w'.cell? ⟨b, off + k * 3 + 2, none⟩ = some (.int .i64 xs[k].t) ∧ w'.cell? ⟨b, off + j * 3 + 2, none⟩ = some (.int .i64 xs[j].t))) (by kernel_rfl) hS (fun _ => ?_)
            refine tk93_4 (i := 0) (oi := zo93_4_0) (v := ?_) rfl (by kernel_rfl) (fun _ _ _ h => h) (Or.inl ⟨rfl, ?_⟩) hS ?_
            rotate_left
            · (intro w' hS'; (try dsimp only at hS'); dsimp only [zo93_4_0]; go_simp; try with_reducible rfl)
            simp only [Act.put, pa93_4, pb93_4, pc93_4]
            refine tk93_4 (i := 1) (oi := zo93_4_1) (v := ?_) rfl (by kernel_rfl) (fun _ _ _ h => h) (Or.inl ⟨rfl, ?_⟩) hS ?_
            rotate_left
            · (intro w' hS'; (try dsimp only at hS'); dsimp only [zo93_4_1]; go_simp; try with_reducible rfl)
            simp only [Act.put, pa93_4, pb93_4, pc93_4]
            refine tk93_4 (i := 2) (oi := zo93_4_2) (v := ?_) rfl (by kernel_rfl) (fun _ _ _ h => h) (Or.inl ⟨rfl, ?_⟩) hS ?_
            rotate_left
            · (intro w' hS'; (try dsimp only at hS'); dsimp only [zo93_4_2]; go_simp; try with_reducible rfl)
            simp only [Act.put, pa93_4, pb93_4, pc93_4]
            refine tk93_4 (i := 3) (oi := zo93_4_3) (v := ?_) rfl (by kernel_rfl) (fun _ _ _ h => h) (Or.inl ⟨rfl, ?_⟩) hS ?_
            rotate_left
            · (intro w' hS'; (try dsimp only at hS'); dsimp only [zo93_4_3]; go_simp; try with_reducible rfl)
            simp only [Act.put, pa93_4, pb93_4, pc93_4]
            refine tk93_4 (i := 4) (oi := zo93_4_4) (v := ?_) rfl (by kernel_rfl) (fun _ _ _ h => h) (Or.inl ⟨rfl, ?_⟩) hS ?_
            rotate_left
            · (intro w' hS'; (try dsimp only at hS'); dsimp only [zo93_4_4]; go_simp; try with_reducible rfl)
            simp only [Act.put, pa93_4, pb93_4, pc93_4]
            refine tk93_4 (i := 5) (oi := zo93_4_5) (v := ?_) rfl (by kernel_rfl) (fun _ _ _ h => h) (Or.inl ⟨rfl, ?_⟩) hS ?_
            rotate_left
            · (intro w' hS'; (try dsimp only at hS'); dsimp only [zo93_4_5]; go_simp; try with_reducible rfl)
            simp only [Act.put, pa93_4, pb93_4, pc93_4]
            refine tk93_4 (i := 6) (oi := zo93_4_6) (v := ?_) rfl (by kernel_rfl) (fun _ _ _ h => h) (Or.inl ⟨rfl, ?_⟩) hS ?_
            rotate_left
            · (intro w' hS'; (try dsimp only at hS'); dsimp only [zo93_4_6]; go_simp; try with_reducible rfl)
            simp only [Act.put, pa93_4, pb93_4, pc93_4]
            refine wpAnyH_ready (rs := [7]) (by kernel_rfl) (by simp) ?_
            refine AllReadyH.cons (o := zo93_4_7) rfl (fun K hK => ?_) .nil
            refine step_call 166 #[.tmp 19] _ rfl rfl #[.agg #[.int .i64 xs[k].x, .int .i64 xs[k].y, .int .i64 xs[k].t]] Tryz.call166 (by go_simp) (HC.out _) ?_
            rintro e w1 ⟨rfl, rfl⟩
            refine ⟨_, rfl, ?_⟩
            replace hS : (fun w' => w'.cell? ⟨g, f, none⟩ = some (.slice (some ⟨b, off, none⟩) xs.length c) ∧ w'.cell? ⟨b, off + k * 3, none⟩ = some (.int .i64 xs[k].x) ∧ w'.cell? ⟨b, off + k * 3 + 1, none⟩ = some (.int .i64 xs[k].y) ∧ w'.cell? ⟨b, off + k * 3 + 2, none⟩ = some (.int .i64 xs[k].t) ∧ w'.cell? ⟨b, off + j * 3 + 2, none⟩ = some (.int .i64 xs[j].t)) (wr.drew.alloc (.cells #[.int .i64 xs[k].x, .int .i64 xs[k].y, .int .i64 xs[k].t] 110)) := ⟨kp _ _ _ hgl hg, kp _ _ _ hbb' h0, kp _ _ _ hbb' h1, kp _ _ _ hbb' h2, kp _ _ _ hbb' h3⟩
            dsimp only at hS
            refine hK.out _ _ ?_ (fun hHeld => ?_)
            · exact hS
            clear hK K hHeld
            simp only [Act.put, pa93_4, pb93_4, pc93_4]
            refine tk93_4 (i := 8) (oi := zo93_4_8) (v := ?_) rfl (by kernel_rfl) (fun _ _ _ h => h) (Or.inl ⟨rfl, ?_⟩) hS ?_
            rotate_left
            · (intro w' hS'; (try dsimp only at hS'); dsimp only [zo93_4_8]; go_simp; try with_reducible rfl)
            simp only [Act.put, pa93_4, pb93_4, pc93_4]
            refine tk93_4 (i := 9) (oi := zo93_4_9) (v := ?_) rfl (by kernel_rfl) (fun _ _ _ h => h) (Or.inl ⟨rfl, ?_⟩) hS ?_
            rotate_left
            · (intro w' hS'; (try dsimp only at hS'); dsimp only [zo93_4_9]; go_simp; try with_reducible rfl)
            simp only [Act.put, pa93_4, pb93_4, pc93_4]
            refine tk93_4 (i := 10) (oi := zo93_4_10) (v := ?_) rfl (by kernel_rfl) (fun _ _ _ h => h) (Or.inl ⟨rfl, ?_⟩) hS ?_
            rotate_left
            · (intro w' hS'; (try dsimp only at hS'); dsimp only [zo93_4_10]; go_simp; try with_reducible rfl)
            simp only [Act.put, pa93_4, pb93_4, pc93_4]
            refine tk93_4 (i := 11) (oi := zo93_4_11) (v := ?_) rfl (by kernel_rfl) (fun _ _ _ h => h) (Or.inl ⟨rfl, ?_⟩) hS ?_
            rotate_left
            · (intro w' hS'; (try dsimp only at hS'); dsimp only [zo93_4_11]; go_simp; try with_reducible rfl)
            simp only [Act.put, pa93_4, pb93_4, pc93_4]
            refine tk93_4 (i := 12) (oi := zo93_4_12) (v := ?_) rfl (by kernel_rfl) (fun _ _ _ h => h) (Or.inl ⟨rfl, ?_⟩) hS ?_
            rotate_left
            · (intro w' hS'; (try dsimp only at hS'); dsimp only [zo93_4_12]; go_simp; try with_reducible rfl)
            simp only [Act.put, pa93_4, pb93_4, pc93_4]
            refine tk93_4 (i := 13) (oi := zo93_4_13) (v := ?_) rfl (by kernel_rfl) (fun _ _ _ h => h) (Or.inl ⟨rfl, ?_⟩) hS ?_
            rotate_left
            · (intro w' hS'; (try dsimp only at hS'); dsimp only [zo93_4_13]; go_simp; try with_reducible rfl)
            simp only [Act.put, pa93_4, pb93_4, pc93_4]
            refine tk93_4 (i := 14) (oi := zo93_4_14) (v := ?_) rfl (by kernel_rfl) (fun _ _ _ h => h) (Or.inl ⟨rfl, ?_⟩) hS ?_
            rotate_left
            · (intro w' hS'; (try dsimp only at hS'); dsimp only [zo93_4_14]; go_simp; try with_reducible rfl)
            simp only [Act.put, pa93_4, pb93_4, pc93_4]
            refine tk93_4 (i := 15) (oi := zo93_4_15) (v := ?_) rfl (by kernel_rfl) (fun _ _ _ h => h) (Or.inl ⟨rfl, ?_⟩) hS ?_
            rotate_left
            · (intro w' hS'; (try dsimp only at hS'); dsimp only [zo93_4_15]; go_simp; try with_reducible rfl)
            simp only [Act.put, pa93_4, pb93_4, pc93_4]
            refine tk93_4 (i := 16) (oi := zo93_4_16) (v := ?_) rfl (by kernel_rfl) (fun _ _ _ h => h) (Or.inl ⟨rfl, ?_⟩) hS ?_
            rotate_left
            · (intro w' hS'; (try dsimp only at hS'); dsimp only [zo93_4_16]; go_simp; try with_reducible rfl)
            simp only [Act.put, pa93_4, pb93_4, pc93_4]
            refine tk93_4 (i := 17) (oi := zo93_4_17) (v := ?_) rfl (by kernel_rfl) (fun _ _ _ h => h) (Or.inl ⟨rfl, ?_⟩) hS ?_
            rotate_left
            · (intro w' hS'; (try dsimp only at hS'); dsimp only [zo93_4_17]; go_simp; try with_reducible rfl)
            simp only [Act.put, pa93_4, pb93_4, pc93_4]
            refine tk93_4 (i := 18) (oi := zo93_4_18) (v := ?_) rfl (by kernel_rfl) (fun _ _ _ h => h) (Or.inl ⟨rfl, ?_⟩) hS ?_
            rotate_left
            · (intro w' hS'; (try dsimp only at hS'); dsimp only [zo93_4_18]; go_simp; try with_reducible rfl)
            simp only [Act.put, pa93_4, pb93_4, pc93_4]
            refine tk93_4 (i := 19) (oi := zo93_4_19) (v := ?_) rfl (by kernel_rfl) (fun _ _ _ h => h) (Or.inl ⟨rfl, ?_⟩) hS ?_
            rotate_left
            · (intro w' hS'; (try dsimp only at hS'); dsimp only [zo93_4_19]; go_simp; try with_reducible rfl)
            simp only [Act.put, pa93_4, pb93_4, pc93_4]
            refine tk93_4 (i := 20) (oi := zo93_4_20) (v := ?_) rfl (by kernel_rfl) (fun _ _ _ h => h) (Or.inl ⟨rfl, ?_⟩) hS ?_
            rotate_left
            · (intro w' hS'; (try dsimp only at hS'); dsimp only [zo93_4_20]; go_simp; try with_reducible rfl)
            simp only [Act.put, pa93_4, pb93_4, pc93_4]
            refine tk93_4 (i := 21) (oi := zo93_4_21) (v := ?_) rfl (by kernel_rfl) (fun _ _ _ h => h) (Or.inl ⟨rfl, ?_⟩) hS ?_
            rotate_left
            · (intro w' hS'; (try dsimp only at hS'); dsimp only [zo93_4_21]; go_simp; try with_reducible rfl)
            simp only [Act.put, pa93_4, pb93_4, pc93_4]
            refine tk93_4 (i := 22) (oi := zo93_4_22) (v := ?_) rfl (by kernel_rfl) (fun _ _ _ h => h) (Or.inl ⟨rfl, ?_⟩) hS ?_
            rotate_left
            · (intro w' hS'; (try dsimp only at hS'); dsimp only [zo93_4_22]; go_simp; try with_reducible rfl)
            simp only [Act.put, pa93_4, pb93_4, pc93_4]
            refine tk93_4 (i := 23) (oi := zo93_4_23) (v := ?_) rfl (by kernel_rfl) (fun _ _ _ h => h) (Or.inl ⟨rfl, ?_⟩) hS ?_
            rotate_left
            · (intro w' hS'; (try dsimp only at hS'); dsimp only [zo93_4_23]; go_simp; try with_reducible rfl)
            simp only [Act.put, pa93_4, pb93_4, pc93_4]
            refine tk93_4 (i := 24) (oi := zo93_4_24) (v := ?_) rfl (by kernel_rfl) (fun _ _ _ h => h) (Or.inl ⟨rfl, ?_⟩) hS ?_
            rotate_left
            · (intro w' hS'; (try dsimp only at hS'); dsimp only [zo93_4_24]; go_simp; try with_reducible rfl)
            simp only [Act.put, pa93_4, pb93_4, pc93_4]
            refine tk93_4 (i := 25) (oi := zo93_4_25) (v := ?_) rfl (by kernel_rfl) (fun _ _ _ h => h) (Or.inl ⟨rfl, ?_⟩) hS ?_
            rotate_left
            · (intro w' hS'; (try dsimp only at hS'); dsimp only [zo93_4_25]; go_simp; try with_reducible rfl)
            simp only [Act.put, pa93_4, pb93_4, pc93_4]
            refine tk93_4 (i := 26) (oi := zo93_4_26) (v := ?_) rfl (by kernel_rfl) (fun _ _ _ h => h) (Or.inl ⟨rfl, ?_⟩) hS ?_
            rotate_left
            · (intro w' hS'; (try dsimp only at hS'); dsimp only [zo93_4_26]; go_simp; try with_reducible rfl)
            simp only [Act.put, pa93_4, pb93_4, pc93_4]
            refine tk93_4 (i := 27) (oi := zo93_4_27) (v := ?_) rfl (by kernel_rfl) (fun _ _ _ h => h) (Or.inl ⟨rfl, ?_⟩) hS ?_
            rotate_left
            · (intro w' hS'; (try dsimp only at hS'); dsimp only [zo93_4_27]; go_simp; try with_reducible rfl)
            simp only [Act.put, pa93_4, pb93_4, pc93_4]
            refine tk93_4 (i := 28) (oi := zo93_4_28) (v := ?_) rfl (by kernel_rfl) (fun _ _ _ h => h) (Or.inl ⟨rfl, ?_⟩) hS ?_
            rotate_left
            · (intro w' hS'; (try dsimp only at hS'); dsimp only [zo93_4_28]; go_simp; try with_reducible rfl)
            simp only [Act.put, pa93_4, pb93_4, pc93_4]
            refine tk93_4 (i := 29) (oi := zo93_4_29) (v := ?_) rfl (by kernel_rfl) (fun _ _ _ h => h) (Or.inl ⟨rfl, ?_⟩) hS ?_
            rotate_left
            · (intro w' hS'; (try dsimp only at hS'); dsimp only [zo93_4_29]; go_simp; try with_reducible rfl)
            simp only [Act.put, pa93_4, pb93_4, pc93_4]
            refine tk93_4 (i := 30) (oi := zo93_4_30) (v := ?_) rfl (by kernel_rfl) (fun _ _ _ h => h) (Or.inl ⟨rfl, ?_⟩) hS ?_
            rotate_left
            · (intro w' hS'; (try dsimp only at hS'); dsimp only [zo93_4_30]; go_simp; try with_reducible rfl)
            simp only [Act.put, pa93_4, pb93_4, pc93_4]
            refine tk93_4 (i := 31) (oi := zo93_4_31) (v := ?_) rfl (by kernel_rfl) (fun _ _ _ h => h) (Or.inl ⟨rfl, ?_⟩) hS ?_
            rotate_left
            · (intro w' hS'; (try dsimp only at hS'); dsimp only [zo93_4_31]; go_simp; try with_reducible rfl)
            simp only [Act.put, pa93_4, pb93_4, pc93_4]
            refine tk93_4 (i := 32) (oi := zo93_4_32) (v := ?_) rfl (by kernel_rfl) (fun _ _ _ h => h) (Or.inl ⟨rfl, ?_⟩) hS ?_
            rotate_left
            · (intro w' hS'; (try dsimp only at hS'); dsimp only [zo93_4_32]; go_simp; try with_reducible rfl)
            simp only [Act.put, pa93_4, pb93_4, pc93_4]
            refine wpAnyH_done (by kernel_rfl) ?_ _
            go_wp2_with fail
            go_roundw
            case rel => exact ⟨k + 1, by omega, by go_num, HK, al⟩
            case measure => simp [intOf]; omega
    · obtain rfl : k = xs.length := by omega
      clear hr
      have HV : Hid (inR (xs.length : Int) 1 60 = strokeB xs) := by
        show _ = _
        rw [strokeB, hok.out, inR, Bool.true_and]
        congr 1 <;> rw [decide_eq_decide] <;> omega
      have C := spec_inR_c (xs.length : Int) 1 60
      generalize inR (xs.length : Int) 1 60 = bb at C HV
      have HC := Lib.hid C
      clear C
      go_wp2_with fail
      refine (HC.out _).mono ?_
      rintro e w1 ⟨rfl, rfl⟩
      go_wp2_with fail
      go_ret
      exact ⟨ret_boolI HV.out, hb⟩
set_option maxRecDepth 100000 in
set_option maxHeartbeats 1000000 in
theorem spec_l02Last_c {o : Bool} {e : TypeId} {xs : PStroke} {v : Value} {F : List Nat} {g f : Nat} (w : World) (hg : w.cell? ⟨g, f, none⟩ = some v) (h : (pPoints e).rep o w xs [v] F) (h0 : 0 < xs.length) (hx : xs.length ≤ 1048576) :
    Calls Tryz.prog 94 #[.pointer (some ⟨g, f, none⟩)] w fun e w' => e = .returned (.int .i64 (lastT xs)) ∧ ∃ n, w' = w.drewN n := by
  obtain ⟨A, c, rfl, hc1, hc2, hr⟩ := pPoints_open h
  clear h
  obtain ⟨j, hj⟩ : ∃ j, xs.length = j + 1 := ⟨xs.length - 1, by omega⟩
  have jl : j < xs.length := by omega
  obtain ⟨b, off, rfl, hbb, _, c0, c1, c2, _⟩ := hr j jl
  have hl : lastT xs = xs[j].t := by
    unfold lastT
    rw [show xs.length - 1 = j by omega, pt_get jl]
  rw [hl]
  clear hr hl
  have gj : IntKind.i64.wrap ((xs.length : Int) - 1) = (j : Int) := (IntWalk.i64_in _ (by omega)).trans (by omega)
  have j0 : (0 : Int) ≤ (j : Int) := by omega
  have jl' : (j : Int) < (xs.length : Int) := by omega
  have HJ := Lib.hid hj
  clear hj
  go_enter Tryz.func94, Tryz.ntmps94
  go_wp2_with fail
  go_quiet (fail)
  go_wp2_with fail
  go_ret
  exact ⟨rfl, _, rfl⟩
end Go.Proofs.YtkkignkoneeieaaGreat

/- Ink: the reference's test of ink. Conditions: none. -/
namespace Go.Proofs.YtkkignkoneeieaaGreat
open Go Go.RowKit

set_option maxRecDepth 100000 in
set_option maxHeartbeats 1000000 in
theorem spec_l02Ok_c {o : Bool} {pe e : TypeId} {xs : List PStroke} {v : Value} {F : List Nat} {g f : Nat} (w : World) (hg : w.cell? ⟨g, f, none⟩ = some v) (hgl : g < w.heap.size) (h : (pStrokes pe e).rep o w xs [v] F) (hx : xs.length ≤ 1048576) (hxe : ∀ l ∈ xs, l.length ≤ 1048576) :
    Calls Tryz.prog 90 #[.pointer (some ⟨g, f, none⟩)] w fun e w' => e = .returned (.bool (inkB xs)) ∧ Below w.heap.size w w' := by
  obtain ⟨A, c, rfl, hc1, hc2, hr⟩ := pStrokes_open h
  clear h
  go_enter Tryz.func90, Tryz.ntmps90
  go_wp2_with fail
  go_loopw [3] (fun i wr => ∃ k : Nat, k ≤ xs.length ∧ i = .int .i64 k ∧ Hid (stsOk xs k = true) ∧ Below w.heap.size w wr) (fun i _ => xs.length - (intOf i).toNat)
  case atStart => exact ⟨0, Nat.zero_le _, rfl, rfl, Below.refl _ _⟩
  case round =>
    obtain ⟨k, hk, rfl, hok, hb⟩ := hrel
    have hbs := hb.size
    rw [← hb.cell (p := ⟨g, _, none⟩) hgl] at hg
    replace hgl : g < wr.heap.size := by omega
    by_cases hlt : k < xs.length
    · obtain ⟨b, off, u, Fk, rfl, hbb, _, hrk, _, h0⟩ := hr k hlt
      rw [← hb.cell (p := ⟨b, _, none⟩) hbb] at h0
      have hbb' : b < wr.heap.size := by omega
      have hle := hxe _ (List.getElem_mem hlt)
      have QK := (hrk.below hb).drew
      have HC := Lib.hid (spec_l02Stroke_c wr.drew h0 hbb' QK hle)
      have k0 : (0 : Int) ≤ (k : Int) := by omega
      have kl' : (k : Int) < (xs.length : Int) := by omega
      cases hp : strokeB xs[k]
      · have HF := Lib.hid (inkB_false hlt (stOk_bad hlt hp))
        simp only [hp] at HC
        obtain ⟨AK, ck, rfl⟩ := slice_len hrk
        clear hr hp hrk QK
        go_wp2_with fail
        have hS : (fun w' => w'.cell? ⟨g, f, none⟩ = some (.slice (some ⟨b, off, none⟩) xs.length c) ∧ w'.cell? ⟨b, off + k, none⟩ = some (.slice AK xs[k].length ck)) wr.drew := ⟨hg, h0⟩
        dsimp only at hS
        refine wp_region_held_drew (S := (fun w' => w'.cell? ⟨g, f, none⟩ = some (.slice (some ⟨b, off, none⟩) xs.length c) ∧ w'.cell? ⟨b, off + k, none⟩ = some (.slice AK xs[k].length ck))) (by kernel_rfl) hS (fun _ => ?_)
        refine tk93_4 (i := 0) (oi := zo90_4_0) (v := ?_) rfl (by kernel_rfl) (fun _ _ _ h => h) (Or.inl ⟨rfl, ?_⟩) hS ?_
        rotate_left
        · (intro w' hS'; (try dsimp only at hS'); dsimp only [zo90_4_0]; go_simp; try with_reducible rfl)
        simp only [Act.put, pa93_4, pb93_4, pc93_4]
        refine tk93_4 (i := 1) (oi := zo90_4_1) (v := ?_) rfl (by kernel_rfl) (fun _ _ _ h => h) (Or.inl ⟨rfl, ?_⟩) hS ?_
        rotate_left
        · (intro w' hS'; (try dsimp only at hS'); dsimp only [zo90_4_1]; go_simp; try with_reducible rfl)
        simp only [Act.put, pa93_4, pb93_4, pc93_4]
        refine tk93_4 (i := 2) (oi := zo90_4_2) (v := ?_) rfl (by kernel_rfl) (fun _ _ _ h => h) (Or.inl ⟨rfl, ?_⟩) hS ?_
        rotate_left
        · (intro w' hS'; (try dsimp only at hS'); dsimp only [zo90_4_2]; go_simp; try with_reducible rfl)
        simp only [Act.put, pa93_4, pb93_4, pc93_4]
        refine tk93_4 (i := 3) (oi := zo90_4_3) (v := ?_) rfl (by kernel_rfl) (fun _ _ _ h => h) (Or.inl ⟨rfl, ?_⟩) hS ?_
        rotate_left
        · (intro w' hS'; (try dsimp only at hS'); dsimp only [zo90_4_3]; go_simp; try with_reducible rfl)
        simp only [Act.put, pa93_4, pb93_4, pc93_4]
        refine tk93_4 (i := 4) (oi := zo90_4_4) (v := ?_) rfl (by kernel_rfl) (fun _ _ _ h => h) (Or.inl ⟨rfl, ?_⟩) hS ?_
        rotate_left
        · (intro w' hS'; (try dsimp only at hS'); dsimp only [zo90_4_4]; go_simp; try with_reducible rfl)
        simp only [Act.put, pa93_4, pb93_4, pc93_4]
        refine tk93_4 (i := 5) (oi := zo90_4_5) (v := ?_) rfl (by kernel_rfl) (fun _ _ _ h => h) (Or.inl ⟨rfl, ?_⟩) hS ?_
        rotate_left
        · (intro w' hS'; (try dsimp only at hS'); dsimp only [zo90_4_5]; go_simp; try with_reducible rfl)
        simp only [Act.put, pa93_4, pb93_4, pc93_4]
        refine wpAnyH_ready (rs := [6]) (by kernel_rfl) (by simp) ?_
        refine AllReadyH.cons (o := zo90_4_6) rfl (fun K hK => ?_) .nil
        refine step_call 93 #[.tmp 18] _ rfl rfl #[.pointer (some ⟨b, off + k, none⟩)] Tryz.call93 (by go_simp) HC.out ?_
        rintro e w1 ⟨rfl, bb1⟩
        refine ⟨_, rfl, ?_⟩
        replace hS : (fun w' => w'.cell? ⟨g, f, none⟩ = some (.slice (some ⟨b, off, none⟩) xs.length c) ∧ w'.cell? ⟨b, off + k, none⟩ = some (.slice AK xs[k].length ck)) w1 := ⟨keep_b (w2 := wr.drew) bb1 hgl hg, keep_b (w2 := wr.drew) bb1 hbb' h0⟩
        dsimp only at hS
        refine hK.out _ _ ?_ (fun hHeld => ?_)
        · exact hS
        clear hK K hHeld
        simp only [Act.put, pa93_4, pb93_4, pc93_4]
        refine tk93_4 (i := 7) (oi := zo90_4_7) (v := ?_) rfl (by kernel_rfl) (fun _ _ _ h => h) (Or.inl ⟨rfl, ?_⟩) hS ?_
        rotate_left
        · (intro w' hS'; (try dsimp only at hS'); dsimp only [zo90_4_7]; go_simp; try with_reducible rfl)
        simp only [Act.put, pa93_4, pb93_4, pc93_4]
        refine tk93_4 (i := 8) (oi := zo90_4_8) (v := ?_) rfl (by kernel_rfl) (fun _ _ _ h => h) (Or.inl ⟨rfl, ?_⟩) hS ?_
        rotate_left
        · (intro w' hS'; (try dsimp only at hS'); dsimp only [zo90_4_8]; go_simp; try with_reducible rfl)
        simp only [Act.put, pa93_4, pb93_4, pc93_4]
        refine tk93_4 (i := 9) (oi := zo90_4_9) rfl (by kernel_rfl) (fun _ _ _ h => h) (Or.inr ⟨rfl, rfl⟩) hS ?_
        simp only [Act.put, pa93_4, pb93_4, pc93_4]
        refine tk93_4 (i := 10) (oi := zo90_4_10) rfl (by kernel_rfl) (fun _ _ _ h => h) (Or.inr ⟨rfl, rfl⟩) hS ?_
        simp only [Act.put, pa93_4, pb93_4, pc93_4]
        refine tk93_4 (i := 11) (oi := zo90_4_11) rfl (by kernel_rfl) (fun _ _ _ h => h) (Or.inr ⟨rfl, rfl⟩) hS ?_
        simp only [Act.put, pa93_4, pb93_4, pc93_4]
        refine tk93_4 (i := 12) (oi := zo90_4_12) rfl (by kernel_rfl) (fun _ _ _ h => h) (Or.inr ⟨rfl, rfl⟩) hS ?_
        simp only [Act.put, pa93_4, pb93_4, pc93_4]
        refine tk93_4 (i := 13) (oi := zo90_4_13) rfl (by kernel_rfl) (fun _ _ _ h => h) (Or.inr ⟨rfl, rfl⟩) hS ?_
        simp only [Act.put, pa93_4, pb93_4, pc93_4]
        refine tk93_4 (i := 14) (oi := zo90_4_14) rfl (by kernel_rfl) (fun _ _ _ h => h) (Or.inr ⟨rfl, rfl⟩) hS ?_
        simp only [Act.put, pa93_4, pb93_4, pc93_4]
        refine tk93_4 (i := 15) (oi := zo90_4_15) rfl (by kernel_rfl) (fun _ _ _ h => h) (Or.inr ⟨rfl, rfl⟩) hS ?_
        simp only [Act.put, pa93_4, pb93_4, pc93_4]
        refine tk93_4 (i := 16) (oi := zo90_4_16) rfl (by kernel_rfl) (fun _ _ _ h => h) (Or.inr ⟨rfl, rfl⟩) hS ?_
        simp only [Act.put, pa93_4, pb93_4, pc93_4]
        refine tk93_4 (i := 17) (oi := zo90_4_17) rfl (by kernel_rfl) (fun _ _ _ h => h) (Or.inr ⟨rfl, rfl⟩) hS ?_
        simp only [Act.put, pa93_4, pb93_4, pc93_4]
        refine tk93_4 (i := 18) (oi := zo90_4_18) rfl (by kernel_rfl) (fun _ _ _ h => h) (Or.inr ⟨rfl, rfl⟩) hS ?_
        simp only [Act.put, pa93_4, pb93_4, pc93_4]
        refine tk93_4 (i := 19) (oi := zo90_4_19) rfl (by kernel_rfl) (fun _ _ _ h => h) (Or.inr ⟨rfl, rfl⟩) hS ?_
        simp only [Act.put, pa93_4, pb93_4, pc93_4]
        refine tk93_4 (i := 20) (oi := zo90_4_20) rfl (by kernel_rfl) (fun _ _ _ h => h) (Or.inr ⟨rfl, rfl⟩) hS ?_
        simp only [Act.put, pa93_4, pb93_4, pc93_4]
        refine tk93_4 (i := 21) (oi := zo90_4_21) rfl (by kernel_rfl) (fun _ _ _ h => h) (Or.inr ⟨rfl, rfl⟩) hS ?_
        simp only [Act.put, pa93_4, pb93_4, pc93_4]
        refine tk93_4 (i := 22) (oi := zo90_4_22) rfl (by kernel_rfl) (fun _ _ _ h => h) (Or.inr ⟨rfl, rfl⟩) hS ?_
        simp only [Act.put, pa93_4, pb93_4, pc93_4]
        refine tk93_4 (i := 23) (oi := zo90_4_23) rfl (by kernel_rfl) (fun _ _ _ h => h) (Or.inr ⟨rfl, rfl⟩) hS ?_
        simp only [Act.put, pa93_4, pb93_4, pc93_4]
        refine tk93_4 (i := 24) (oi := zo90_4_24) rfl (by kernel_rfl) (fun _ _ _ h => h) (Or.inr ⟨rfl, rfl⟩) hS ?_
        simp only [Act.put, pa93_4, pb93_4, pc93_4]
        refine tk93_4 (i := 25) (oi := zo90_4_25) rfl (by kernel_rfl) (fun _ _ _ h => h) (Or.inr ⟨rfl, rfl⟩) hS ?_
        simp only [Act.put, pa93_4, pb93_4, pc93_4]
        refine tk93_4 (i := 26) (oi := zo90_4_26) rfl (by kernel_rfl) (fun _ _ _ h => h) (Or.inr ⟨rfl, rfl⟩) hS ?_
        simp only [Act.put, pa93_4, pb93_4, pc93_4]
        refine tk93_4 (i := 27) (oi := zo90_4_27) rfl (by kernel_rfl) (fun _ _ _ h => h) (Or.inr ⟨rfl, rfl⟩) hS ?_
        simp only [Act.put, pa93_4, pb93_4, pc93_4]
        refine tk93_4 (i := 28) (oi := zo90_4_28) rfl (by kernel_rfl) (fun _ _ _ h => h) (Or.inr ⟨rfl, rfl⟩) hS ?_
        simp only [Act.put, pa93_4, pb93_4, pc93_4]
        refine tk93_4 (i := 29) (oi := zo90_4_29) rfl (by kernel_rfl) (fun _ _ _ h => h) (Or.inr ⟨rfl, rfl⟩) hS ?_
        simp only [Act.put, pa93_4, pb93_4, pc93_4]
        refine tk93_4 (i := 30) (oi := zo90_4_30) rfl (by kernel_rfl) (fun _ _ _ h => h) (Or.inr ⟨rfl, rfl⟩) hS ?_
        simp only [Act.put, pa93_4, pb93_4, pc93_4]
        refine tk93_4 (i := 31) (oi := zo90_4_31) rfl (by kernel_rfl) (fun _ _ _ h => h) (Or.inr ⟨rfl, rfl⟩) hS ?_
        simp only [Act.put, pa93_4, pb93_4, pc93_4]
        refine tk93_4 (i := 32) (oi := zo90_4_32) rfl (by kernel_rfl) (fun _ _ _ h => h) (Or.inr ⟨rfl, rfl⟩) hS ?_
        simp only [Act.put, pa93_4, pb93_4, pc93_4]
        refine tk93_4 (i := 33) (oi := zo90_4_33) (v := ?_) rfl (by kernel_rfl) (fun _ _ _ h => h) (Or.inl ⟨rfl, ?_⟩) hS ?_
        rotate_left
        · (intro w' hS'; (try dsimp only at hS'); dsimp only [zo90_4_33]; go_simp; try with_reducible rfl)
        simp only [Act.put, pa93_4, pb93_4, pc93_4]
        refine wpAnyH_done (by kernel_rfl) ?_ _
        go_wp2_with fail
        go_ret
        exact ⟨ret_boolI HF.out.symm, hb.drew.trans (bb1.mono hbs)⟩
      · have HP := Lib.hid hp
        simp only [hp] at HC
        by_cases hz : k = 0
        · have HK : Hid (stsOk xs (k + 1) = true) := by show _ = _; rw [stsOk, hok.out, stOk_step hlt HP.out (.inl hz)]; rfl
          have g0 : (0 < k) = False := eq_false (by omega)
          obtain ⟨AK, ck, rfl⟩ := slice_len hrk
          clear hr hz hp hrk QK
          go_wp2_with fail
          have hS : (fun w' => w'.cell? ⟨g, f, none⟩ = some (.slice (some ⟨b, off, none⟩) xs.length c) ∧ w'.cell? ⟨b, off + k, none⟩ = some (.slice AK xs[k].length ck)) wr.drew := ⟨hg, h0⟩
          dsimp only at hS
          refine wp_region_held_drew (S := (fun w' => w'.cell? ⟨g, f, none⟩ = some (.slice (some ⟨b, off, none⟩) xs.length c) ∧ w'.cell? ⟨b, off + k, none⟩ = some (.slice AK xs[k].length ck))) (by kernel_rfl) hS (fun _ => ?_)
          refine tk93_4 (i := 0) (oi := zo90_4_0) (v := ?_) rfl (by kernel_rfl) (fun _ _ _ h => h) (Or.inl ⟨rfl, ?_⟩) hS ?_
          rotate_left
          · (intro w' hS'; (try dsimp only at hS'); dsimp only [zo90_4_0]; go_simp; try with_reducible rfl)
          simp only [Act.put, pa93_4, pb93_4, pc93_4]
          refine tk93_4 (i := 1) (oi := zo90_4_1) (v := ?_) rfl (by kernel_rfl) (fun _ _ _ h => h) (Or.inl ⟨rfl, ?_⟩) hS ?_
          rotate_left
          · (intro w' hS'; (try dsimp only at hS'); dsimp only [zo90_4_1]; go_simp; try with_reducible rfl)
          simp only [Act.put, pa93_4, pb93_4, pc93_4]
          refine tk93_4 (i := 2) (oi := zo90_4_2) (v := ?_) rfl (by kernel_rfl) (fun _ _ _ h => h) (Or.inl ⟨rfl, ?_⟩) hS ?_
          rotate_left
          · (intro w' hS'; (try dsimp only at hS'); dsimp only [zo90_4_2]; go_simp; try with_reducible rfl)
          simp only [Act.put, pa93_4, pb93_4, pc93_4]
          refine tk93_4 (i := 3) (oi := zo90_4_3) (v := ?_) rfl (by kernel_rfl) (fun _ _ _ h => h) (Or.inl ⟨rfl, ?_⟩) hS ?_
          rotate_left
          · (intro w' hS'; (try dsimp only at hS'); dsimp only [zo90_4_3]; go_simp; try with_reducible rfl)
          simp only [Act.put, pa93_4, pb93_4, pc93_4]
          refine tk93_4 (i := 4) (oi := zo90_4_4) (v := ?_) rfl (by kernel_rfl) (fun _ _ _ h => h) (Or.inl ⟨rfl, ?_⟩) hS ?_
          rotate_left
          · (intro w' hS'; (try dsimp only at hS'); dsimp only [zo90_4_4]; go_simp; try with_reducible rfl)
          simp only [Act.put, pa93_4, pb93_4, pc93_4]
          refine tk93_4 (i := 5) (oi := zo90_4_5) (v := ?_) rfl (by kernel_rfl) (fun _ _ _ h => h) (Or.inl ⟨rfl, ?_⟩) hS ?_
          rotate_left
          · (intro w' hS'; (try dsimp only at hS'); dsimp only [zo90_4_5]; go_simp; try with_reducible rfl)
          simp only [Act.put, pa93_4, pb93_4, pc93_4]
          refine wpAnyH_ready (rs := [6]) (by kernel_rfl) (by simp) ?_
          refine AllReadyH.cons (o := zo90_4_6) rfl (fun K hK => ?_) .nil
          refine step_call 93 #[.tmp 18] _ rfl rfl #[.pointer (some ⟨b, off + k, none⟩)] Tryz.call93 (by go_simp) HC.out ?_
          rintro e w1 ⟨rfl, bb1⟩
          refine ⟨_, rfl, ?_⟩
          replace hS : (fun w' => w'.cell? ⟨g, f, none⟩ = some (.slice (some ⟨b, off, none⟩) xs.length c) ∧ w'.cell? ⟨b, off + k, none⟩ = some (.slice AK xs[k].length ck)) w1 := ⟨keep_b (w2 := wr.drew) bb1 hgl hg, keep_b (w2 := wr.drew) bb1 hbb' h0⟩
          dsimp only at hS
          refine hK.out _ _ ?_ (fun hHeld => ?_)
          · exact hS
          clear hK K hHeld
          simp only [Act.put, pa93_4, pb93_4, pc93_4]
          refine tk93_4 (i := 7) (oi := zo90_4_7) (v := ?_) rfl (by kernel_rfl) (fun _ _ _ h => h) (Or.inl ⟨rfl, ?_⟩) hS ?_
          rotate_left
          · (intro w' hS'; (try dsimp only at hS'); dsimp only [zo90_4_7]; go_simp; try with_reducible rfl)
          simp only [Act.put, pa93_4, pb93_4, pc93_4]
          refine tk93_4 (i := 8) (oi := zo90_4_8) (v := ?_) rfl (by kernel_rfl) (fun _ _ _ h => h) (Or.inl ⟨rfl, ?_⟩) hS ?_
          rotate_left
          · (intro w' hS'; (try dsimp only at hS'); dsimp only [zo90_4_8]; go_simp; try with_reducible rfl)
          simp only [Act.put, pa93_4, pb93_4, pc93_4]
          refine tk93_4 (i := 9) (oi := zo90_4_9) (v := ?_) rfl (by kernel_rfl) (fun _ _ _ h => h) (Or.inl ⟨rfl, ?_⟩) hS ?_
          rotate_left
          · (intro w' hS'; (try dsimp only at hS'); dsimp only [zo90_4_9]; go_simp; try with_reducible rfl)
          simp only [Act.put, pa93_4, pb93_4, pc93_4]
          refine tk93_4 (i := 10) (oi := zo90_4_10) (v := ?_) rfl (by kernel_rfl) (fun _ _ _ h => h) (Or.inl ⟨rfl, ?_⟩) hS ?_
          rotate_left
          · (intro w' hS'; (try dsimp only at hS'); dsimp only [zo90_4_10]; go_simp; try with_reducible rfl)
          simp only [Act.put, pa93_4, pb93_4, pc93_4]
          refine tk93_4 (i := 11) (oi := zo90_4_11) (v := ?_) rfl (by kernel_rfl) (fun _ _ _ h => h) (Or.inl ⟨rfl, ?_⟩) hS ?_
          rotate_left
          · (intro w' hS'; (try dsimp only at hS'); dsimp only [zo90_4_11]; go_simp; try with_reducible rfl)
          simp only [Act.put, pa93_4, pb93_4, pc93_4]
          refine tk93_4 (i := 12) (oi := zo90_4_12) rfl (by kernel_rfl) (fun _ _ _ h => h) (Or.inr ⟨rfl, rfl⟩) hS ?_
          simp only [Act.put, pa93_4, pb93_4, pc93_4]
          refine tk93_4 (i := 13) (oi := zo90_4_13) rfl (by kernel_rfl) (fun _ _ _ h => h) (Or.inr ⟨rfl, rfl⟩) hS ?_
          simp only [Act.put, pa93_4, pb93_4, pc93_4]
          refine tk93_4 (i := 14) (oi := zo90_4_14) rfl (by kernel_rfl) (fun _ _ _ h => h) (Or.inr ⟨rfl, rfl⟩) hS ?_
          simp only [Act.put, pa93_4, pb93_4, pc93_4]
          refine tk93_4 (i := 15) (oi := zo90_4_15) rfl (by kernel_rfl) (fun _ _ _ h => h) (Or.inr ⟨rfl, rfl⟩) hS ?_
          simp only [Act.put, pa93_4, pb93_4, pc93_4]
          refine tk93_4 (i := 16) (oi := zo90_4_16) rfl (by kernel_rfl) (fun _ _ _ h => h) (Or.inr ⟨rfl, rfl⟩) hS ?_
          simp only [Act.put, pa93_4, pb93_4, pc93_4]
          refine tk93_4 (i := 17) (oi := zo90_4_17) rfl (by kernel_rfl) (fun _ _ _ h => h) (Or.inr ⟨rfl, rfl⟩) hS ?_
          simp only [Act.put, pa93_4, pb93_4, pc93_4]
          refine tk93_4 (i := 18) (oi := zo90_4_18) rfl (by kernel_rfl) (fun _ _ _ h => h) (Or.inr ⟨rfl, rfl⟩) hS ?_
          simp only [Act.put, pa93_4, pb93_4, pc93_4]
          refine tk93_4 (i := 19) (oi := zo90_4_19) rfl (by kernel_rfl) (fun _ _ _ h => h) (Or.inr ⟨rfl, rfl⟩) hS ?_
          simp only [Act.put, pa93_4, pb93_4, pc93_4]
          refine tk93_4 (i := 20) (oi := zo90_4_20) rfl (by kernel_rfl) (fun _ _ _ h => h) (Or.inr ⟨rfl, rfl⟩) hS ?_
          simp only [Act.put, pa93_4, pb93_4, pc93_4]
          refine tk93_4 (i := 21) (oi := zo90_4_21) rfl (by kernel_rfl) (fun _ _ _ h => h) (Or.inr ⟨rfl, rfl⟩) hS ?_
          simp only [Act.put, pa93_4, pb93_4, pc93_4]
          refine tk93_4 (i := 22) (oi := zo90_4_22) rfl (by kernel_rfl) (fun _ _ _ h => h) (Or.inr ⟨rfl, rfl⟩) hS ?_
          simp only [Act.put, pa93_4, pb93_4, pc93_4]
          refine tk93_4 (i := 23) (oi := zo90_4_23) rfl (by kernel_rfl) (fun _ _ _ h => h) (Or.inr ⟨rfl, rfl⟩) hS ?_
          simp only [Act.put, pa93_4, pb93_4, pc93_4]
          refine tk93_4 (i := 24) (oi := zo90_4_24) rfl (by kernel_rfl) (fun _ _ _ h => h) (Or.inr ⟨rfl, rfl⟩) hS ?_
          simp only [Act.put, pa93_4, pb93_4, pc93_4]
          refine tk93_4 (i := 25) (oi := zo90_4_25) rfl (by kernel_rfl) (fun _ _ _ h => h) (Or.inr ⟨rfl, rfl⟩) hS ?_
          simp only [Act.put, pa93_4, pb93_4, pc93_4]
          refine tk93_4 (i := 26) (oi := zo90_4_26) rfl (by kernel_rfl) (fun _ _ _ h => h) (Or.inr ⟨rfl, rfl⟩) hS ?_
          simp only [Act.put, pa93_4, pb93_4, pc93_4]
          refine tk93_4 (i := 27) (oi := zo90_4_27) rfl (by kernel_rfl) (fun _ _ _ h => h) (Or.inr ⟨rfl, rfl⟩) hS ?_
          simp only [Act.put, pa93_4, pb93_4, pc93_4]
          refine tk93_4 (i := 28) (oi := zo90_4_28) rfl (by kernel_rfl) (fun _ _ _ h => h) (Or.inr ⟨rfl, rfl⟩) hS ?_
          simp only [Act.put, pa93_4, pb93_4, pc93_4]
          refine tk93_4 (i := 29) (oi := zo90_4_29) rfl (by kernel_rfl) (fun _ _ _ h => h) (Or.inr ⟨rfl, rfl⟩) hS ?_
          simp only [Act.put, pa93_4, pb93_4, pc93_4]
          refine tk93_4 (i := 30) (oi := zo90_4_30) rfl (by kernel_rfl) (fun _ _ _ h => h) (Or.inr ⟨rfl, rfl⟩) hS ?_
          simp only [Act.put, pa93_4, pb93_4, pc93_4]
          refine tk93_4 (i := 31) (oi := zo90_4_31) rfl (by kernel_rfl) (fun _ _ _ h => h) (Or.inr ⟨rfl, rfl⟩) hS ?_
          simp only [Act.put, pa93_4, pb93_4, pc93_4]
          refine tk93_4 (i := 32) (oi := zo90_4_32) (v := ?_) rfl (by kernel_rfl) (fun _ _ _ h => h) (Or.inl ⟨rfl, ?_⟩) hS ?_
          rotate_left
          · (intro w' hS'; (try dsimp only at hS'); dsimp only [zo90_4_32]; go_simp; try with_reducible rfl)
          simp only [Act.put, pa93_4, pb93_4, pc93_4]
          refine tk93_4 (i := 33) (oi := zo90_4_33) (v := ?_) rfl (by kernel_rfl) (fun _ _ _ h => h) (Or.inl ⟨rfl, ?_⟩) hS ?_
          rotate_left
          · (intro w' hS'; (try dsimp only at hS'); dsimp only [zo90_4_33]; go_simp; try with_reducible rfl)
          simp only [Act.put, pa93_4, pb93_4, pc93_4]
          refine wpAnyH_done (by kernel_rfl) ?_ _
          go_wp2_with fail
          go_roundw
          case rel => exact ⟨k + 1, by omega, by go_num, HK, hb.drew.trans (bb1.mono hbs)⟩
          case measure => simp [intOf]; omega
        · obtain ⟨j, hj⟩ : ∃ j, k = j + 1 := ⟨k - 1, by omega⟩
          have jl : j < xs.length := by omega
          obtain ⟨b', off', u', Fj, e', hb3, _, hrj, _, h3⟩ := hr j jl
          injection e' with e'
          injection e' with e1 e2 _
          subst e1; subst e2
          rw [← hb.cell (p := ⟨b, _, none⟩) hb3] at h3
          obtain ⟨Aj, cj, rfl⟩ := slice_len hrj
          have p1 := strokeB_pos hp
          have p2 := Lib.hid (strokeB_pos (stOk_stroke jl (stsOk_get hok.out (show j < k by omega))))
          have hlej := hxe _ (List.getElem_mem jl)
          have QJ := Lib.hid (hrj.below hb).drew
          have CL := Lib.hid (fun w2 (bb : Below wr.drew.heap.size wr.drew w2) (hc : w2.cell? ⟨b, off + j, none⟩ = some (.slice Aj xs[j].length cj)) => spec_l02Last_c w2 hc (QJ.out.below bb) p2.out hlej)
          obtain ⟨AK, ck, rfl, _, _, hr1⟩ := pPoints_open hrk
          obtain ⟨b1, o1, rfl, hb1, _, _, _, h4, _⟩ := hr1 0 p1
          rw [← hb.cell (p := ⟨b1, _, none⟩) hb1] at h4
          simp only [Nat.zero_mul, Nat.add_zero] at h4
          replace hb1 : b1 < wr.heap.size := by omega
          have eft : xs[k][0].t = firstT xs[k] := by unfold firstT; rw [pt_get p1]
          rw [eft] at h4
          have p1' : (0 : Int) < (xs[k].length : Int) := by omega
          have g0 : (0 < k) = True := eq_true (by omega)
          have gj : IntKind.i64.wrap ((k : Int) - 1) = (j : Int) := (IntWalk.i64_in _ (by omega)).trans (by omega)
          have jl' : (j : Int) < (xs.length : Int) := by omega
          have j0 : (0 : Int) ≤ (j : Int) := by omega
          have HT : firstT xs[k] ≤ lastT xs[j] → Hid (inkB xs = false) := fun ht => inkB_false hlt (by subst hj; exact stOk_late hlt ht)
          have HN : ¬ firstT xs[k] ≤ lastT xs[j] → Hid (stsOk xs (k + 1) = true) := fun ht => by
            show _ = _
            rw [stsOk, hok.out, stOk_step hlt HP.out (.inr ⟨j, hj, fun _ => by omega⟩)]; rfl
          clear eft
          generalize hft : firstT xs[k] = ft at h4 HT HN
          generalize hlt' : lastT xs[j] = ltt at CL HT HN
          have HT' := Lib.hid HT
          have HN' := Lib.hid HN
          have HJ := Lib.hid hj
          clear hr hj hz hp hrj hrk HT HN hft hlt' hr1 QK
          by_cases ht : ft ≤ ltt
          · have HF := HT'.out ht
            have gt : (ft ≤ ltt) = True := eq_true ht
            clear ht
            go_wp2_with fail
            have hS : (fun w' => w'.cell? ⟨g, f, none⟩ = some (.slice (some ⟨b, off, none⟩) xs.length c) ∧ w'.cell? ⟨b, off + k, none⟩ = some (.slice (some ⟨b1, o1, none⟩) xs[k].length ck) ∧ w'.cell? ⟨b, off + j, none⟩ = some (.slice Aj xs[j].length cj) ∧ w'.cell? ⟨b1, o1 + 2, none⟩ = some (.int .i64 ft)) wr.drew := ⟨hg, h0, h3, h4⟩
            dsimp only at hS
            refine wp_region_held_drew (S := (fun w' => w'.cell? ⟨g, f, none⟩ = some (.slice (some ⟨b, off, none⟩) xs.length c) ∧ w'.cell? ⟨b, off + k, none⟩ = some (.slice (some ⟨b1, o1, none⟩) xs[k].length ck) ∧ w'.cell? ⟨b, off + j, none⟩ = some (.slice Aj xs[j].length cj) ∧ w'.cell? ⟨b1, o1 + 2, none⟩ = some (.int .i64 ft))) (by kernel_rfl) hS (fun _ => ?_)
            refine tk93_4 (i := 0) (oi := zo90_4_0) (v := ?_) rfl (by kernel_rfl) (fun _ _ _ h => h) (Or.inl ⟨rfl, ?_⟩) hS ?_
            rotate_left
            · (intro w' hS'; (try dsimp only at hS'); dsimp only [zo90_4_0]; go_simp; try with_reducible rfl)
            simp only [Act.put, pa93_4, pb93_4, pc93_4]
            refine tk93_4 (i := 1) (oi := zo90_4_1) (v := ?_) rfl (by kernel_rfl) (fun _ _ _ h => h) (Or.inl ⟨rfl, ?_⟩) hS ?_
            rotate_left
            · (intro w' hS'; (try dsimp only at hS'); dsimp only [zo90_4_1]; go_simp; try with_reducible rfl)
            simp only [Act.put, pa93_4, pb93_4, pc93_4]
            refine tk93_4 (i := 2) (oi := zo90_4_2) (v := ?_) rfl (by kernel_rfl) (fun _ _ _ h => h) (Or.inl ⟨rfl, ?_⟩) hS ?_
            rotate_left
            · (intro w' hS'; (try dsimp only at hS'); dsimp only [zo90_4_2]; go_simp; try with_reducible rfl)
            simp only [Act.put, pa93_4, pb93_4, pc93_4]
            refine tk93_4 (i := 3) (oi := zo90_4_3) (v := ?_) rfl (by kernel_rfl) (fun _ _ _ h => h) (Or.inl ⟨rfl, ?_⟩) hS ?_
            rotate_left
            · (intro w' hS'; (try dsimp only at hS'); dsimp only [zo90_4_3]; go_simp; try with_reducible rfl)
            simp only [Act.put, pa93_4, pb93_4, pc93_4]
            refine tk93_4 (i := 4) (oi := zo90_4_4) (v := ?_) rfl (by kernel_rfl) (fun _ _ _ h => h) (Or.inl ⟨rfl, ?_⟩) hS ?_
            rotate_left
            · (intro w' hS'; (try dsimp only at hS'); dsimp only [zo90_4_4]; go_simp; try with_reducible rfl)
            simp only [Act.put, pa93_4, pb93_4, pc93_4]
            refine tk93_4 (i := 5) (oi := zo90_4_5) (v := ?_) rfl (by kernel_rfl) (fun _ _ _ h => h) (Or.inl ⟨rfl, ?_⟩) hS ?_
            rotate_left
            · (intro w' hS'; (try dsimp only at hS'); dsimp only [zo90_4_5]; go_simp; try with_reducible rfl)
            simp only [Act.put, pa93_4, pb93_4, pc93_4]
            refine wpAnyH_ready (rs := [6]) (by kernel_rfl) (by simp) ?_
            refine AllReadyH.cons (o := zo90_4_6) rfl (fun K hK => ?_) .nil
            refine step_call 93 #[.tmp 18] _ rfl rfl #[.pointer (some ⟨b, off + k, none⟩)] Tryz.call93 (by go_simp) HC.out ?_
            rintro e w1 ⟨rfl, bb1⟩
            refine ⟨_, rfl, ?_⟩
            replace hS : (fun w' => w'.cell? ⟨g, f, none⟩ = some (.slice (some ⟨b, off, none⟩) xs.length c) ∧ w'.cell? ⟨b, off + k, none⟩ = some (.slice (some ⟨b1, o1, none⟩) xs[k].length ck) ∧ w'.cell? ⟨b, off + j, none⟩ = some (.slice Aj xs[j].length cj) ∧ w'.cell? ⟨b1, o1 + 2, none⟩ = some (.int .i64 ft)) w1 := ⟨keep_b (w2 := wr.drew) bb1 hgl hg, keep_b (w2 := wr.drew) bb1 hbb' h0, keep_b (w2 := wr.drew) bb1 hbb' h3, keep_b (w2 := wr.drew) bb1 hb1 h4⟩
            dsimp only at hS
            refine hK.out _ _ ?_ (fun hHeld => ?_)
            · exact hS
            clear hK K hHeld
            simp only [Act.put, pa93_4, pb93_4, pc93_4]
            refine tk93_4 (i := 7) (oi := zo90_4_7) (v := ?_) rfl (by kernel_rfl) (fun _ _ _ h => h) (Or.inl ⟨rfl, ?_⟩) hS ?_
            rotate_left
            · (intro w' hS'; (try dsimp only at hS'); dsimp only [zo90_4_7]; go_simp; try with_reducible rfl)
            simp only [Act.put, pa93_4, pb93_4, pc93_4]
            refine tk93_4 (i := 8) (oi := zo90_4_8) (v := ?_) rfl (by kernel_rfl) (fun _ _ _ h => h) (Or.inl ⟨rfl, ?_⟩) hS ?_
            rotate_left
            · (intro w' hS'; (try dsimp only at hS'); dsimp only [zo90_4_8]; go_simp; try with_reducible rfl)
            simp only [Act.put, pa93_4, pb93_4, pc93_4]
            refine tk93_4 (i := 9) (oi := zo90_4_9) (v := ?_) rfl (by kernel_rfl) (fun _ _ _ h => h) (Or.inl ⟨rfl, ?_⟩) hS ?_
            rotate_left
            · (intro w' hS'; (try dsimp only at hS'); dsimp only [zo90_4_9]; go_simp; try with_reducible rfl)
            simp only [Act.put, pa93_4, pb93_4, pc93_4]
            refine tk93_4 (i := 10) (oi := zo90_4_10) (v := ?_) rfl (by kernel_rfl) (fun _ _ _ h => h) (Or.inl ⟨rfl, ?_⟩) hS ?_
            rotate_left
            · (intro w' hS'; (try dsimp only at hS'); dsimp only [zo90_4_10]; go_simp; try with_reducible rfl)
            simp only [Act.put, pa93_4, pb93_4, pc93_4]
            refine tk93_4 (i := 11) (oi := zo90_4_11) (v := ?_) rfl (by kernel_rfl) (fun _ _ _ h => h) (Or.inl ⟨rfl, ?_⟩) hS ?_
            rotate_left
            · (intro w' hS'; (try dsimp only at hS'); dsimp only [zo90_4_11]; go_simp; try with_reducible rfl)
            simp only [Act.put, pa93_4, pb93_4, pc93_4]
            refine tk93_4 (i := 12) (oi := zo90_4_12) (v := ?_) rfl (by kernel_rfl) (fun _ _ _ h => h) (Or.inl ⟨rfl, ?_⟩) hS ?_
            rotate_left
            · (intro w' hS'; (try dsimp only at hS'); dsimp only [zo90_4_12]; go_simp; try with_reducible rfl)
            simp only [Act.put, pa93_4, pb93_4, pc93_4]
            refine tk93_4 (i := 13) (oi := zo90_4_13) (v := ?_) rfl (by kernel_rfl) (fun _ _ _ h => h) (Or.inl ⟨rfl, ?_⟩) hS ?_
            rotate_left
            · (intro w' hS'; (try dsimp only at hS'); dsimp only [zo90_4_13]; go_simp; try with_reducible rfl)
            simp only [Act.put, pa93_4, pb93_4, pc93_4]
            refine tk93_4 (i := 14) (oi := zo90_4_14) (v := ?_) rfl (by kernel_rfl) (fun _ _ _ h => h) (Or.inl ⟨rfl, ?_⟩) hS ?_
            rotate_left
            · (intro w' hS'; (try dsimp only at hS'); dsimp only [zo90_4_14]; go_simp; try with_reducible rfl)
            simp only [Act.put, pa93_4, pb93_4, pc93_4]
            refine tk93_4 (i := 15) (oi := zo90_4_15) (v := ?_) rfl (by kernel_rfl) (fun _ _ _ h => h) (Or.inl ⟨rfl, ?_⟩) hS ?_
            rotate_left
            · (intro w' hS'; (try dsimp only at hS'); dsimp only [zo90_4_15]; go_simp; try with_reducible rfl)
            simp only [Act.put, pa93_4, pb93_4, pc93_4]
            refine tk93_4 (i := 16) (oi := zo90_4_16) (v := ?_) rfl (by kernel_rfl) (fun _ _ _ h => h) (Or.inl ⟨rfl, ?_⟩) hS ?_
            rotate_left
            · (intro w' hS'; (try dsimp only at hS'); dsimp only [zo90_4_16]; go_simp; try with_reducible rfl)
            simp only [Act.put, pa93_4, pb93_4, pc93_4]
            refine tk93_4 (i := 17) (oi := zo90_4_17) (v := ?_) rfl (by kernel_rfl) (fun _ _ _ h => h) (Or.inl ⟨rfl, ?_⟩) hS ?_
            rotate_left
            · (intro w' hS'; (try dsimp only at hS'); dsimp only [zo90_4_17]; go_simp; try with_reducible rfl)
            simp only [Act.put, pa93_4, pb93_4, pc93_4]
            refine tk93_4 (i := 18) (oi := zo90_4_18) (v := ?_) rfl (by kernel_rfl) (fun _ _ _ h => h) (Or.inl ⟨rfl, ?_⟩) hS ?_
            rotate_left
            · (intro w' hS'; (try dsimp only at hS'); dsimp only [zo90_4_18]; go_simp; try with_reducible rfl)
            simp only [Act.put, pa93_4, pb93_4, pc93_4]
            refine tk93_4 (i := 19) (oi := zo90_4_19) (v := ?_) rfl (by kernel_rfl) (fun _ _ _ h => h) (Or.inl ⟨rfl, ?_⟩) hS ?_
            rotate_left
            · (intro w' hS'; (try dsimp only at hS'); dsimp only [zo90_4_19]; go_simp; try with_reducible rfl)
            simp only [Act.put, pa93_4, pb93_4, pc93_4]
            refine tk93_4 (i := 20) (oi := zo90_4_20) (v := ?_) rfl (by kernel_rfl) (fun _ _ _ h => h) (Or.inl ⟨rfl, ?_⟩) hS ?_
            rotate_left
            · (intro w' hS'; (try dsimp only at hS'); dsimp only [zo90_4_20]; go_simp; try with_reducible rfl)
            simp only [Act.put, pa93_4, pb93_4, pc93_4]
            refine tk93_4 (i := 21) (oi := zo90_4_21) (v := ?_) rfl (by kernel_rfl) (fun _ _ _ h => h) (Or.inl ⟨rfl, ?_⟩) hS ?_
            rotate_left
            · (intro w' hS'; (try dsimp only at hS'); dsimp only [zo90_4_21]; go_simp; try with_reducible rfl)
            simp only [Act.put, pa93_4, pb93_4, pc93_4]
            refine tk93_4 (i := 22) (oi := zo90_4_22) (v := ?_) rfl (by kernel_rfl) (fun _ _ _ h => h) (Or.inl ⟨rfl, ?_⟩) hS ?_
            rotate_left
            · (intro w' hS'; (try dsimp only at hS'); dsimp only [zo90_4_22]; go_simp; try with_reducible rfl)
            simp only [Act.put, pa93_4, pb93_4, pc93_4]
            refine tk93_4 (i := 23) (oi := zo90_4_23) (v := ?_) rfl (by kernel_rfl) (fun _ _ _ h => h) (Or.inl ⟨rfl, ?_⟩) hS ?_
            rotate_left
            · (intro w' hS'; (try dsimp only at hS'); dsimp only [zo90_4_23]; go_simp; try with_reducible rfl)
            simp only [Act.put, pa93_4, pb93_4, pc93_4]
            refine tk93_4 (i := 24) (oi := zo90_4_24) (v := ?_) rfl (by kernel_rfl) (fun _ _ _ h => h) (Or.inl ⟨rfl, ?_⟩) hS ?_
            rotate_left
            · (intro w' hS'; (try dsimp only at hS'); dsimp only [zo90_4_24]; go_simp; try with_reducible rfl)
            simp only [Act.put, pa93_4, pb93_4, pc93_4]
            refine tk93_4 (i := 25) (oi := zo90_4_25) (v := ?_) rfl (by kernel_rfl) (fun _ _ _ h => h) (Or.inl ⟨rfl, ?_⟩) hS ?_
            rotate_left
            · (intro w' hS'; (try dsimp only at hS'); dsimp only [zo90_4_25]; go_simp; try with_reducible rfl)
            simp only [Act.put, pa93_4, pb93_4, pc93_4]
            refine tk93_4 (i := 26) (oi := zo90_4_26) (v := ?_) rfl (by kernel_rfl) (fun _ _ _ h => h) (Or.inl ⟨rfl, ?_⟩) hS ?_
            rotate_left
            · (intro w' hS'; (try dsimp only at hS'); dsimp only [zo90_4_26]; go_simp; try with_reducible rfl)
            simp only [Act.put, pa93_4, pb93_4, pc93_4]
            refine tk93_4 (i := 27) (oi := zo90_4_27) (v := ?_) rfl (by kernel_rfl) (fun _ _ _ h => h) (Or.inl ⟨rfl, ?_⟩) hS ?_
            rotate_left
            · (intro w' hS'; (try dsimp only at hS'); dsimp only [zo90_4_27]; go_simp; try with_reducible rfl)
            simp only [Act.put, pa93_4, pb93_4, pc93_4]
            refine tk93_4 (i := 28) (oi := zo90_4_28) (v := ?_) rfl (by kernel_rfl) (fun _ _ _ h => h) (Or.inl ⟨rfl, ?_⟩) hS ?_
            rotate_left
            · (intro w' hS'; (try dsimp only at hS'); dsimp only [zo90_4_28]; go_simp; try with_reducible rfl)
            simp only [Act.put, pa93_4, pb93_4, pc93_4]
            refine tk93_4 (i := 29) (oi := zo90_4_29) (v := ?_) rfl (by kernel_rfl) (fun _ _ _ h => h) (Or.inl ⟨rfl, ?_⟩) hS ?_
            rotate_left
            · (intro w' hS'; (try dsimp only at hS'); dsimp only [zo90_4_29]; go_simp; try with_reducible rfl)
            simp only [Act.put, pa93_4, pb93_4, pc93_4]
            refine wpAnyH_ready (rs := [30]) (by kernel_rfl) (by simp) ?_
            refine AllReadyH.cons (o := zo90_4_30) rfl (fun K hK => ?_) .nil
            refine step_call 94 #[.tmp 42] _ rfl rfl #[.pointer (some ⟨b, off + j, none⟩)] Tryz.call94 (by go_simp) (CL.out _ bb1 hS.2.2.1) ?_
            rintro e w2 ⟨rfl, n2, rfl⟩
            refine ⟨_, rfl, ?_⟩
            refine hK.out _ _ ?_ (fun hHeld => ?_)
            · exact hS
            clear hK K hHeld
            simp only [Act.put, pa93_4, pb93_4, pc93_4]
            refine tk93_4 (i := 31) (oi := zo90_4_31) (v := ?_) rfl (by kernel_rfl) (fun _ _ _ h => h) (Or.inl ⟨rfl, ?_⟩) hS ?_
            rotate_left
            · (intro w' hS'; (try dsimp only at hS'); dsimp only [zo90_4_31]; go_simp; try with_reducible rfl)
            simp only [Act.put, pa93_4, pb93_4, pc93_4]
            refine tk93_4 (i := 32) (oi := zo90_4_32) (v := ?_) rfl (by kernel_rfl) (fun _ _ _ h => h) (Or.inl ⟨rfl, ?_⟩) hS ?_
            rotate_left
            · (intro w' hS'; (try dsimp only at hS'); dsimp only [zo90_4_32]; go_simp; try with_reducible rfl)
            simp only [Act.put, pa93_4, pb93_4, pc93_4]
            refine tk93_4 (i := 33) (oi := zo90_4_33) (v := ?_) rfl (by kernel_rfl) (fun _ _ _ h => h) (Or.inl ⟨rfl, ?_⟩) hS ?_
            rotate_left
            · (intro w' hS'; (try dsimp only at hS'); dsimp only [zo90_4_33]; go_simp; try with_reducible rfl)
            simp only [Act.put, pa93_4, pb93_4, pc93_4]
            refine wpAnyH_done (by kernel_rfl) ?_ _
            go_wp2_with fail
            go_ret
            exact ⟨ret_boolI HF.out.symm, below_drewN (hb.drew.trans (bb1.mono hbs)) _⟩
          · have HK := HN'.out ht
            have gt : (ft ≤ ltt) = False := eq_false ht
            clear ht
            go_wp2_with fail
            have hS : (fun w' => w'.cell? ⟨g, f, none⟩ = some (.slice (some ⟨b, off, none⟩) xs.length c) ∧ w'.cell? ⟨b, off + k, none⟩ = some (.slice (some ⟨b1, o1, none⟩) xs[k].length ck) ∧ w'.cell? ⟨b, off + j, none⟩ = some (.slice Aj xs[j].length cj) ∧ w'.cell? ⟨b1, o1 + 2, none⟩ = some (.int .i64 ft)) wr.drew := ⟨hg, h0, h3, h4⟩
            dsimp only at hS
            refine wp_region_held_drew (S := (fun w' => w'.cell? ⟨g, f, none⟩ = some (.slice (some ⟨b, off, none⟩) xs.length c) ∧ w'.cell? ⟨b, off + k, none⟩ = some (.slice (some ⟨b1, o1, none⟩) xs[k].length ck) ∧ w'.cell? ⟨b, off + j, none⟩ = some (.slice Aj xs[j].length cj) ∧ w'.cell? ⟨b1, o1 + 2, none⟩ = some (.int .i64 ft))) (by kernel_rfl) hS (fun _ => ?_)
            refine tk93_4 (i := 0) (oi := zo90_4_0) (v := ?_) rfl (by kernel_rfl) (fun _ _ _ h => h) (Or.inl ⟨rfl, ?_⟩) hS ?_
            rotate_left
            · (intro w' hS'; (try dsimp only at hS'); dsimp only [zo90_4_0]; go_simp; try with_reducible rfl)
            simp only [Act.put, pa93_4, pb93_4, pc93_4]
            refine tk93_4 (i := 1) (oi := zo90_4_1) (v := ?_) rfl (by kernel_rfl) (fun _ _ _ h => h) (Or.inl ⟨rfl, ?_⟩) hS ?_
            rotate_left
            · (intro w' hS'; (try dsimp only at hS'); dsimp only [zo90_4_1]; go_simp; try with_reducible rfl)
            simp only [Act.put, pa93_4, pb93_4, pc93_4]
            refine tk93_4 (i := 2) (oi := zo90_4_2) (v := ?_) rfl (by kernel_rfl) (fun _ _ _ h => h) (Or.inl ⟨rfl, ?_⟩) hS ?_
            rotate_left
            · (intro w' hS'; (try dsimp only at hS'); dsimp only [zo90_4_2]; go_simp; try with_reducible rfl)
            simp only [Act.put, pa93_4, pb93_4, pc93_4]
            refine tk93_4 (i := 3) (oi := zo90_4_3) (v := ?_) rfl (by kernel_rfl) (fun _ _ _ h => h) (Or.inl ⟨rfl, ?_⟩) hS ?_
            rotate_left
            · (intro w' hS'; (try dsimp only at hS'); dsimp only [zo90_4_3]; go_simp; try with_reducible rfl)
            simp only [Act.put, pa93_4, pb93_4, pc93_4]
            refine tk93_4 (i := 4) (oi := zo90_4_4) (v := ?_) rfl (by kernel_rfl) (fun _ _ _ h => h) (Or.inl ⟨rfl, ?_⟩) hS ?_
            rotate_left
            · (intro w' hS'; (try dsimp only at hS'); dsimp only [zo90_4_4]; go_simp; try with_reducible rfl)
            simp only [Act.put, pa93_4, pb93_4, pc93_4]
            refine tk93_4 (i := 5) (oi := zo90_4_5) (v := ?_) rfl (by kernel_rfl) (fun _ _ _ h => h) (Or.inl ⟨rfl, ?_⟩) hS ?_
            rotate_left
            · (intro w' hS'; (try dsimp only at hS'); dsimp only [zo90_4_5]; go_simp; try with_reducible rfl)
            simp only [Act.put, pa93_4, pb93_4, pc93_4]
            refine wpAnyH_ready (rs := [6]) (by kernel_rfl) (by simp) ?_
            refine AllReadyH.cons (o := zo90_4_6) rfl (fun K hK => ?_) .nil
            refine step_call 93 #[.tmp 18] _ rfl rfl #[.pointer (some ⟨b, off + k, none⟩)] Tryz.call93 (by go_simp) HC.out ?_
            rintro e w1 ⟨rfl, bb1⟩
            refine ⟨_, rfl, ?_⟩
            replace hS : (fun w' => w'.cell? ⟨g, f, none⟩ = some (.slice (some ⟨b, off, none⟩) xs.length c) ∧ w'.cell? ⟨b, off + k, none⟩ = some (.slice (some ⟨b1, o1, none⟩) xs[k].length ck) ∧ w'.cell? ⟨b, off + j, none⟩ = some (.slice Aj xs[j].length cj) ∧ w'.cell? ⟨b1, o1 + 2, none⟩ = some (.int .i64 ft)) w1 := ⟨keep_b (w2 := wr.drew) bb1 hgl hg, keep_b (w2 := wr.drew) bb1 hbb' h0, keep_b (w2 := wr.drew) bb1 hbb' h3, keep_b (w2 := wr.drew) bb1 hb1 h4⟩
            dsimp only at hS
            refine hK.out _ _ ?_ (fun hHeld => ?_)
            · exact hS
            clear hK K hHeld
            simp only [Act.put, pa93_4, pb93_4, pc93_4]
            refine tk93_4 (i := 7) (oi := zo90_4_7) (v := ?_) rfl (by kernel_rfl) (fun _ _ _ h => h) (Or.inl ⟨rfl, ?_⟩) hS ?_
            rotate_left
            · (intro w' hS'; (try dsimp only at hS'); dsimp only [zo90_4_7]; go_simp; try with_reducible rfl)
            simp only [Act.put, pa93_4, pb93_4, pc93_4]
            refine tk93_4 (i := 8) (oi := zo90_4_8) (v := ?_) rfl (by kernel_rfl) (fun _ _ _ h => h) (Or.inl ⟨rfl, ?_⟩) hS ?_
            rotate_left
            · (intro w' hS'; (try dsimp only at hS'); dsimp only [zo90_4_8]; go_simp; try with_reducible rfl)
            simp only [Act.put, pa93_4, pb93_4, pc93_4]
            refine tk93_4 (i := 9) (oi := zo90_4_9) (v := ?_) rfl (by kernel_rfl) (fun _ _ _ h => h) (Or.inl ⟨rfl, ?_⟩) hS ?_
            rotate_left
            · (intro w' hS'; (try dsimp only at hS'); dsimp only [zo90_4_9]; go_simp; try with_reducible rfl)
            simp only [Act.put, pa93_4, pb93_4, pc93_4]
            refine tk93_4 (i := 10) (oi := zo90_4_10) (v := ?_) rfl (by kernel_rfl) (fun _ _ _ h => h) (Or.inl ⟨rfl, ?_⟩) hS ?_
            rotate_left
            · (intro w' hS'; (try dsimp only at hS'); dsimp only [zo90_4_10]; go_simp; try with_reducible rfl)
            simp only [Act.put, pa93_4, pb93_4, pc93_4]
            refine tk93_4 (i := 11) (oi := zo90_4_11) (v := ?_) rfl (by kernel_rfl) (fun _ _ _ h => h) (Or.inl ⟨rfl, ?_⟩) hS ?_
            rotate_left
            · (intro w' hS'; (try dsimp only at hS'); dsimp only [zo90_4_11]; go_simp; try with_reducible rfl)
            simp only [Act.put, pa93_4, pb93_4, pc93_4]
            refine tk93_4 (i := 12) (oi := zo90_4_12) (v := ?_) rfl (by kernel_rfl) (fun _ _ _ h => h) (Or.inl ⟨rfl, ?_⟩) hS ?_
            rotate_left
            · (intro w' hS'; (try dsimp only at hS'); dsimp only [zo90_4_12]; go_simp; try with_reducible rfl)
            simp only [Act.put, pa93_4, pb93_4, pc93_4]
            refine tk93_4 (i := 13) (oi := zo90_4_13) (v := ?_) rfl (by kernel_rfl) (fun _ _ _ h => h) (Or.inl ⟨rfl, ?_⟩) hS ?_
            rotate_left
            · (intro w' hS'; (try dsimp only at hS'); dsimp only [zo90_4_13]; go_simp; try with_reducible rfl)
            simp only [Act.put, pa93_4, pb93_4, pc93_4]
            refine tk93_4 (i := 14) (oi := zo90_4_14) (v := ?_) rfl (by kernel_rfl) (fun _ _ _ h => h) (Or.inl ⟨rfl, ?_⟩) hS ?_
            rotate_left
            · (intro w' hS'; (try dsimp only at hS'); dsimp only [zo90_4_14]; go_simp; try with_reducible rfl)
            simp only [Act.put, pa93_4, pb93_4, pc93_4]
            refine tk93_4 (i := 15) (oi := zo90_4_15) (v := ?_) rfl (by kernel_rfl) (fun _ _ _ h => h) (Or.inl ⟨rfl, ?_⟩) hS ?_
            rotate_left
            · (intro w' hS'; (try dsimp only at hS'); dsimp only [zo90_4_15]; go_simp; try with_reducible rfl)
            simp only [Act.put, pa93_4, pb93_4, pc93_4]
            refine tk93_4 (i := 16) (oi := zo90_4_16) (v := ?_) rfl (by kernel_rfl) (fun _ _ _ h => h) (Or.inl ⟨rfl, ?_⟩) hS ?_
            rotate_left
            · (intro w' hS'; (try dsimp only at hS'); dsimp only [zo90_4_16]; go_simp; try with_reducible rfl)
            simp only [Act.put, pa93_4, pb93_4, pc93_4]
            refine tk93_4 (i := 17) (oi := zo90_4_17) (v := ?_) rfl (by kernel_rfl) (fun _ _ _ h => h) (Or.inl ⟨rfl, ?_⟩) hS ?_
            rotate_left
            · (intro w' hS'; (try dsimp only at hS'); dsimp only [zo90_4_17]; go_simp; try with_reducible rfl)
            simp only [Act.put, pa93_4, pb93_4, pc93_4]
            refine tk93_4 (i := 18) (oi := zo90_4_18) (v := ?_) rfl (by kernel_rfl) (fun _ _ _ h => h) (Or.inl ⟨rfl, ?_⟩) hS ?_
            rotate_left
            · (intro w' hS'; (try dsimp only at hS'); dsimp only [zo90_4_18]; go_simp; try with_reducible rfl)
            simp only [Act.put, pa93_4, pb93_4, pc93_4]
            refine tk93_4 (i := 19) (oi := zo90_4_19) (v := ?_) rfl (by kernel_rfl) (fun _ _ _ h => h) (Or.inl ⟨rfl, ?_⟩) hS ?_
            rotate_left
            · (intro w' hS'; (try dsimp only at hS'); dsimp only [zo90_4_19]; go_simp; try with_reducible rfl)
            simp only [Act.put, pa93_4, pb93_4, pc93_4]
            refine tk93_4 (i := 20) (oi := zo90_4_20) (v := ?_) rfl (by kernel_rfl) (fun _ _ _ h => h) (Or.inl ⟨rfl, ?_⟩) hS ?_
            rotate_left
            · (intro w' hS'; (try dsimp only at hS'); dsimp only [zo90_4_20]; go_simp; try with_reducible rfl)
            simp only [Act.put, pa93_4, pb93_4, pc93_4]
            refine tk93_4 (i := 21) (oi := zo90_4_21) (v := ?_) rfl (by kernel_rfl) (fun _ _ _ h => h) (Or.inl ⟨rfl, ?_⟩) hS ?_
            rotate_left
            · (intro w' hS'; (try dsimp only at hS'); dsimp only [zo90_4_21]; go_simp; try with_reducible rfl)
            simp only [Act.put, pa93_4, pb93_4, pc93_4]
            refine tk93_4 (i := 22) (oi := zo90_4_22) (v := ?_) rfl (by kernel_rfl) (fun _ _ _ h => h) (Or.inl ⟨rfl, ?_⟩) hS ?_
            rotate_left
            · (intro w' hS'; (try dsimp only at hS'); dsimp only [zo90_4_22]; go_simp; try with_reducible rfl)
            simp only [Act.put, pa93_4, pb93_4, pc93_4]
            refine tk93_4 (i := 23) (oi := zo90_4_23) (v := ?_) rfl (by kernel_rfl) (fun _ _ _ h => h) (Or.inl ⟨rfl, ?_⟩) hS ?_
            rotate_left
            · (intro w' hS'; (try dsimp only at hS'); dsimp only [zo90_4_23]; go_simp; try with_reducible rfl)
            simp only [Act.put, pa93_4, pb93_4, pc93_4]
            refine tk93_4 (i := 24) (oi := zo90_4_24) (v := ?_) rfl (by kernel_rfl) (fun _ _ _ h => h) (Or.inl ⟨rfl, ?_⟩) hS ?_
            rotate_left
            · (intro w' hS'; (try dsimp only at hS'); dsimp only [zo90_4_24]; go_simp; try with_reducible rfl)
            simp only [Act.put, pa93_4, pb93_4, pc93_4]
            refine tk93_4 (i := 25) (oi := zo90_4_25) (v := ?_) rfl (by kernel_rfl) (fun _ _ _ h => h) (Or.inl ⟨rfl, ?_⟩) hS ?_
            rotate_left
            · (intro w' hS'; (try dsimp only at hS'); dsimp only [zo90_4_25]; go_simp; try with_reducible rfl)
            simp only [Act.put, pa93_4, pb93_4, pc93_4]
            refine tk93_4 (i := 26) (oi := zo90_4_26) (v := ?_) rfl (by kernel_rfl) (fun _ _ _ h => h) (Or.inl ⟨rfl, ?_⟩) hS ?_
            rotate_left
            · (intro w' hS'; (try dsimp only at hS'); dsimp only [zo90_4_26]; go_simp; try with_reducible rfl)
            simp only [Act.put, pa93_4, pb93_4, pc93_4]
            refine tk93_4 (i := 27) (oi := zo90_4_27) (v := ?_) rfl (by kernel_rfl) (fun _ _ _ h => h) (Or.inl ⟨rfl, ?_⟩) hS ?_
            rotate_left
            · (intro w' hS'; (try dsimp only at hS'); dsimp only [zo90_4_27]; go_simp; try with_reducible rfl)
            simp only [Act.put, pa93_4, pb93_4, pc93_4]
            refine tk93_4 (i := 28) (oi := zo90_4_28) (v := ?_) rfl (by kernel_rfl) (fun _ _ _ h => h) (Or.inl ⟨rfl, ?_⟩) hS ?_
            rotate_left
            · (intro w' hS'; (try dsimp only at hS'); dsimp only [zo90_4_28]; go_simp; try with_reducible rfl)
            simp only [Act.put, pa93_4, pb93_4, pc93_4]
            refine tk93_4 (i := 29) (oi := zo90_4_29) (v := ?_) rfl (by kernel_rfl) (fun _ _ _ h => h) (Or.inl ⟨rfl, ?_⟩) hS ?_
            rotate_left
            · (intro w' hS'; (try dsimp only at hS'); dsimp only [zo90_4_29]; go_simp; try with_reducible rfl)
            simp only [Act.put, pa93_4, pb93_4, pc93_4]
            refine wpAnyH_ready (rs := [30]) (by kernel_rfl) (by simp) ?_
            refine AllReadyH.cons (o := zo90_4_30) rfl (fun K hK => ?_) .nil
            refine step_call 94 #[.tmp 42] _ rfl rfl #[.pointer (some ⟨b, off + j, none⟩)] Tryz.call94 (by go_simp) (CL.out _ bb1 hS.2.2.1) ?_
            rintro e w2 ⟨rfl, n2, rfl⟩
            refine ⟨_, rfl, ?_⟩
            refine hK.out _ _ ?_ (fun hHeld => ?_)
            · exact hS
            clear hK K hHeld
            simp only [Act.put, pa93_4, pb93_4, pc93_4]
            refine tk93_4 (i := 31) (oi := zo90_4_31) (v := ?_) rfl (by kernel_rfl) (fun _ _ _ h => h) (Or.inl ⟨rfl, ?_⟩) hS ?_
            rotate_left
            · (intro w' hS'; (try dsimp only at hS'); dsimp only [zo90_4_31]; go_simp; try with_reducible rfl)
            simp only [Act.put, pa93_4, pb93_4, pc93_4]
            refine tk93_4 (i := 32) (oi := zo90_4_32) (v := ?_) rfl (by kernel_rfl) (fun _ _ _ h => h) (Or.inl ⟨rfl, ?_⟩) hS ?_
            rotate_left
            · (intro w' hS'; (try dsimp only at hS'); dsimp only [zo90_4_32]; go_simp; try with_reducible rfl)
            simp only [Act.put, pa93_4, pb93_4, pc93_4]
            refine tk93_4 (i := 33) (oi := zo90_4_33) (v := ?_) rfl (by kernel_rfl) (fun _ _ _ h => h) (Or.inl ⟨rfl, ?_⟩) hS ?_
            rotate_left
            · (intro w' hS'; (try dsimp only at hS'); dsimp only [zo90_4_33]; go_simp; try with_reducible rfl)
            simp only [Act.put, pa93_4, pb93_4, pc93_4]
            refine wpAnyH_done (by kernel_rfl) ?_ _
            go_wp2_with fail
            go_roundw
            case rel => exact ⟨k + 1, by omega, by go_num, HK, below_drewN (hb.drew.trans (bb1.mono hbs)) _⟩
            case measure => simp [intOf]; omega
    · obtain rfl : k = xs.length := by omega
      clear hr
      have HV : Hid (inkB xs = decide (xs.length ≤ 16)) := by show _ = _; rw [inkB, hok.out]; rfl
      go_wp2_with fail
      go_ret
      exact ⟨ret_boolI (by rw [HV.out, decide_eq_decide]; omega), hb⟩
end Go.Proofs.YtkkignkoneeieaaGreat

/- Ink: the events of ink, the reference's walk; EventsOfInk of both. Conditions: none. -/
namespace Go.Proofs.YtkkignkoneeieaaGreat
open Go Go.RowKit

/-- What EventsOfInk gives. -/
def evF (xs : List PStroke) : List PEvent := if inkB xs then inkEvents xs xs.length else []
def evC (xs : List PStroke) : Int := if inkB xs then 0 else 1
/-- Events and a code, in memory of their own. -/
def GivesEvents (e : TypeId) (l : List PEvent) (c : Int) (w : World) (en : Ending) (w' : World) : Prop :=
  ∃ u G, en = .returned (.tuple #[u, .int .i64 c]) ∧ (pEvents e).rep true w' l [u] G ∧ Fresh w.heap.size G ∧ Below w.heap.size w w'
end Go.Proofs.YtkkignkoneeieaaGreat

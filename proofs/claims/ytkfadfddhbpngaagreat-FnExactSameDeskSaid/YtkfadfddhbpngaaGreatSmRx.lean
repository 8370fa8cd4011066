/- SameSession of the reference. Conditions: none. -/
import Derived.Test.YtkfadfddhbpngaaGreatTkx
import Derived.Deep.Cut
import Derived.Deep.CutRange
import Derived.Test.YtkfadfddhbpngaaGreatSmQx
namespace Go.Proofs.YtkfadfddhbpngaaGreat
open Go Go.RowKit
abbrev zo29_3_0 : Oper := { dst := some 15, op := .move (.tmp 5), type := 105, pos := "l26_sessions.go:62", after := #[], guard := none }
abbrev zo29_3_1 : Oper := { dst := some 16, op := .nilCheck (.tmp 15), type := 0, pos := "l26_sessions.go:62", after := #[{ on := 0, ground := .data }], guard := none }
abbrev zo29_3_2 : Oper := { dst := some 17, op := .fieldAddr 61 (.tmp 16) 0, type := 0, pos := "l26_sessions.go:62", after := #[{ on := 1, ground := .data }], guard := none }
abbrev zo29_3_3 : Oper := { dst := some 18, op := .move (.tmp 6), type := 105, pos := "l26_sessions.go:62", after := #[], guard := none }
abbrev zo29_3_4 : Oper := { dst := some 19, op := .nilCheck (.tmp 18), type := 0, pos := "l26_sessions.go:62", after := #[{ on := 3, ground := .data }], guard := none }
abbrev zo29_3_5 : Oper := { dst := some 20, op := .fieldAddr 61 (.tmp 19) 0, type := 0, pos := "l26_sessions.go:62", after := #[{ on := 4, ground := .data }], guard := none }
abbrev zo29_3_6 : Oper := { dst := some 21, op := .call { callee := .value (.func 76), args := #[.tmp 17, .tmp 20], argTypes := #[135, 135] }, type := 4, pos := "l26_sessions.go:62", after := #[{ on := 2, ground := .data }, { on := 5, ground := .data }], guard := none }
abbrev zo29_3_7 : Oper := { dst := some 22, op := .unOp .not 4 (.tmp 21), type := 4, pos := "l26_sessions.go:62", after := #[{ on := 6, ground := .data }], guard := none }
abbrev zo29_3_8 : Oper := { dst := some 23, op := .move (.tmp 22), type := 4, pos := "l26_sessions.go:62", after := #[{ on := 7, ground := .data }, { on := 6, ground := .chain }], guard := none }
abbrev zo29_3_9 : Oper := { dst := some 24, op := .move (.tmp 5), type := 105, pos := "l26_sessions.go:62", after := #[{ on := 8, ground := .guard }], guard := some (8, false) }
abbrev zo29_3_10 : Oper := { dst := some 25, op := .nilCheck (.tmp 24), type := 0, pos := "l26_sessions.go:62", after := #[{ on := 9, ground := .data }, { on := 8, ground := .guard }], guard := some (8, false) }
abbrev zo29_3_11 : Oper := { dst := some 26, op := .fieldAddr 61 (.tmp 25) 1, type := 0, pos := "l26_sessions.go:62", after := #[{ on := 10, ground := .data }, { on := 8, ground := .guard }], guard := some (8, false) }
abbrev zo29_3_12 : Oper := { dst := some 27, op := .load 53 (.tmp 26), type := 53, pos := "l26_sessions.go:62", after := #[{ on := 11, ground := .data }, { on := 8, ground := .guard }], guard := some (8, false) }
abbrev zo29_3_13 : Oper := { dst := some 28, op := .move (.tmp 6), type := 105, pos := "l26_sessions.go:62", after := #[{ on := 8, ground := .guard }], guard := some (8, false) }
abbrev zo29_3_14 : Oper := { dst := some 29, op := .nilCheck (.tmp 28), type := 0, pos := "l26_sessions.go:62", after := #[{ on := 13, ground := .data }, { on := 8, ground := .guard }], guard := some (8, false) }
abbrev zo29_3_15 : Oper := { dst := some 30, op := .fieldAddr 61 (.tmp 29) 1, type := 0, pos := "l26_sessions.go:62", after := #[{ on := 14, ground := .data }, { on := 8, ground := .guard }], guard := some (8, false) }
abbrev zo29_3_16 : Oper := { dst := some 31, op := .load 53 (.tmp 30), type := 53, pos := "l26_sessions.go:62", after := #[{ on := 15, ground := .data }, { on := 8, ground := .guard }], guard := some (8, false) }
abbrev zo29_3_17 : Oper := { dst := some 32, op := .binOp .neq 53 (.tmp 27) (.tmp 31) 53, type := 4, pos := "l26_sessions.go:62", after := #[{ on := 12, ground := .data }, { on := 16, ground := .data }, { on := 8, ground := .guard }], guard := some (8, false) }
abbrev zo29_3_18 : Oper := { dst := some 33, op := .pick (.tmp 23) (.const (.bool true)) (.tmp 32), type := 4, pos := "l26_sessions.go:62", after := #[{ on := 8, ground := .data }, { on := 17, ground := .data }], guard := none }
abbrev zo29_3_19 : Oper := { dst := some 34, op := .move (.tmp 33), type := 4, pos := "l26_sessions.go:62", after := #[{ on := 18, ground := .data }, { on := 8, ground := .chain }], guard := none }
abbrev zo29_3_20 : Oper := { dst := some 35, op := .move (.tmp 5), type := 105, pos := "l26_sessions.go:62", after := #[{ on := 19, ground := .guard }], guard := some (19, false) }
abbrev zo29_3_21 : Oper := { dst := some 36, op := .nilCheck (.tmp 35), type := 0, pos := "l26_sessions.go:62", after := #[{ on := 20, ground := .data }, { on := 19, ground := .guard }], guard := some (19, false) }
abbrev zo29_3_22 : Oper := { dst := some 37, op := .fieldAddr 61 (.tmp 36) 2, type := 0, pos := "l26_sessions.go:62", after := #[{ on := 21, ground := .data }, { on := 19, ground := .guard }], guard := some (19, false) }
abbrev zo29_3_23 : Oper := { dst := some 38, op := .move (.tmp 6), type := 105, pos := "l26_sessions.go:62", after := #[{ on := 19, ground := .guard }], guard := some (19, false) }
abbrev zo29_3_24 : Oper := { dst := some 39, op := .nilCheck (.tmp 38), type := 0, pos := "l26_sessions.go:62", after := #[{ on := 23, ground := .data }, { on := 19, ground := .guard }], guard := some (19, false) }
abbrev zo29_3_25 : Oper := { dst := some 40, op := .fieldAddr 61 (.tmp 39) 2, type := 0, pos := "l26_sessions.go:62", after := #[{ on := 24, ground := .data }, { on := 19, ground := .guard }], guard := some (19, false) }
abbrev zo29_3_26 : Oper := { dst := some 41, op := .call { callee := .value (.func 77), args := #[.tmp 37, .tmp 40], argTypes := #[137, 137] }, type := 4, pos := "l26_sessions.go:62", after := #[{ on := 22, ground := .data }, { on := 25, ground := .data }, { on := 19, ground := .chain }, { on := 19, ground := .guard }], guard := some (19, false) }
abbrev zo29_3_27 : Oper := { dst := some 42, op := .unOp .not 4 (.tmp 41), type := 4, pos := "l26_sessions.go:62", after := #[{ on := 26, ground := .data }, { on := 19, ground := .guard }], guard := some (19, false) }
abbrev zo29_3_28 : Oper := { dst := some 43, op := .pick (.tmp 34) (.const (.bool true)) (.tmp 42), type := 4, pos := "l26_sessions.go:62", after := #[{ on := 19, ground := .data }, { on := 27, ground := .data }], guard := none }
abbrev zo29_3_29 : Oper := { dst := some 44, op := .move (.tmp 43), type := 4, pos := "l26_sessions.go:62", after := #[{ on := 28, ground := .data }, { on := 26, ground := .chain }], guard := none }
abbrev zo29_3_30 : Oper := { dst := some 45, op := .move (.tmp 5), type := 105, pos := "l26_sessions.go:62", after := #[{ on := 29, ground := .guard }], guard := some (29, false) }
abbrev zo29_3_31 : Oper := { dst := some 46, op := .nilCheck (.tmp 45), type := 0, pos := "l26_sessions.go:62", after := #[{ on := 30, ground := .data }, { on := 29, ground := .guard }], guard := some (29, false) }
abbrev zo29_3_32 : Oper := { dst := some 47, op := .fieldAddr 61 (.tmp 46) 3, type := 0, pos := "l26_sessions.go:62", after := #[{ on := 31, ground := .data }, { on := 29, ground := .guard }], guard := some (29, false) }
abbrev zo29_3_33 : Oper := { dst := some 48, op := .move (.tmp 6), type := 105, pos := "l26_sessions.go:62", after := #[{ on := 29, ground := .guard }], guard := some (29, false) }
abbrev zo29_3_34 : Oper := { dst := some 49, op := .nilCheck (.tmp 48), type := 0, pos := "l26_sessions.go:62", after := #[{ on := 33, ground := .data }, { on := 29, ground := .guard }], guard := some (29, false) }
abbrev zo29_3_35 : Oper := { dst := some 50, op := .fieldAddr 61 (.tmp 49) 3, type := 0, pos := "l26_sessions.go:62", after := #[{ on := 34, ground := .data }, { on := 29, ground := .guard }], guard := some (29, false) }
abbrev zo29_3_36 : Oper := { dst := some 51, op := .call { callee := .value (.func 78), args := #[.tmp 47, .tmp 50], argTypes := #[139, 139] }, type := 4, pos := "l26_sessions.go:62", after := #[{ on := 32, ground := .data }, { on := 35, ground := .data }, { on := 29, ground := .chain }, { on := 29, ground := .guard }], guard := some (29, false) }
abbrev zo29_3_37 : Oper := { dst := some 52, op := .unOp .not 4 (.tmp 51), type := 4, pos := "l26_sessions.go:62", after := #[{ on := 36, ground := .data }, { on := 29, ground := .guard }], guard := some (29, false) }
abbrev zo29_3_38 : Oper := { dst := some 53, op := .pick (.tmp 44) (.const (.bool true)) (.tmp 52), type := 4, pos := "l26_sessions.go:62", after := #[{ on := 29, ground := .data }, { on := 37, ground := .data }], guard := none }
abbrev zo29_3_39 : Oper := { dst := some 54, op := .move (.tmp 53), type := 4, pos := "l26_sessions.go:62", after := #[{ on := 38, ground := .data }, { on := 36, ground := .chain }], guard := none }
abbrev zo29_3_40 : Oper := { dst := some 55, op := .move (.tmp 5), type := 105, pos := "l26_sessions.go:62", after := #[{ on := 39, ground := .guard }], guard := some (39, false) }
abbrev zo29_3_41 : Oper := { dst := some 56, op := .nilCheck (.tmp 55), type := 0, pos := "l26_sessions.go:62", after := #[{ on := 40, ground := .data }, { on := 39, ground := .guard }], guard := some (39, false) }
abbrev zo29_3_42 : Oper := { dst := some 57, op := .fieldAddr 61 (.tmp 56) 4, type := 0, pos := "l26_sessions.go:62", after := #[{ on := 41, ground := .data }, { on := 39, ground := .guard }], guard := some (39, false) }
abbrev zo29_3_43 : Oper := { dst := some 58, op := .load 2 (.tmp 57), type := 2, pos := "l26_sessions.go:62", after := #[{ on := 42, ground := .data }, { on := 39, ground := .guard }], guard := some (39, false) }
abbrev zo29_3_44 : Oper := { dst := some 59, op := .move (.tmp 6), type := 105, pos := "l26_sessions.go:62", after := #[{ on := 39, ground := .guard }], guard := some (39, false) }
abbrev zo29_3_45 : Oper := { dst := some 60, op := .nilCheck (.tmp 59), type := 0, pos := "l26_sessions.go:62", after := #[{ on := 44, ground := .data }, { on := 39, ground := .guard }], guard := some (39, false) }
abbrev zo29_3_46 : Oper := { dst := some 61, op := .fieldAddr 61 (.tmp 60) 4, type := 0, pos := "l26_sessions.go:62", after := #[{ on := 45, ground := .data }, { on := 39, ground := .guard }], guard := some (39, false) }
abbrev zo29_3_47 : Oper := { dst := some 62, op := .load 2 (.tmp 61), type := 2, pos := "l26_sessions.go:62", after := #[{ on := 46, ground := .data }, { on := 39, ground := .guard }], guard := some (39, false) }
abbrev zo29_3_48 : Oper := { dst := some 63, op := .binOp .neq 2 (.tmp 58) (.tmp 62) 2, type := 4, pos := "l26_sessions.go:62", after := #[{ on := 43, ground := .data }, { on := 47, ground := .data }, { on := 39, ground := .guard }], guard := some (39, false) }
abbrev zo29_3_49 : Oper := { dst := some 64, op := .pick (.tmp 54) (.const (.bool true)) (.tmp 63), type := 4, pos := "l26_sessions.go:62", after := #[{ on := 39, ground := .data }, { on := 48, ground := .data }], guard := none }
abbrev zo29_7_0 : Oper := { dst := some 75, op := .move (.tmp 0), type := 93, pos := "l26_sessions.go:67", after := #[], guard := none }
abbrev zo29_7_1 : Oper := { dst := some 76, op := .nilCheck (.tmp 75), type := 0, pos := "l26_sessions.go:67", after := #[{ on := 0, ground := .data }], guard := none }
abbrev zo29_7_2 : Oper := { dst := some 77, op := .fieldAddr 67 (.tmp 76) 1, type := 0, pos := "l26_sessions.go:67", after := #[{ on := 1, ground := .data }], guard := none }
abbrev zo29_7_3 : Oper := { dst := some 78, op := .move (.tmp 1), type := 93, pos := "l26_sessions.go:67", after := #[], guard := none }
abbrev zo29_7_4 : Oper := { dst := some 79, op := .nilCheck (.tmp 78), type := 0, pos := "l26_sessions.go:67", after := #[{ on := 3, ground := .data }], guard := none }
abbrev zo29_7_5 : Oper := { dst := some 80, op := .fieldAddr 67 (.tmp 79) 1, type := 0, pos := "l26_sessions.go:67", after := #[{ on := 4, ground := .data }], guard := none }
abbrev zo29_7_6 : Oper := { dst := some 81, op := .call { callee := .value (.func 79), args := #[.tmp 77, .tmp 80], argTypes := #[143, 143] }, type := 4, pos := "l26_sessions.go:67", after := #[{ on := 2, ground := .data }, { on := 5, ground := .data }], guard := none }
abbrev zo29_7_7 : Oper := { dst := some 82, op := .move (.tmp 81), type := 4, pos := "l26_sessions.go:67", after := #[{ on := 6, ground := .data }, { on := 6, ground := .chain }], guard := none }
abbrev zo29_7_8 : Oper := { dst := some 83, op := .call { callee := .value (.func 80), args := #[.tmp 7, .tmp 8], argTypes := #[145, 145] }, type := 4, pos := "l26_sessions.go:67", after := #[{ on := 7, ground := .chain }, { on := 7, ground := .guard }], guard := some (7, true) }
abbrev zo29_7_9 : Oper := { dst := some 84, op := .pick (.tmp 82) (.tmp 83) (.const (.bool false)), type := 4, pos := "l26_sessions.go:67", after := #[{ on := 7, ground := .data }, { on := 8, ground := .data }], guard := none }
abbrev zo29_7_10 : Oper := { dst := some 85, op := .move (.tmp 84), type := 4, pos := "l26_sessions.go:67", after := #[{ on := 9, ground := .data }, { on := 8, ground := .chain }], guard := none }
abbrev zo29_7_11 : Oper := { dst := some 86, op := .move (.tmp 0), type := 93, pos := "l26_sessions.go:67", after := #[{ on := 10, ground := .guard }], guard := some (10, true) }
abbrev zo29_7_12 : Oper := { dst := some 87, op := .nilCheck (.tmp 86), type := 0, pos := "l26_sessions.go:67", after := #[{ on := 11, ground := .data }, { on := 10, ground := .guard }], guard := some (10, true) }
abbrev zo29_7_13 : Oper := { dst := some 88, op := .fieldAddr 67 (.tmp 87) 3, type := 0, pos := "l26_sessions.go:67", after := #[{ on := 12, ground := .data }, { on := 10, ground := .guard }], guard := some (10, true) }
abbrev zo29_7_14 : Oper := { dst := some 89, op := .load 2 (.tmp 88), type := 2, pos := "l26_sessions.go:67", after := #[{ on := 13, ground := .data }, { on := 10, ground := .guard }], guard := some (10, true) }
abbrev zo29_7_15 : Oper := { dst := some 90, op := .move (.tmp 1), type := 93, pos := "l26_sessions.go:67", after := #[{ on := 10, ground := .guard }], guard := some (10, true) }
abbrev zo29_7_16 : Oper := { dst := some 91, op := .nilCheck (.tmp 90), type := 0, pos := "l26_sessions.go:67", after := #[{ on := 15, ground := .data }, { on := 10, ground := .guard }], guard := some (10, true) }
abbrev zo29_7_17 : Oper := { dst := some 92, op := .fieldAddr 67 (.tmp 91) 3, type := 0, pos := "l26_sessions.go:67", after := #[{ on := 16, ground := .data }, { on := 10, ground := .guard }], guard := some (10, true) }
abbrev zo29_7_18 : Oper := { dst := some 93, op := .load 2 (.tmp 92), type := 2, pos := "l26_sessions.go:67", after := #[{ on := 17, ground := .data }, { on := 10, ground := .guard }], guard := some (10, true) }
abbrev zo29_7_19 : Oper := { dst := some 94, op := .binOp .eql 2 (.tmp 89) (.tmp 93) 2, type := 4, pos := "l26_sessions.go:67", after := #[{ on := 14, ground := .data }, { on := 18, ground := .data }, { on := 10, ground := .guard }], guard := some (10, true) }
abbrev zo29_7_20 : Oper := { dst := some 95, op := .pick (.tmp 85) (.tmp 94) (.const (.bool false)), type := 4, pos := "l26_sessions.go:67", after := #[{ on := 10, ground := .data }, { on := 19, ground := .data }], guard := none }
abbrev zo29_7_21 : Oper := { dst := some 96, op := .move (.tmp 95), type := 4, pos := "l26_sessions.go:67", after := #[{ on := 20, ground := .data }, { on := 10, ground := .chain }], guard := none }
abbrev zo29_7_22 : Oper := { dst := some 97, op := .move (.tmp 0), type := 93, pos := "l26_sessions.go:67", after := #[{ on := 21, ground := .guard }], guard := some (21, true) }
abbrev zo29_7_23 : Oper := { dst := some 98, op := .nilCheck (.tmp 97), type := 0, pos := "l26_sessions.go:67", after := #[{ on := 22, ground := .data }, { on := 21, ground := .guard }], guard := some (21, true) }
abbrev zo29_7_24 : Oper := { dst := some 99, op := .fieldAddr 67 (.tmp 98) 4, type := 0, pos := "l26_sessions.go:67", after := #[{ on := 23, ground := .data }, { on := 21, ground := .guard }], guard := some (21, true) }
abbrev zo29_7_25 : Oper := { dst := some 100, op := .load 39 (.tmp 99), type := 39, pos := "l26_sessions.go:67", after := #[{ on := 24, ground := .data }, { on := 21, ground := .guard }], guard := some (21, true) }
abbrev zo29_7_26 : Oper := { dst := some 101, op := .move (.tmp 1), type := 93, pos := "l26_sessions.go:67", after := #[{ on := 21, ground := .guard }], guard := some (21, true) }
abbrev zo29_7_27 : Oper := { dst := some 102, op := .nilCheck (.tmp 101), type := 0, pos := "l26_sessions.go:67", after := #[{ on := 26, ground := .data }, { on := 21, ground := .guard }], guard := some (21, true) }
abbrev zo29_7_28 : Oper := { dst := some 103, op := .fieldAddr 67 (.tmp 102) 4, type := 0, pos := "l26_sessions.go:67", after := #[{ on := 27, ground := .data }, { on := 21, ground := .guard }], guard := some (21, true) }
abbrev zo29_7_29 : Oper := { dst := some 104, op := .load 39 (.tmp 103), type := 39, pos := "l26_sessions.go:67", after := #[{ on := 28, ground := .data }, { on := 21, ground := .guard }], guard := some (21, true) }
abbrev zo29_7_30 : Oper := { dst := some 105, op := .call { callee := .value (.func 81), args := #[.tmp 100, .tmp 104], argTypes := #[39, 39] }, type := 4, pos := "l26_sessions.go:67", after := #[{ on := 25, ground := .data }, { on := 29, ground := .data }, { on := 21, ground := .chain }, { on := 21, ground := .guard }], guard := some (21, true) }
abbrev zo29_7_31 : Oper := { dst := some 106, op := .pick (.tmp 96) (.tmp 105) (.const (.bool false)), type := 4, pos := "l26_sessions.go:67", after := #[{ on := 21, ground := .data }, { on := 30, ground := .data }], guard := none }
abbrev zo29_7_32 : Oper := { dst := some 4, op := .assign (.tmp 106), type := 4, pos := "l26_sessions.go:67", after := #[{ on := 31, ground := .data }, { on := 30, ground := .chain }, { on := 0, ground := .phase }, { on := 1, ground := .phase }, { on := 2, ground := .phase }, { on := 3, ground := .phase }, { on := 4, ground := .phase }, { on := 5, ground := .phase }, { on := 6, ground := .phase }, { on := 7, ground := .phase }, { on := 8, ground := .phase }, { on := 9, ground := .phase }, { on := 10, ground := .phase }, { on := 11, ground := .phase }, { on := 12, ground := .phase }, { on := 13, ground := .phase }, { on := 14, ground := .phase }, { on := 15, ground := .phase }, { on := 16, ground := .phase }, { on := 17, ground := .phase }, { on := 18, ground := .phase }, { on := 19, ground := .phase }, { on := 20, ground := .phase }, { on := 21, ground := .phase }, { on := 22, ground := .phase }, { on := 23, ground := .phase }, { on := 24, ground := .phase }, { on := 25, ground := .phase }, { on := 26, ground := .phase }, { on := 27, ground := .phase }, { on := 28, ground := .phase }, { on := 29, ground := .phase }, { on := 30, ground := .phase }, { on := 31, ground := .phase }], guard := none }

set_option maxRecDepth 100000 in
set_option maxHeartbeats 8000000 in
theorem spec_l26Same_c {I J : Ids} {oa ob : Bool} {p q : PSess} {A0 A1 A2 A3 A4 A5 B0 B1 B2 B3 B4 B5 : Option Addr} {Ak0 Ak1 Ak2 Ak3 Ak4 Ak5 Bk0 Bk1 Bk2 Bk3 Bk4 Bk5 : Nat} {F0 F1 F2 F3 F4 F5 G0 G1 G2 G3 G4 G5 : List Nat} {g g' : Nat} {T T' : TypeId} {more more' : List Value} (w : World) (R : Row w g T ([.int .i64 p.setup.band, .slice A0 p.setup.temps.length Ak0, .int .i64 p.setup.points, .int .i64 p.setup.most, .int .i64 p.setup.pen, .slice A1 p.setup.entries.length Ak1, .int .i64 p.setup.dflt, .slice A2 p.setup.bigrams.length Ak2, .int .i64 p.setup.pause, .slice A3 p.strokes.length Ak3, .slice A4 p.opn.length Ak4, .int .i64 p.time, .slice A5 p.words.length Ak5] ++ more)) (Q : Row w g' T' ([.int .i64 q.setup.band, .slice B0 q.setup.temps.length Bk0, .int .i64 q.setup.points, .int .i64 q.setup.most, .int .i64 q.setup.pen, .slice B1 q.setup.entries.length Bk1, .int .i64 q.setup.dflt, .slice B2 q.setup.bigrams.length Bk2, .int .i64 q.setup.pause, .slice B3 q.strokes.length Bk3, .slice B4 q.opn.length Bk4, .int .i64 q.time, .slice B5 q.words.length Bk5] ++ more'))
 (h0 : (pTemps I.ft I.tm).rep oa w p.setup.temps [.slice A0 p.setup.temps.length Ak0] F0) (k0 : (pTemps J.ft J.tm).rep ob w q.setup.temps [.slice B0 q.setup.temps.length Bk0] G0) (h1 : (pEntrys I.en).rep oa w p.setup.entries [.slice A1 p.setup.entries.length Ak1] F1) (k1 : (pEntrys J.en).rep ob w q.setup.entries [.slice B1 q.setup.entries.length Bk1] G1) (h2 : (pBigrams I.bg).rep oa w p.setup.bigrams [.slice A2 p.setup.bigrams.length Ak2] F2) (k2 : (pBigrams J.bg).rep ob w q.setup.bigrams [.slice B2 q.setup.bigrams.length Bk2] G2) (h3 : (pStrokes I.pt I.st).rep oa w p.strokes [.slice A3 p.strokes.length Ak3] F3) (k3 : (pStrokes J.pt J.st).rep ob w q.strokes [.slice B3 q.strokes.length Bk3] G3) (h4 : (pPoints I.pt).rep oa w p.opn [.slice A4 p.opn.length Ak4] F4) (k4 : (pPoints J.pt).rep ob w q.opn [.slice B4 q.opn.length Bk4] G4) (h5 : (strs 9).rep oa w p.words [.slice A5 p.words.length Ak5] F5) (k5 : (strs 9).rep ob w q.words [.slice B5 q.words.length Bk5] G5) (hp : SsSmall p) (hq : SsSmall q) :
 Calls Tryz.prog 29 #[.pointer (some ⟨g, 0, none⟩), .pointer (some ⟨g', 0, none⟩)] w fun e w' => e = .returned (.bool (sameSessB p q)) ∧ Below w.heap.size w w' := by
 have C0 := Lib.hid (fun w' (r : (pTemps I.ft I.tm).rep oa w' p.setup.temps [.slice A0 p.setup.temps.length Ak0] F0) (r' : (pTemps J.ft J.tm).rep ob w' q.setup.temps [.slice B0 q.setup.temps.length Bk0] G0) (x0 : w'.cell? ⟨g, 0, none⟩ = some (.int .i64 p.setup.band)) (y0 : w'.cell? ⟨g', 0, none⟩ = some (.int .i64 q.setup.band)) (x1 : w'.cell? ⟨g, 1, none⟩ = some (.slice A0 p.setup.temps.length Ak0)) (y1 : w'.cell? ⟨g', 1, none⟩ = some (.slice B0 q.setup.temps.length Bk0)) => spec_l11Same_c (n := p.setup.band) (m' := q.setup.band) (g := g) (f := 0) (g' := g') (f' := 0) w' x0 y0 x1 y1 r r' hp.s.t hq.s.t hp.s.f hq.s.f)
 have C2 := Lib.hid (fun w' (r : (pEntrys I.en).rep oa w' p.setup.entries [.slice A1 p.setup.entries.length Ak1] F1) (r' : (pEntrys J.en).rep ob w' q.setup.entries [.slice B1 q.setup.entries.length Bk1] G1) (x5 : w'.cell? ⟨g, 5, none⟩ = some (.slice A1 p.setup.entries.length Ak1)) (y5 : w'.cell? ⟨g', 5, none⟩ = some (.slice B1 q.setup.entries.length Bk1)) => spec_l16Same_c (g := g) (f := 5) (g' := g') (f' := 5) w' x5 y5 r r' hp.s.e hq.s.e)
 have C3 := Lib.hid (fun w' (r : (pBigrams I.bg).rep oa w' p.setup.bigrams [.slice A2 p.setup.bigrams.length Ak2] F2) (r' : (pBigrams J.bg).rep ob w' q.setup.bigrams [.slice B2 q.setup.bigrams.length Bk2] G2) (x6 : w'.cell? ⟨g, 6, none⟩ = some (.int .i64 p.setup.dflt)) (y6 : w'.cell? ⟨g', 6, none⟩ = some (.int .i64 q.setup.dflt)) (x7 : w'.cell? ⟨g, 7, none⟩ = some (.slice A2 p.setup.bigrams.length Ak2)) (y7 : w'.cell? ⟨g', 7, none⟩ = some (.slice B2 q.setup.bigrams.length Bk2)) => spec_l18Same_c (n := p.setup.dflt) (m' := q.setup.dflt) (g := g) (f := 6) (g' := g') (f' := 6) w' x6 y6 x7 y7 r r' hp.s.b hq.s.b)
 have C5 := Lib.hid (fun w' (r : (pStrokes I.pt I.st).rep oa w' p.strokes [.slice A3 p.strokes.length Ak3] F3) (r' : (pStrokes J.pt J.st).rep ob w' q.strokes [.slice B3 q.strokes.length Bk3] G3) (x9 : w'.cell? ⟨g, 9, none⟩ = some (.slice A3 p.strokes.length Ak3)) (y9 : w'.cell? ⟨g', 9, none⟩ = some (.slice B3 q.strokes.length Bk3)) => spec_l02Same_c (g := g) (f := 9) (g' := g') (f' := 9) w' x9 y9 r r' hp.i hq.i hp.j hq.j)
 have C6 := Lib.hid (fun (gx gy : Nat) w' (r : (pPoints I.pt).rep oa w' p.opn [.slice A4 p.opn.length Ak4] F4) (r' : (pPoints J.pt).rep ob w' q.opn [.slice B4 q.opn.length Bk4] G4) (x0 : w'.cell? ⟨gx, 0, none⟩ = some (.slice A4 p.opn.length Ak4)) (y0 : w'.cell? ⟨gy, 0, none⟩ = some (.slice B4 q.opn.length Bk4)) => spec_l02SameStroke_c (g := gx) (f := 0) (g' := gy) (f' := 0) w' x0 y0 r r' hp.o hq.o)
 have C8 := Lib.hid (fun w' (r : (strs 9).rep oa w' p.words [.slice A5 p.words.length Ak5] F5) (r' : (strs 9).rep ob w' q.words [.slice B5 q.words.length Bk5] G5) => spec_l26SameWords_c w' r r' hp.w hq.w)
 have E1 := Setting_neq ⟨p.setup.points, p.setup.most, p.setup.pen⟩ ⟨q.setup.points, q.setup.most, q.setup.pen⟩
 have hm : Tryz.prog.eqGuardType Tryz.prog.depth 53 = false := by kernel_rfl
 have g4 : (p.setup.pause != q.setup.pause) = !(decide (p.setup.pause = q.setup.pause)) := by by_cases hh : p.setup.pause = q.setup.pause <;> simp [hh]
 have g7 : (p.time == q.time) = decide (p.time = q.time) := by by_cases hh : p.time = q.time <;> simp [hh]
 unfold sameSessB sameSetupB
 generalize (decide (p.setup.band = q.setup.band) && decide (p.setup.temps = q.setup.temps)) = d0 at *
 generalize decide ((⟨p.setup.points, p.setup.most, p.setup.pen⟩ : PSetting) = ⟨q.setup.points, q.setup.most, q.setup.pen⟩) = d1 at *
 generalize decide (p.setup.entries = q.setup.entries) = d2 at *
 generalize (decide (p.setup.dflt = q.setup.dflt) && decide (p.setup.bigrams = q.setup.bigrams)) = d3 at *
 generalize decide (p.setup.pause = q.setup.pause) = d4 at *
 generalize decide (p.strokes = q.strokes) = d5 at *
 generalize decide (p.opn = q.opn) = d6 at *
 generalize decide (p.time = q.time) = d7 at *
 generalize decide (p.words = q.words) = d8 at *
 have bb : Below w.heap.size w w := Below.refl _ _
 go_enter Tryz.func29, Tryz.ntmps29
 go_wp2_with fail
 replace R := R.drew
 replace Q := Q.drew
 have hS : (fun w' : World => w'.cell? ⟨g, 0, none⟩ = some (.int .i64 p.setup.band) ∧ w'.cell? ⟨g, 1, none⟩ = some (.slice A0 p.setup.temps.length Ak0) ∧ w'.cell? ⟨g, 2, none⟩ = some (.int .i64 p.setup.points) ∧ w'.cell? ⟨g, 3, none⟩ = some (.int .i64 p.setup.most) ∧ w'.cell? ⟨g, 4, none⟩ = some (.int .i64 p.setup.pen) ∧ w'.cell? ⟨g, 5, none⟩ = some (.slice A1 p.setup.entries.length Ak1) ∧ w'.cell? ⟨g, 6, none⟩ = some (.int .i64 p.setup.dflt) ∧ w'.cell? ⟨g, 7, none⟩ = some (.slice A2 p.setup.bigrams.length Ak2) ∧ w'.cell? ⟨g, 8, none⟩ = some (.int .i64 p.setup.pause) ∧ w'.cell? ⟨g', 0, none⟩ = some (.int .i64 q.setup.band) ∧ w'.cell? ⟨g', 1, none⟩ = some (.slice B0 q.setup.temps.length Bk0) ∧ w'.cell? ⟨g', 2, none⟩ = some (.int .i64 q.setup.points) ∧ w'.cell? ⟨g', 3, none⟩ = some (.int .i64 q.setup.most) ∧ w'.cell? ⟨g', 4, none⟩ = some (.int .i64 q.setup.pen) ∧ w'.cell? ⟨g', 5, none⟩ = some (.slice B1 q.setup.entries.length Bk1) ∧ w'.cell? ⟨g', 6, none⟩ = some (.int .i64 q.setup.dflt) ∧ w'.cell? ⟨g', 7, none⟩ = some (.slice B2 q.setup.bigrams.length Bk2) ∧ w'.cell? ⟨g', 8, none⟩ = some (.int .i64 q.setup.pause)) w.drew := ⟨R.cell' (i := 0) rfl, R.cell' (i := 1) rfl, R.cell' (i := 2) rfl, R.cell' (i := 3) rfl, R.cell' (i := 4) rfl, R.cell' (i := 5) rfl, R.cell' (i := 6) rfl, R.cell' (i := 7) rfl, R.cell' (i := 8) rfl, Q.cell' (i := 0) rfl, Q.cell' (i := 1) rfl, Q.cell' (i := 2) rfl, Q.cell' (i := 3) rfl, Q.cell' (i := 4) rfl, Q.cell' (i := 5) rfl, Q.cell' (i := 6) rfl, Q.cell' (i := 7) rfl, Q.cell' (i := 8) rfl⟩
 dsimp only at hS
 refine wp_region_held_drew (S := (fun w' : World => w'.cell? ⟨g, 0, none⟩ = some (.int .i64 p.setup.band) ∧ w'.cell? ⟨g, 1, none⟩ = some (.slice A0 p.setup.temps.length Ak0) ∧ w'.cell? ⟨g, 2, none⟩ = some (.int .i64 p.setup.points) ∧ w'.cell? ⟨g, 3, none⟩ = some (.int .i64 p.setup.most) ∧ w'.cell? ⟨g, 4, none⟩ = some (.int .i64 p.setup.pen) ∧ w'.cell? ⟨g, 5, none⟩ = some (.slice A1 p.setup.entries.length Ak1) ∧ w'.cell? ⟨g, 6, none⟩ = some (.int .i64 p.setup.dflt) ∧ w'.cell? ⟨g, 7, none⟩ = some (.slice A2 p.setup.bigrams.length Ak2) ∧ w'.cell? ⟨g, 8, none⟩ = some (.int .i64 p.setup.pause) ∧ w'.cell? ⟨g', 0, none⟩ = some (.int .i64 q.setup.band) ∧ w'.cell? ⟨g', 1, none⟩ = some (.slice B0 q.setup.temps.length Bk0) ∧ w'.cell? ⟨g', 2, none⟩ = some (.int .i64 q.setup.points) ∧ w'.cell? ⟨g', 3, none⟩ = some (.int .i64 q.setup.most) ∧ w'.cell? ⟨g', 4, none⟩ = some (.int .i64 q.setup.pen) ∧ w'.cell? ⟨g', 5, none⟩ = some (.slice B1 q.setup.entries.length Bk1) ∧ w'.cell? ⟨g', 6, none⟩ = some (.int .i64 q.setup.dflt) ∧ w'.cell? ⟨g', 7, none⟩ = some (.slice B2 q.setup.bigrams.length Bk2) ∧ w'.cell? ⟨g', 8, none⟩ = some (.int .i64 q.setup.pause))) (by kernel_rfl) hS (fun _ => ?_)
 replace bb := bb.drew
 replace h0 := h0.drew
 replace k0 := k0.drew
 replace h1 := h1.drew
 replace k1 := k1.drew
 replace h2 := h2.drew
 replace k2 := k2.drew
 replace h3 := h3.drew
 replace k3 := k3.drew
 replace h4 := h4.drew
 replace k4 := k4.drew
 replace h5 := h5.drew
 replace k5 := k5.drew
 refine tK (i := 0) (oi := zo29_3_0) (v := ?_) rfl (by kernel_rfl) (fun _ _ _ h => h) (Or.inl ⟨rfl, ?_⟩) hS ?_
 rotate_left
 · (intro w' hS'; (try dsimp only at hS'); dsimp only [zo29_3_0]; go_simp; try with_reducible rfl)
 simp only [Act.put, pA, pB, pC]
 refine tK (i := 1) (oi := zo29_3_1) (v := ?_) rfl (by kernel_rfl) (fun _ _ _ h => h) (Or.inl ⟨rfl, ?_⟩) hS ?_
 rotate_left
 · (intro w' hS'; (try dsimp only at hS'); dsimp only [zo29_3_1]; go_simp; try with_reducible rfl)
 simp only [Act.put, pA, pB, pC]
 refine tK (i := 2) (oi := zo29_3_2) (v := ?_) rfl (by kernel_rfl) (fun _ _ _ h => h) (Or.inl ⟨rfl, ?_⟩) hS ?_
 rotate_left
 · (intro w' hS'; (try dsimp only at hS'); dsimp only [zo29_3_2]; go_simp; try with_reducible rfl)
 simp only [Act.put, pA, pB, pC]
 refine tK (i := 3) (oi := zo29_3_3) (v := ?_) rfl (by kernel_rfl) (fun _ _ _ h => h) (Or.inl ⟨rfl, ?_⟩) hS ?_
 rotate_left
 · (intro w' hS'; (try dsimp only at hS'); dsimp only [zo29_3_3]; go_simp; try with_reducible rfl)
 simp only [Act.put, pA, pB, pC]
 refine tK (i := 4) (oi := zo29_3_4) (v := ?_) rfl (by kernel_rfl) (fun _ _ _ h => h) (Or.inl ⟨rfl, ?_⟩) hS ?_
 rotate_left
 · (intro w' hS'; (try dsimp only at hS'); dsimp only [zo29_3_4]; go_simp; try with_reducible rfl)
 simp only [Act.put, pA, pB, pC]
 refine tK (i := 5) (oi := zo29_3_5) (v := ?_) rfl (by kernel_rfl) (fun _ _ _ h => h) (Or.inl ⟨rfl, ?_⟩) hS ?_
 rotate_left
 · (intro w' hS'; (try dsimp only at hS'); dsimp only [zo29_3_5]; go_simp; try with_reducible rfl)
 simp only [Act.put, pA, pB, pC]
 refine wpAnyH_ready (rs := [6]) (by kernel_rfl) (by simp) ?_
 refine AllReadyH.cons (o := zo29_3_6) rfl (fun K hK => ?_) .nil
 refine step_call 76 #[.tmp 17, .tmp 20] _ rfl rfl #[.pointer (some ⟨g, 0, none⟩), .pointer (some ⟨g', 0, none⟩)] Tryz.call76 (by go_simp) (C0.out _ h0 k0 (R.cell' (i := 0) rfl) (Q.cell' (i := 0) rfl) (R.cell' (i := 1) rfl) (Q.cell' (i := 1) rfl)) ?_
 rintro e we ⟨rfl, m0, rfl⟩
 refine ⟨_, rfl, ?_⟩
 replace R := R.drewN m0
 replace Q := Q.drewN m0
 replace bb := below_drewN bb m0
 replace h0 := h0.drewN m0
 replace k0 := k0.drewN m0
 replace h1 := h1.drewN m0
 replace k1 := k1.drewN m0
 replace h2 := h2.drewN m0
 replace k2 := k2.drewN m0
 replace h3 := h3.drewN m0
 replace k3 := k3.drewN m0
 replace h4 := h4.drewN m0
 replace k4 := k4.drewN m0
 replace h5 := h5.drewN m0
 replace k5 := k5.drewN m0
 replace hS := (show (fun w' : World => w'.cell? ⟨g, 0, none⟩ = some (.int .i64 p.setup.band) ∧ w'.cell? ⟨g, 1, none⟩ = some (.slice A0 p.setup.temps.length Ak0) ∧ w'.cell? ⟨g, 2, none⟩ = some (.int .i64 p.setup.points) ∧ w'.cell? ⟨g, 3, none⟩ = some (.int .i64 p.setup.most) ∧ w'.cell? ⟨g, 4, none⟩ = some (.int .i64 p.setup.pen) ∧ w'.cell? ⟨g, 5, none⟩ = some (.slice A1 p.setup.entries.length Ak1) ∧ w'.cell? ⟨g, 6, none⟩ = some (.int .i64 p.setup.dflt) ∧ w'.cell? ⟨g, 7, none⟩ = some (.slice A2 p.setup.bigrams.length Ak2) ∧ w'.cell? ⟨g, 8, none⟩ = some (.int .i64 p.setup.pause) ∧ w'.cell? ⟨g', 0, none⟩ = some (.int .i64 q.setup.band) ∧ w'.cell? ⟨g', 1, none⟩ = some (.slice B0 q.setup.temps.length Bk0) ∧ w'.cell? ⟨g', 2, none⟩ = some (.int .i64 q.setup.points) ∧ w'.cell? ⟨g', 3, none⟩ = some (.int .i64 q.setup.most) ∧ w'.cell? ⟨g', 4, none⟩ = some (.int .i64 q.setup.pen) ∧ w'.cell? ⟨g', 5, none⟩ = some (.slice B1 q.setup.entries.length Bk1) ∧ w'.cell? ⟨g', 6, none⟩ = some (.int .i64 q.setup.dflt) ∧ w'.cell? ⟨g', 7, none⟩ = some (.slice B2 q.setup.bigrams.length Bk2) ∧ w'.cell? ⟨g', 8, none⟩ = some (.int .i64 q.setup.pause)) _ from ⟨R.cell' (i := 0) rfl, R.cell' (i := 1) rfl, R.cell' (i := 2) rfl, R.cell' (i := 3) rfl, R.cell' (i := 4) rfl, R.cell' (i := 5) rfl, R.cell' (i := 6) rfl, R.cell' (i := 7) rfl, R.cell' (i := 8) rfl, Q.cell' (i := 0) rfl, Q.cell' (i := 1) rfl, Q.cell' (i := 2) rfl, Q.cell' (i := 3) rfl, Q.cell' (i := 4) rfl, Q.cell' (i := 5) rfl, Q.cell' (i := 6) rfl, Q.cell' (i := 7) rfl, Q.cell' (i := 8) rfl⟩)
 dsimp only at hS
 refine hK.out _ _ ?_ (fun hHeld => ?_)
 · exact hS
 clear hK K hHeld
 simp only [Act.put, pA, pB, pC]
 cases d0
 · skip
   refine tK (i := 7) (oi := zo29_3_7) (v := ?_) rfl (by kernel_rfl) (fun _ _ _ h => h) (Or.inl ⟨rfl, ?_⟩) hS ?_
   rotate_left
   · (intro w' hS'; (try dsimp only at hS'); dsimp only [zo29_3_7]; go_simp; try with_reducible rfl)
   simp only [Act.put, pA, pB, pC]
   refine tK (i := 8) (oi := zo29_3_8) (v := ?_) rfl (by kernel_rfl) (fun _ _ _ h => h) (Or.inl ⟨rfl, ?_⟩) hS ?_
   rotate_left
   · (intro w' hS'; (try dsimp only at hS'); dsimp only [zo29_3_8]; go_simp; try with_reducible rfl)
   simp only [Act.put, pA, pB, pC]
   refine tK (i := 9) (oi := zo29_3_9) rfl (by kernel_rfl) (fun _ _ _ h => h) (Or.inr ⟨rfl, rfl⟩) hS ?_
   simp only [Act.put, pA, pB, pC]
   refine tK (i := 10) (oi := zo29_3_10) rfl (by kernel_rfl) (fun _ _ _ h => h) (Or.inr ⟨rfl, rfl⟩) hS ?_
   simp only [Act.put, pA, pB, pC]
   refine tK (i := 11) (oi := zo29_3_11) rfl (by kernel_rfl) (fun _ _ _ h => h) (Or.inr ⟨rfl, rfl⟩) hS ?_
   simp only [Act.put, pA, pB, pC]
   refine tK (i := 12) (oi := zo29_3_12) rfl (by kernel_rfl) (fun _ _ _ h => h) (Or.inr ⟨rfl, rfl⟩) hS ?_
   simp only [Act.put, pA, pB, pC]
   refine tK (i := 13) (oi := zo29_3_13) rfl (by kernel_rfl) (fun _ _ _ h => h) (Or.inr ⟨rfl, rfl⟩) hS ?_
   simp only [Act.put, pA, pB, pC]
   refine tK (i := 14) (oi := zo29_3_14) rfl (by kernel_rfl) (fun _ _ _ h => h) (Or.inr ⟨rfl, rfl⟩) hS ?_
   simp only [Act.put, pA, pB, pC]
   refine tK (i := 15) (oi := zo29_3_15) rfl (by kernel_rfl) (fun _ _ _ h => h) (Or.inr ⟨rfl, rfl⟩) hS ?_
   simp only [Act.put, pA, pB, pC]
   refine tK (i := 16) (oi := zo29_3_16) rfl (by kernel_rfl) (fun _ _ _ h => h) (Or.inr ⟨rfl, rfl⟩) hS ?_
   simp only [Act.put, pA, pB, pC]
   refine tK (i := 17) (oi := zo29_3_17) rfl (by kernel_rfl) (fun _ _ _ h => h) (Or.inr ⟨rfl, rfl⟩) hS ?_
   simp only [Act.put, pA, pB, pC]
   refine tK (i := 18) (oi := zo29_3_18) (v := ?_) rfl (by kernel_rfl) (fun _ _ _ h => h) (Or.inl ⟨rfl, ?_⟩) hS ?_
   rotate_left
   · (intro w' hS'; (try dsimp only at hS'); dsimp only [zo29_3_18]; go_simp; try with_reducible rfl)
   simp only [Act.put, pA, pB, pC]
   refine tK (i := 19) (oi := zo29_3_19) (v := ?_) rfl (by kernel_rfl) (fun _ _ _ h => h) (Or.inl ⟨rfl, ?_⟩) hS ?_
   rotate_left
   · (intro w' hS'; (try dsimp only at hS'); dsimp only [zo29_3_19]; go_simp; try with_reducible rfl)
   simp only [Act.put, pA, pB, pC]
   refine tK (i := 20) (oi := zo29_3_20) rfl (by kernel_rfl) (fun _ _ _ h => h) (Or.inr ⟨rfl, rfl⟩) hS ?_
   simp only [Act.put, pA, pB, pC]
   refine tK (i := 21) (oi := zo29_3_21) rfl (by kernel_rfl) (fun _ _ _ h => h) (Or.inr ⟨rfl, rfl⟩) hS ?_
   simp only [Act.put, pA, pB, pC]
   refine tK (i := 22) (oi := zo29_3_22) rfl (by kernel_rfl) (fun _ _ _ h => h) (Or.inr ⟨rfl, rfl⟩) hS ?_
   simp only [Act.put, pA, pB, pC]
   refine tK (i := 23) (oi := zo29_3_23) rfl (by kernel_rfl) (fun _ _ _ h => h) (Or.inr ⟨rfl, rfl⟩) hS ?_
   simp only [Act.put, pA, pB, pC]
   refine tK (i := 24) (oi := zo29_3_24) rfl (by kernel_rfl) (fun _ _ _ h => h) (Or.inr ⟨rfl, rfl⟩) hS ?_
   simp only [Act.put, pA, pB, pC]
   refine tK (i := 25) (oi := zo29_3_25) rfl (by kernel_rfl) (fun _ _ _ h => h) (Or.inr ⟨rfl, rfl⟩) hS ?_
   simp only [Act.put, pA, pB, pC]
   refine tK (i := 26) (oi := zo29_3_26) rfl (by kernel_rfl) (fun _ _ _ h => h) (Or.inr ⟨rfl, rfl⟩) hS ?_
   simp only [Act.put, pA, pB, pC]
   refine tK (i := 27) (oi := zo29_3_27) rfl (by kernel_rfl) (fun _ _ _ h => h) (Or.inr ⟨rfl, rfl⟩) hS ?_
   simp only [Act.put, pA, pB, pC]
   refine tK (i := 28) (oi := zo29_3_28) (v := ?_) rfl (by kernel_rfl) (fun _ _ _ h => h) (Or.inl ⟨rfl, ?_⟩) hS ?_
   rotate_left
   · (intro w' hS'; (try dsimp only at hS'); dsimp only [zo29_3_28]; go_simp; try with_reducible rfl)
   simp only [Act.put, pA, pB, pC]
   refine tK (i := 29) (oi := zo29_3_29) (v := ?_) rfl (by kernel_rfl) (fun _ _ _ h => h) (Or.inl ⟨rfl, ?_⟩) hS ?_
   rotate_left
   · (intro w' hS'; (try dsimp only at hS'); dsimp only [zo29_3_29]; go_simp; try with_reducible rfl)
   simp only [Act.put, pA, pB, pC]
   refine tK (i := 30) (oi := zo29_3_30) rfl (by kernel_rfl) (fun _ _ _ h => h) (Or.inr ⟨rfl, rfl⟩) hS ?_
   simp only [Act.put, pA, pB, pC]
   refine tK (i := 31) (oi := zo29_3_31) rfl (by kernel_rfl) (fun _ _ _ h => h) (Or.inr ⟨rfl, rfl⟩) hS ?_
   simp only [Act.put, pA, pB, pC]
   refine tK (i := 32) (oi := zo29_3_32) rfl (by kernel_rfl) (fun _ _ _ h => h) (Or.inr ⟨rfl, rfl⟩) hS ?_
   simp only [Act.put, pA, pB, pC]
   refine tK (i := 33) (oi := zo29_3_33) rfl (by kernel_rfl) (fun _ _ _ h => h) (Or.inr ⟨rfl, rfl⟩) hS ?_
   simp only [Act.put, pA, pB, pC]
   refine tK (i := 34) (oi := zo29_3_34) rfl (by kernel_rfl) (fun _ _ _ h => h) (Or.inr ⟨rfl, rfl⟩) hS ?_
   simp only [Act.put, pA, pB, pC]
   refine tK (i := 35) (oi := zo29_3_35) rfl (by kernel_rfl) (fun _ _ _ h => h) (Or.inr ⟨rfl, rfl⟩) hS ?_
   simp only [Act.put, pA, pB, pC]
   refine tK (i := 36) (oi := zo29_3_36) rfl (by kernel_rfl) (fun _ _ _ h => h) (Or.inr ⟨rfl, rfl⟩) hS ?_
   simp only [Act.put, pA, pB, pC]
   refine tK (i := 37) (oi := zo29_3_37) rfl (by kernel_rfl) (fun _ _ _ h => h) (Or.inr ⟨rfl, rfl⟩) hS ?_
   simp only [Act.put, pA, pB, pC]
   refine tK (i := 38) (oi := zo29_3_38) (v := ?_) rfl (by kernel_rfl) (fun _ _ _ h => h) (Or.inl ⟨rfl, ?_⟩) hS ?_
   rotate_left
   · (intro w' hS'; (try dsimp only at hS'); dsimp only [zo29_3_38]; go_simp; try with_reducible rfl)
   simp only [Act.put, pA, pB, pC]
   refine tK (i := 39) (oi := zo29_3_39) (v := ?_) rfl (by kernel_rfl) (fun _ _ _ h => h) (Or.inl ⟨rfl, ?_⟩) hS ?_
   rotate_left
   · (intro w' hS'; (try dsimp only at hS'); dsimp only [zo29_3_39]; go_simp; try with_reducible rfl)
   simp only [Act.put, pA, pB, pC]
   refine tK (i := 40) (oi := zo29_3_40) rfl (by kernel_rfl) (fun _ _ _ h => h) (Or.inr ⟨rfl, rfl⟩) hS ?_
   simp only [Act.put, pA, pB, pC]
   refine tK (i := 41) (oi := zo29_3_41) rfl (by kernel_rfl) (fun _ _ _ h => h) (Or.inr ⟨rfl, rfl⟩) hS ?_
   simp only [Act.put, pA, pB, pC]
   refine tK (i := 42) (oi := zo29_3_42) rfl (by kernel_rfl) (fun _ _ _ h => h) (Or.inr ⟨rfl, rfl⟩) hS ?_
   simp only [Act.put, pA, pB, pC]
   refine tK (i := 43) (oi := zo29_3_43) rfl (by kernel_rfl) (fun _ _ _ h => h) (Or.inr ⟨rfl, rfl⟩) hS ?_
   simp only [Act.put, pA, pB, pC]
   refine tK (i := 44) (oi := zo29_3_44) rfl (by kernel_rfl) (fun _ _ _ h => h) (Or.inr ⟨rfl, rfl⟩) hS ?_
   simp only [Act.put, pA, pB, pC]
   refine tK (i := 45) (oi := zo29_3_45) rfl (by kernel_rfl) (fun _ _ _ h => h) (Or.inr ⟨rfl, rfl⟩) hS ?_
   simp only [Act.put, pA, pB, pC]
   refine tK (i := 46) (oi := zo29_3_46) rfl (by kernel_rfl) (fun _ _ _ h => h) (Or.inr ⟨rfl, rfl⟩) hS ?_
   simp only [Act.put, pA, pB, pC]
   refine tK (i := 47) (oi := zo29_3_47) rfl (by kernel_rfl) (fun _ _ _ h => h) (Or.inr ⟨rfl, rfl⟩) hS ?_
   simp only [Act.put, pA, pB, pC]
   refine tK (i := 48) (oi := zo29_3_48) rfl (by kernel_rfl) (fun _ _ _ h => h) (Or.inr ⟨rfl, rfl⟩) hS ?_
   simp only [Act.put, pA, pB, pC]
   refine tK (i := 49) (oi := zo29_3_49) (v := ?_) rfl (by kernel_rfl) (fun _ _ _ h => h) (Or.inl ⟨rfl, ?_⟩) hS ?_
   rotate_left
   · (intro w' hS'; (try dsimp only at hS'); dsimp only [zo29_3_49]; go_simp; try with_reducible rfl)
   simp only [Act.put, pA, pB, pC]
   refine wpAnyH_done (by kernel_rfl) ?_ _
   go_wp2_with fail
   go_ret
   first | exact ⟨rfl, bb⟩ | exact ⟨by simp, bb⟩
 cases d1
 · skip
   refine tK (i := 7) (oi := zo29_3_7) (v := ?_) rfl (by kernel_rfl) (fun _ _ _ h => h) (Or.inl ⟨rfl, ?_⟩) hS ?_
   rotate_left
   · (intro w' hS'; (try dsimp only at hS'); dsimp only [zo29_3_7]; go_simp; try with_reducible rfl)
   simp only [Act.put, pA, pB, pC]
   refine tK (i := 8) (oi := zo29_3_8) (v := ?_) rfl (by kernel_rfl) (fun _ _ _ h => h) (Or.inl ⟨rfl, ?_⟩) hS ?_
   rotate_left
   · (intro w' hS'; (try dsimp only at hS'); dsimp only [zo29_3_8]; go_simp; try with_reducible rfl)
   simp only [Act.put, pA, pB, pC]
   refine tK (i := 9) (oi := zo29_3_9) (v := ?_) rfl (by kernel_rfl) (fun _ _ _ h => h) (Or.inl ⟨rfl, ?_⟩) hS ?_
   rotate_left
   · (intro w' hS'; (try dsimp only at hS'); dsimp only [zo29_3_9]; go_simp; try with_reducible rfl)
   simp only [Act.put, pA, pB, pC]
   refine tK (i := 10) (oi := zo29_3_10) (v := ?_) rfl (by kernel_rfl) (fun _ _ _ h => h) (Or.inl ⟨rfl, ?_⟩) hS ?_
   rotate_left
   · (intro w' hS'; (try dsimp only at hS'); dsimp only [zo29_3_10]; go_simp; try with_reducible rfl)
   simp only [Act.put, pA, pB, pC]
   refine tK (i := 11) (oi := zo29_3_11) (v := ?_) rfl (by kernel_rfl) (fun _ _ _ h => h) (Or.inl ⟨rfl, ?_⟩) hS ?_
   rotate_left
   · (intro w' hS'; (try dsimp only at hS'); dsimp only [zo29_3_11]; go_simp; try with_reducible rfl)
   simp only [Act.put, pA, pB, pC]
   refine tK (i := 12) (oi := zo29_3_12) (v := ?_) rfl (by kernel_rfl) (fun _ _ _ h => h) (Or.inl ⟨rfl, ?_⟩) hS ?_
   rotate_left
   · (intro w' hS'; (try dsimp only at hS'); dsimp only [zo29_3_12]; go_simp; try with_reducible rfl)
   simp only [Act.put, pA, pB, pC]
   refine tK (i := 13) (oi := zo29_3_13) (v := ?_) rfl (by kernel_rfl) (fun _ _ _ h => h) (Or.inl ⟨rfl, ?_⟩) hS ?_
   rotate_left
   · (intro w' hS'; (try dsimp only at hS'); dsimp only [zo29_3_13]; go_simp; try with_reducible rfl)
   simp only [Act.put, pA, pB, pC]
   refine tK (i := 14) (oi := zo29_3_14) (v := ?_) rfl (by kernel_rfl) (fun _ _ _ h => h) (Or.inl ⟨rfl, ?_⟩) hS ?_
   rotate_left
   · (intro w' hS'; (try dsimp only at hS'); dsimp only [zo29_3_14]; go_simp; try with_reducible rfl)
   simp only [Act.put, pA, pB, pC]
   refine tK (i := 15) (oi := zo29_3_15) (v := ?_) rfl (by kernel_rfl) (fun _ _ _ h => h) (Or.inl ⟨rfl, ?_⟩) hS ?_
   rotate_left
   · (intro w' hS'; (try dsimp only at hS'); dsimp only [zo29_3_15]; go_simp; try with_reducible rfl)
   simp only [Act.put, pA, pB, pC]
   refine tK (i := 16) (oi := zo29_3_16) (v := ?_) rfl (by kernel_rfl) (fun _ _ _ h => h) (Or.inl ⟨rfl, ?_⟩) hS ?_
   rotate_left
   · (intro w' hS'; (try dsimp only at hS'); dsimp only [zo29_3_16]; go_simp; try with_reducible rfl)
   simp only [Act.put, pA, pB, pC]
   refine tK (i := 17) (oi := zo29_3_17) (v := ?_) rfl (by kernel_rfl) (fun _ _ _ h => h) (Or.inl ⟨rfl, ?_⟩) hS ?_
   rotate_left
   · (intro w' hS'; (try dsimp only at hS'); dsimp only [zo29_3_17]; go_simp; try with_reducible rfl)
   simp only [Act.put, pA, pB, pC]
   refine tK (i := 18) (oi := zo29_3_18) (v := ?_) rfl (by kernel_rfl) (fun _ _ _ h => h) (Or.inl ⟨rfl, ?_⟩) hS ?_
   rotate_left
   · (intro w' hS'; (try dsimp only at hS'); dsimp only [zo29_3_18]; go_simp; try with_reducible rfl)
   simp only [Act.put, pA, pB, pC]
   refine tK (i := 19) (oi := zo29_3_19) (v := ?_) rfl (by kernel_rfl) (fun _ _ _ h => h) (Or.inl ⟨rfl, ?_⟩) hS ?_
   rotate_left
   · (intro w' hS'; (try dsimp only at hS'); dsimp only [zo29_3_19]; go_simp; try with_reducible rfl)
   simp only [Act.put, pA, pB, pC]
   refine tK (i := 20) (oi := zo29_3_20) rfl (by kernel_rfl) (fun _ _ _ h => h) (Or.inr ⟨rfl, rfl⟩) hS ?_
   simp only [Act.put, pA, pB, pC]
   refine tK (i := 21) (oi := zo29_3_21) rfl (by kernel_rfl) (fun _ _ _ h => h) (Or.inr ⟨rfl, rfl⟩) hS ?_
   simp only [Act.put, pA, pB, pC]
   refine tK (i := 22) (oi := zo29_3_22) rfl (by kernel_rfl) (fun _ _ _ h => h) (Or.inr ⟨rfl, rfl⟩) hS ?_
   simp only [Act.put, pA, pB, pC]
   refine tK (i := 23) (oi := zo29_3_23) rfl (by kernel_rfl) (fun _ _ _ h => h) (Or.inr ⟨rfl, rfl⟩) hS ?_
   simp only [Act.put, pA, pB, pC]
   refine tK (i := 24) (oi := zo29_3_24) rfl (by kernel_rfl) (fun _ _ _ h => h) (Or.inr ⟨rfl, rfl⟩) hS ?_
   simp only [Act.put, pA, pB, pC]
   refine tK (i := 25) (oi := zo29_3_25) rfl (by kernel_rfl) (fun _ _ _ h => h) (Or.inr ⟨rfl, rfl⟩) hS ?_
   simp only [Act.put, pA, pB, pC]
   refine tK (i := 26) (oi := zo29_3_26) rfl (by kernel_rfl) (fun _ _ _ h => h) (Or.inr ⟨rfl, rfl⟩) hS ?_
   simp only [Act.put, pA, pB, pC]
   refine tK (i := 27) (oi := zo29_3_27) rfl (by kernel_rfl) (fun _ _ _ h => h) (Or.inr ⟨rfl, rfl⟩) hS ?_
   simp only [Act.put, pA, pB, pC]
   refine tK (i := 28) (oi := zo29_3_28) (v := ?_) rfl (by kernel_rfl) (fun _ _ _ h => h) (Or.inl ⟨rfl, ?_⟩) hS ?_
   rotate_left
   · (intro w' hS'; (try dsimp only at hS'); dsimp only [zo29_3_28]; go_simp; try with_reducible rfl)
   simp only [Act.put, pA, pB, pC]
   refine tK (i := 29) (oi := zo29_3_29) (v := ?_) rfl (by kernel_rfl) (fun _ _ _ h => h) (Or.inl ⟨rfl, ?_⟩) hS ?_
   rotate_left
   · (intro w' hS'; (try dsimp only at hS'); dsimp only [zo29_3_29]; go_simp; try with_reducible rfl)
   simp only [Act.put, pA, pB, pC]
   refine tK (i := 30) (oi := zo29_3_30) rfl (by kernel_rfl) (fun _ _ _ h => h) (Or.inr ⟨rfl, rfl⟩) hS ?_
   simp only [Act.put, pA, pB, pC]
   refine tK (i := 31) (oi := zo29_3_31) rfl (by kernel_rfl) (fun _ _ _ h => h) (Or.inr ⟨rfl, rfl⟩) hS ?_
   simp only [Act.put, pA, pB, pC]
   refine tK (i := 32) (oi := zo29_3_32) rfl (by kernel_rfl) (fun _ _ _ h => h) (Or.inr ⟨rfl, rfl⟩) hS ?_
   simp only [Act.put, pA, pB, pC]
   refine tK (i := 33) (oi := zo29_3_33) rfl (by kernel_rfl) (fun _ _ _ h => h) (Or.inr ⟨rfl, rfl⟩) hS ?_
   simp only [Act.put, pA, pB, pC]
   refine tK (i := 34) (oi := zo29_3_34) rfl (by kernel_rfl) (fun _ _ _ h => h) (Or.inr ⟨rfl, rfl⟩) hS ?_
   simp only [Act.put, pA, pB, pC]
   refine tK (i := 35) (oi := zo29_3_35) rfl (by kernel_rfl) (fun _ _ _ h => h) (Or.inr ⟨rfl, rfl⟩) hS ?_
   simp only [Act.put, pA, pB, pC]
   refine tK (i := 36) (oi := zo29_3_36) rfl (by kernel_rfl) (fun _ _ _ h => h) (Or.inr ⟨rfl, rfl⟩) hS ?_
   simp only [Act.put, pA, pB, pC]
   refine tK (i := 37) (oi := zo29_3_37) rfl (by kernel_rfl) (fun _ _ _ h => h) (Or.inr ⟨rfl, rfl⟩) hS ?_
   simp only [Act.put, pA, pB, pC]
   refine tK (i := 38) (oi := zo29_3_38) (v := ?_) rfl (by kernel_rfl) (fun _ _ _ h => h) (Or.inl ⟨rfl, ?_⟩) hS ?_
   rotate_left
   · (intro w' hS'; (try dsimp only at hS'); dsimp only [zo29_3_38]; go_simp; try with_reducible rfl)
   simp only [Act.put, pA, pB, pC]
   refine tK (i := 39) (oi := zo29_3_39) (v := ?_) rfl (by kernel_rfl) (fun _ _ _ h => h) (Or.inl ⟨rfl, ?_⟩) hS ?_
   rotate_left
   · (intro w' hS'; (try dsimp only at hS'); dsimp only [zo29_3_39]; go_simp; try with_reducible rfl)
   simp only [Act.put, pA, pB, pC]
   refine tK (i := 40) (oi := zo29_3_40) rfl (by kernel_rfl) (fun _ _ _ h => h) (Or.inr ⟨rfl, rfl⟩) hS ?_
   simp only [Act.put, pA, pB, pC]
   refine tK (i := 41) (oi := zo29_3_41) rfl (by kernel_rfl) (fun _ _ _ h => h) (Or.inr ⟨rfl, rfl⟩) hS ?_
   simp only [Act.put, pA, pB, pC]
   refine tK (i := 42) (oi := zo29_3_42) rfl (by kernel_rfl) (fun _ _ _ h => h) (Or.inr ⟨rfl, rfl⟩) hS ?_
   simp only [Act.put, pA, pB, pC]
   refine tK (i := 43) (oi := zo29_3_43) rfl (by kernel_rfl) (fun _ _ _ h => h) (Or.inr ⟨rfl, rfl⟩) hS ?_
   simp only [Act.put, pA, pB, pC]
   refine tK (i := 44) (oi := zo29_3_44) rfl (by kernel_rfl) (fun _ _ _ h => h) (Or.inr ⟨rfl, rfl⟩) hS ?_
   simp only [Act.put, pA, pB, pC]
   refine tK (i := 45) (oi := zo29_3_45) rfl (by kernel_rfl) (fun _ _ _ h => h) (Or.inr ⟨rfl, rfl⟩) hS ?_
   simp only [Act.put, pA, pB, pC]
   refine tK (i := 46) (oi := zo29_3_46) rfl (by kernel_rfl) (fun _ _ _ h => h) (Or.inr ⟨rfl, rfl⟩) hS ?_
   simp only [Act.put, pA, pB, pC]
   refine tK (i := 47) (oi := zo29_3_47) rfl (by kernel_rfl) (fun _ _ _ h => h) (Or.inr ⟨rfl, rfl⟩) hS ?_
   simp only [Act.put, pA, pB, pC]
   refine tK (i := 48) (oi := zo29_3_48) rfl (by kernel_rfl) (fun _ _ _ h => h) (Or.inr ⟨rfl, rfl⟩) hS ?_
   simp only [Act.put, pA, pB, pC]
   refine tK (i := 49) (oi := zo29_3_49) (v := ?_) rfl (by kernel_rfl) (fun _ _ _ h => h) (Or.inl ⟨rfl, ?_⟩) hS ?_
   rotate_left
   · (intro w' hS'; (try dsimp only at hS'); dsimp only [zo29_3_49]; go_simp; try with_reducible rfl)
   simp only [Act.put, pA, pB, pC]
   refine wpAnyH_done (by kernel_rfl) ?_ _
   go_wp2_with fail
   go_ret
   first | exact ⟨rfl, bb⟩ | exact ⟨by simp, bb⟩
 refine tK (i := 7) (oi := zo29_3_7) (v := ?_) rfl (by kernel_rfl) (fun _ _ _ h => h) (Or.inl ⟨rfl, ?_⟩) hS ?_
 rotate_left
 · (intro w' hS'; (try dsimp only at hS'); dsimp only [zo29_3_7]; go_simp; try with_reducible rfl)
 simp only [Act.put, pA, pB, pC]
 refine tK (i := 8) (oi := zo29_3_8) (v := ?_) rfl (by kernel_rfl) (fun _ _ _ h => h) (Or.inl ⟨rfl, ?_⟩) hS ?_
 rotate_left
 · (intro w' hS'; (try dsimp only at hS'); dsimp only [zo29_3_8]; go_simp; try with_reducible rfl)
 simp only [Act.put, pA, pB, pC]
 refine tK (i := 9) (oi := zo29_3_9) (v := ?_) rfl (by kernel_rfl) (fun _ _ _ h => h) (Or.inl ⟨rfl, ?_⟩) hS ?_
 rotate_left
 · (intro w' hS'; (try dsimp only at hS'); dsimp only [zo29_3_9]; go_simp; try with_reducible rfl)
 simp only [Act.put, pA, pB, pC]
 refine tK (i := 10) (oi := zo29_3_10) (v := ?_) rfl (by kernel_rfl) (fun _ _ _ h => h) (Or.inl ⟨rfl, ?_⟩) hS ?_
 rotate_left
 · (intro w' hS'; (try dsimp only at hS'); dsimp only [zo29_3_10]; go_simp; try with_reducible rfl)
 simp only [Act.put, pA, pB, pC]
 refine tK (i := 11) (oi := zo29_3_11) (v := ?_) rfl (by kernel_rfl) (fun _ _ _ h => h) (Or.inl ⟨rfl, ?_⟩) hS ?_
 rotate_left
 · (intro w' hS'; (try dsimp only at hS'); dsimp only [zo29_3_11]; go_simp; try with_reducible rfl)
 simp only [Act.put, pA, pB, pC]
 refine tK (i := 12) (oi := zo29_3_12) (v := ?_) rfl (by kernel_rfl) (fun _ _ _ h => h) (Or.inl ⟨rfl, ?_⟩) hS ?_
 rotate_left
 · (intro w' hS'; (try dsimp only at hS'); dsimp only [zo29_3_12]; go_simp; try with_reducible rfl)
 simp only [Act.put, pA, pB, pC]
 refine tK (i := 13) (oi := zo29_3_13) (v := ?_) rfl (by kernel_rfl) (fun _ _ _ h => h) (Or.inl ⟨rfl, ?_⟩) hS ?_
 rotate_left
 · (intro w' hS'; (try dsimp only at hS'); dsimp only [zo29_3_13]; go_simp; try with_reducible rfl)
 simp only [Act.put, pA, pB, pC]
 refine tK (i := 14) (oi := zo29_3_14) (v := ?_) rfl (by kernel_rfl) (fun _ _ _ h => h) (Or.inl ⟨rfl, ?_⟩) hS ?_
 rotate_left
 · (intro w' hS'; (try dsimp only at hS'); dsimp only [zo29_3_14]; go_simp; try with_reducible rfl)
 simp only [Act.put, pA, pB, pC]
 refine tK (i := 15) (oi := zo29_3_15) (v := ?_) rfl (by kernel_rfl) (fun _ _ _ h => h) (Or.inl ⟨rfl, ?_⟩) hS ?_
 rotate_left
 · (intro w' hS'; (try dsimp only at hS'); dsimp only [zo29_3_15]; go_simp; try with_reducible rfl)
 simp only [Act.put, pA, pB, pC]
 refine tK (i := 16) (oi := zo29_3_16) (v := ?_) rfl (by kernel_rfl) (fun _ _ _ h => h) (Or.inl ⟨rfl, ?_⟩) hS ?_
 rotate_left
 · (intro w' hS'; (try dsimp only at hS'); dsimp only [zo29_3_16]; go_simp; try with_reducible rfl)
 simp only [Act.put, pA, pB, pC]
 refine tK (i := 17) (oi := zo29_3_17) (v := ?_) rfl (by kernel_rfl) (fun _ _ _ h => h) (Or.inl ⟨rfl, ?_⟩) hS ?_
 rotate_left
 · (intro w' hS'; (try dsimp only at hS'); dsimp only [zo29_3_17]; go_simp; try with_reducible rfl)
 simp only [Act.put, pA, pB, pC]
 refine tK (i := 18) (oi := zo29_3_18) (v := ?_) rfl (by kernel_rfl) (fun _ _ _ h => h) (Or.inl ⟨rfl, ?_⟩) hS ?_
 rotate_left
 · (intro w' hS'; (try dsimp only at hS'); dsimp only [zo29_3_18]; go_simp; try with_reducible rfl)
 simp only [Act.put, pA, pB, pC]
 refine tK (i := 19) (oi := zo29_3_19) (v := ?_) rfl (by kernel_rfl) (fun _ _ _ h => h) (Or.inl ⟨rfl, ?_⟩) hS ?_
 rotate_left
 · (intro w' hS'; (try dsimp only at hS'); dsimp only [zo29_3_19]; go_simp; try with_reducible rfl)
 simp only [Act.put, pA, pB, pC]
 refine tK (i := 20) (oi := zo29_3_20) (v := ?_) rfl (by kernel_rfl) (fun _ _ _ h => h) (Or.inl ⟨rfl, ?_⟩) hS ?_
 rotate_left
 · (intro w' hS'; (try dsimp only at hS'); dsimp only [zo29_3_20]; go_simp; try with_reducible rfl)
 simp only [Act.put, pA, pB, pC]
 refine tK (i := 21) (oi := zo29_3_21) (v := ?_) rfl (by kernel_rfl) (fun _ _ _ h => h) (Or.inl ⟨rfl, ?_⟩) hS ?_
 rotate_left
 · (intro w' hS'; (try dsimp only at hS'); dsimp only [zo29_3_21]; go_simp; try with_reducible rfl)
 simp only [Act.put, pA, pB, pC]
 refine tK (i := 22) (oi := zo29_3_22) (v := ?_) rfl (by kernel_rfl) (fun _ _ _ h => h) (Or.inl ⟨rfl, ?_⟩) hS ?_
 rotate_left
 · (intro w' hS'; (try dsimp only at hS'); dsimp only [zo29_3_22]; go_simp; try with_reducible rfl)
 simp only [Act.put, pA, pB, pC]
 refine tK (i := 23) (oi := zo29_3_23) (v := ?_) rfl (by kernel_rfl) (fun _ _ _ h => h) (Or.inl ⟨rfl, ?_⟩) hS ?_
 rotate_left
 · (intro w' hS'; (try dsimp only at hS'); dsimp only [zo29_3_23]; go_simp; try with_reducible rfl)
 simp only [Act.put, pA, pB, pC]
 refine tK (i := 24) (oi := zo29_3_24) (v := ?_) rfl (by kernel_rfl) (fun _ _ _ h => h) (Or.inl ⟨rfl, ?_⟩) hS ?_
 rotate_left
 · (intro w' hS'; (try dsimp only at hS'); dsimp only [zo29_3_24]; go_simp; try with_reducible rfl)
 simp only [Act.put, pA, pB, pC]
 refine tK (i := 25) (oi := zo29_3_25) (v := ?_) rfl (by kernel_rfl) (fun _ _ _ h => h) (Or.inl ⟨rfl, ?_⟩) hS ?_
 rotate_left
 · (intro w' hS'; (try dsimp only at hS'); dsimp only [zo29_3_25]; go_simp; try with_reducible rfl)
 simp only [Act.put, pA, pB, pC]
 refine wpAnyH_ready (rs := [26]) (by kernel_rfl) (by simp) ?_
 refine AllReadyH.cons (o := zo29_3_26) rfl (fun K hK => ?_) .nil
 refine step_call 77 #[.tmp 37, .tmp 40] _ rfl rfl #[.pointer (some ⟨g, 5, none⟩), .pointer (some ⟨g', 5, none⟩)] Tryz.call77 (by go_simp) (C2.out _ h1 k1 (R.cell' (i := 5) rfl) (Q.cell' (i := 5) rfl)) ?_
 rintro e we ⟨rfl, m2, rfl⟩
 refine ⟨_, rfl, ?_⟩
 replace R := R.drewN m2
 replace Q := Q.drewN m2
 replace bb := below_drewN bb m2
 replace h0 := h0.drewN m2
 replace k0 := k0.drewN m2
 replace h1 := h1.drewN m2
 replace k1 := k1.drewN m2
 replace h2 := h2.drewN m2
 replace k2 := k2.drewN m2
 replace h3 := h3.drewN m2
 replace k3 := k3.drewN m2
 replace h4 := h4.drewN m2
 replace k4 := k4.drewN m2
 replace h5 := h5.drewN m2
 replace k5 := k5.drewN m2
 replace hS := (show (fun w' : World => w'.cell? ⟨g, 0, none⟩ = some (.int .i64 p.setup.band) ∧ w'.cell? ⟨g, 1, none⟩ = some (.slice A0 p.setup.temps.length Ak0) ∧ w'.cell? ⟨g, 2, none⟩ = some (.int .i64 p.setup.points) ∧ w'.cell? ⟨g, 3, none⟩ = some (.int .i64 p.setup.most) ∧ w'.cell? ⟨g, 4, none⟩ = some (.int .i64 p.setup.pen) ∧ w'.cell? ⟨g, 5, none⟩ = some (.slice A1 p.setup.entries.length Ak1) ∧ w'.cell? ⟨g, 6, none⟩ = some (.int .i64 p.setup.dflt) ∧ w'.cell? ⟨g, 7, none⟩ = some (.slice A2 p.setup.bigrams.length Ak2) ∧ w'.cell? ⟨g, 8, none⟩ = some (.int .i64 p.setup.pause) ∧ w'.cell? ⟨g', 0, none⟩ = some (.int .i64 q.setup.band) ∧ w'.cell? ⟨g', 1, none⟩ = some (.slice B0 q.setup.temps.length Bk0) ∧ w'.cell? ⟨g', 2, none⟩ = some (.int .i64 q.setup.points) ∧ w'.cell? ⟨g', 3, none⟩ = some (.int .i64 q.setup.most) ∧ w'.cell? ⟨g', 4, none⟩ = some (.int .i64 q.setup.pen) ∧ w'.cell? ⟨g', 5, none⟩ = some (.slice B1 q.setup.entries.length Bk1) ∧ w'.cell? ⟨g', 6, none⟩ = some (.int .i64 q.setup.dflt) ∧ w'.cell? ⟨g', 7, none⟩ = some (.slice B2 q.setup.bigrams.length Bk2) ∧ w'.cell? ⟨g', 8, none⟩ = some (.int .i64 q.setup.pause)) _ from ⟨R.cell' (i := 0) rfl, R.cell' (i := 1) rfl, R.cell' (i := 2) rfl, R.cell' (i := 3) rfl, R.cell' (i := 4) rfl, R.cell' (i := 5) rfl, R.cell' (i := 6) rfl, R.cell' (i := 7) rfl, R.cell' (i := 8) rfl, Q.cell' (i := 0) rfl, Q.cell' (i := 1) rfl, Q.cell' (i := 2) rfl, Q.cell' (i := 3) rfl, Q.cell' (i := 4) rfl, Q.cell' (i := 5) rfl, Q.cell' (i := 6) rfl, Q.cell' (i := 7) rfl, Q.cell' (i := 8) rfl⟩)
 dsimp only at hS
 refine hK.out _ _ ?_ (fun hHeld => ?_)
 · exact hS
 clear hK K hHeld
 simp only [Act.put, pA, pB, pC]
 cases d2
 · skip
   refine tK (i := 27) (oi := zo29_3_27) (v := ?_) rfl (by kernel_rfl) (fun _ _ _ h => h) (Or.inl ⟨rfl, ?_⟩) hS ?_
   rotate_left
   · (intro w' hS'; (try dsimp only at hS'); dsimp only [zo29_3_27]; go_simp; try with_reducible rfl)
   simp only [Act.put, pA, pB, pC]
   refine tK (i := 28) (oi := zo29_3_28) (v := ?_) rfl (by kernel_rfl) (fun _ _ _ h => h) (Or.inl ⟨rfl, ?_⟩) hS ?_
   rotate_left
   · (intro w' hS'; (try dsimp only at hS'); dsimp only [zo29_3_28]; go_simp; try with_reducible rfl)
   simp only [Act.put, pA, pB, pC]
   refine tK (i := 29) (oi := zo29_3_29) (v := ?_) rfl (by kernel_rfl) (fun _ _ _ h => h) (Or.inl ⟨rfl, ?_⟩) hS ?_
   rotate_left
   · (intro w' hS'; (try dsimp only at hS'); dsimp only [zo29_3_29]; go_simp; try with_reducible rfl)
   simp only [Act.put, pA, pB, pC]
   refine tK (i := 30) (oi := zo29_3_30) rfl (by kernel_rfl) (fun _ _ _ h => h) (Or.inr ⟨rfl, rfl⟩) hS ?_
   simp only [Act.put, pA, pB, pC]
   refine tK (i := 31) (oi := zo29_3_31) rfl (by kernel_rfl) (fun _ _ _ h => h) (Or.inr ⟨rfl, rfl⟩) hS ?_
   simp only [Act.put, pA, pB, pC]
   refine tK (i := 32) (oi := zo29_3_32) rfl (by kernel_rfl) (fun _ _ _ h => h) (Or.inr ⟨rfl, rfl⟩) hS ?_
   simp only [Act.put, pA, pB, pC]
   refine tK (i := 33) (oi := zo29_3_33) rfl (by kernel_rfl) (fun _ _ _ h => h) (Or.inr ⟨rfl, rfl⟩) hS ?_
   simp only [Act.put, pA, pB, pC]
   refine tK (i := 34) (oi := zo29_3_34) rfl (by kernel_rfl) (fun _ _ _ h => h) (Or.inr ⟨rfl, rfl⟩) hS ?_
   simp only [Act.put, pA, pB, pC]
   refine tK (i := 35) (oi := zo29_3_35) rfl (by kernel_rfl) (fun _ _ _ h => h) (Or.inr ⟨rfl, rfl⟩) hS ?_
   simp only [Act.put, pA, pB, pC]
   refine tK (i := 36) (oi := zo29_3_36) rfl (by kernel_rfl) (fun _ _ _ h => h) (Or.inr ⟨rfl, rfl⟩) hS ?_
   simp only [Act.put, pA, pB, pC]
   refine tK (i := 37) (oi := zo29_3_37) rfl (by kernel_rfl) (fun _ _ _ h => h) (Or.inr ⟨rfl, rfl⟩) hS ?_
   simp only [Act.put, pA, pB, pC]
   refine tK (i := 38) (oi := zo29_3_38) (v := ?_) rfl (by kernel_rfl) (fun _ _ _ h => h) (Or.inl ⟨rfl, ?_⟩) hS ?_
   rotate_left
   · (intro w' hS'; (try dsimp only at hS'); dsimp only [zo29_3_38]; go_simp; try with_reducible rfl)
   simp only [Act.put, pA, pB, pC]
   refine tK (i := 39) (oi := zo29_3_39) (v := ?_) rfl (by kernel_rfl) (fun _ _ _ h => h) (Or.inl ⟨rfl, ?_⟩) hS ?_
   rotate_left
   · (intro w' hS'; (try dsimp only at hS'); dsimp only [zo29_3_39]; go_simp; try with_reducible rfl)
   simp only [Act.put, pA, pB, pC]
   refine tK (i := 40) (oi := zo29_3_40) rfl (by kernel_rfl) (fun _ _ _ h => h) (Or.inr ⟨rfl, rfl⟩) hS ?_
   simp only [Act.put, pA, pB, pC]
   refine tK (i := 41) (oi := zo29_3_41) rfl (by kernel_rfl) (fun _ _ _ h => h) (Or.inr ⟨rfl, rfl⟩) hS ?_
   simp only [Act.put, pA, pB, pC]
   refine tK (i := 42) (oi := zo29_3_42) rfl (by kernel_rfl) (fun _ _ _ h => h) (Or.inr ⟨rfl, rfl⟩) hS ?_
   simp only [Act.put, pA, pB, pC]
   refine tK (i := 43) (oi := zo29_3_43) rfl (by kernel_rfl) (fun _ _ _ h => h) (Or.inr ⟨rfl, rfl⟩) hS ?_
   simp only [Act.put, pA, pB, pC]
   refine tK (i := 44) (oi := zo29_3_44) rfl (by kernel_rfl) (fun _ _ _ h => h) (Or.inr ⟨rfl, rfl⟩) hS ?_
   simp only [Act.put, pA, pB, pC]
   refine tK (i := 45) (oi := zo29_3_45) rfl (by kernel_rfl) (fun _ _ _ h => h) (Or.inr ⟨rfl, rfl⟩) hS ?_
   simp only [Act.put, pA, pB, pC]
   refine tK (i := 46) (oi := zo29_3_46) rfl (by kernel_rfl) (fun _ _ _ h => h) (Or.inr ⟨rfl, rfl⟩) hS ?_
   simp only [Act.put, pA, pB, pC]
   refine tK (i := 47) (oi := zo29_3_47) rfl (by kernel_rfl) (fun _ _ _ h => h) (Or.inr ⟨rfl, rfl⟩) hS ?_
   simp only [Act.put, pA, pB, pC]
   refine tK (i := 48) (oi := zo29_3_48) rfl (by kernel_rfl) (fun _ _ _ h => h) (Or.inr ⟨rfl, rfl⟩) hS ?_
   simp only [Act.put, pA, pB, pC]
   refine tK (i := 49) (oi := zo29_3_49) (v := ?_) rfl (by kernel_rfl) (fun _ _ _ h => h) (Or.inl ⟨rfl, ?_⟩) hS ?_
   rotate_left
   · (intro w' hS'; (try dsimp only at hS'); dsimp only [zo29_3_49]; go_simp; try with_reducible rfl)
   simp only [Act.put, pA, pB, pC]
   refine wpAnyH_done (by kernel_rfl) ?_ _
   go_wp2_with fail
   go_ret
   first | exact ⟨rfl, bb⟩ | exact ⟨by simp, bb⟩
 refine tK (i := 27) (oi := zo29_3_27) (v := ?_) rfl (by kernel_rfl) (fun _ _ _ h => h) (Or.inl ⟨rfl, ?_⟩) hS ?_
 rotate_left
 · (intro w' hS'; (try dsimp only at hS'); dsimp only [zo29_3_27]; go_simp; try with_reducible rfl)
 simp only [Act.put, pA, pB, pC]
 refine tK (i := 28) (oi := zo29_3_28) (v := ?_) rfl (by kernel_rfl) (fun _ _ _ h => h) (Or.inl ⟨rfl, ?_⟩) hS ?_
 rotate_left
 · (intro w' hS'; (try dsimp only at hS'); dsimp only [zo29_3_28]; go_simp; try with_reducible rfl)
 simp only [Act.put, pA, pB, pC]
 refine tK (i := 29) (oi := zo29_3_29) (v := ?_) rfl (by kernel_rfl) (fun _ _ _ h => h) (Or.inl ⟨rfl, ?_⟩) hS ?_
 rotate_left
 · (intro w' hS'; (try dsimp only at hS'); dsimp only [zo29_3_29]; go_simp; try with_reducible rfl)
 simp only [Act.put, pA, pB, pC]
 refine tK (i := 30) (oi := zo29_3_30) (v := ?_) rfl (by kernel_rfl) (fun _ _ _ h => h) (Or.inl ⟨rfl, ?_⟩) hS ?_
 rotate_left
 · (intro w' hS'; (try dsimp only at hS'); dsimp only [zo29_3_30]; go_simp; try with_reducible rfl)
 simp only [Act.put, pA, pB, pC]
 refine tK (i := 31) (oi := zo29_3_31) (v := ?_) rfl (by kernel_rfl) (fun _ _ _ h => h) (Or.inl ⟨rfl, ?_⟩) hS ?_
 rotate_left
 · (intro w' hS'; (try dsimp only at hS'); dsimp only [zo29_3_31]; go_simp; try with_reducible rfl)
 simp only [Act.put, pA, pB, pC]
 refine tK (i := 32) (oi := zo29_3_32) (v := ?_) rfl (by kernel_rfl) (fun _ _ _ h => h) (Or.inl ⟨rfl, ?_⟩) hS ?_
 rotate_left
 · (intro w' hS'; (try dsimp only at hS'); dsimp only [zo29_3_32]; go_simp; try with_reducible rfl)
 simp only [Act.put, pA, pB, pC]
 refine tK (i := 33) (oi := zo29_3_33) (v := ?_) rfl (by kernel_rfl) (fun _ _ _ h => h) (Or.inl ⟨rfl, ?_⟩) hS ?_
 rotate_left
 · (intro w' hS'; (try dsimp only at hS'); dsimp only [zo29_3_33]; go_simp; try with_reducible rfl)
 simp only [Act.put, pA, pB, pC]
 refine tK (i := 34) (oi := zo29_3_34) (v := ?_) rfl (by kernel_rfl) (fun _ _ _ h => h) (Or.inl ⟨rfl, ?_⟩) hS ?_
 rotate_left
 · (intro w' hS'; (try dsimp only at hS'); dsimp only [zo29_3_34]; go_simp; try with_reducible rfl)
 simp only [Act.put, pA, pB, pC]
 refine tK (i := 35) (oi := zo29_3_35) (v := ?_) rfl (by kernel_rfl) (fun _ _ _ h => h) (Or.inl ⟨rfl, ?_⟩) hS ?_
 rotate_left
 · (intro w' hS'; (try dsimp only at hS'); dsimp only [zo29_3_35]; go_simp; try with_reducible rfl)
 simp only [Act.put, pA, pB, pC]
 refine wpAnyH_ready (rs := [36]) (by kernel_rfl) (by simp) ?_
 refine AllReadyH.cons (o := zo29_3_36) rfl (fun K hK => ?_) .nil
 refine step_call 78 #[.tmp 47, .tmp 50] _ rfl rfl #[.pointer (some ⟨g, 6, none⟩), .pointer (some ⟨g', 6, none⟩)] Tryz.call78 (by go_simp) (C3.out _ h2 k2 (R.cell' (i := 6) rfl) (Q.cell' (i := 6) rfl) (R.cell' (i := 7) rfl) (Q.cell' (i := 7) rfl)) ?_
 rintro e we ⟨rfl, m3, rfl⟩
 refine ⟨_, rfl, ?_⟩
 replace R := R.drewN m3
 replace Q := Q.drewN m3
 replace bb := below_drewN bb m3
 replace h0 := h0.drewN m3
 replace k0 := k0.drewN m3
 replace h1 := h1.drewN m3
 replace k1 := k1.drewN m3
 replace h2 := h2.drewN m3
 replace k2 := k2.drewN m3
 replace h3 := h3.drewN m3
 replace k3 := k3.drewN m3
 replace h4 := h4.drewN m3
 replace k4 := k4.drewN m3
 replace h5 := h5.drewN m3
 replace k5 := k5.drewN m3
 replace hS := (show (fun w' : World => w'.cell? ⟨g, 0, none⟩ = some (.int .i64 p.setup.band) ∧ w'.cell? ⟨g, 1, none⟩ = some (.slice A0 p.setup.temps.length Ak0) ∧ w'.cell? ⟨g, 2, none⟩ = some (.int .i64 p.setup.points) ∧ w'.cell? ⟨g, 3, none⟩ = some (.int .i64 p.setup.most) ∧ w'.cell? ⟨g, 4, none⟩ = some (.int .i64 p.setup.pen) ∧ w'.cell? ⟨g, 5, none⟩ = some (.slice A1 p.setup.entries.length Ak1) ∧ w'.cell? ⟨g, 6, none⟩ = some (.int .i64 p.setup.dflt) ∧ w'.cell? ⟨g, 7, none⟩ = some (.slice A2 p.setup.bigrams.length Ak2) ∧ w'.cell? ⟨g, 8, none⟩ = some (.int .i64 p.setup.pause) ∧ w'.cell? ⟨g', 0, none⟩ = some (.int .i64 q.setup.band) ∧ w'.cell? ⟨g', 1, none⟩ = some (.slice B0 q.setup.temps.length Bk0) ∧ w'.cell? ⟨g', 2, none⟩ = some (.int .i64 q.setup.points) ∧ w'.cell? ⟨g', 3, none⟩ = some (.int .i64 q.setup.most) ∧ w'.cell? ⟨g', 4, none⟩ = some (.int .i64 q.setup.pen) ∧ w'.cell? ⟨g', 5, none⟩ = some (.slice B1 q.setup.entries.length Bk1) ∧ w'.cell? ⟨g', 6, none⟩ = some (.int .i64 q.setup.dflt) ∧ w'.cell? ⟨g', 7, none⟩ = some (.slice B2 q.setup.bigrams.length Bk2) ∧ w'.cell? ⟨g', 8, none⟩ = some (.int .i64 q.setup.pause)) _ from ⟨R.cell' (i := 0) rfl, R.cell' (i := 1) rfl, R.cell' (i := 2) rfl, R.cell' (i := 3) rfl, R.cell' (i := 4) rfl, R.cell' (i := 5) rfl, R.cell' (i := 6) rfl, R.cell' (i := 7) rfl, R.cell' (i := 8) rfl, Q.cell' (i := 0) rfl, Q.cell' (i := 1) rfl, Q.cell' (i := 2) rfl, Q.cell' (i := 3) rfl, Q.cell' (i := 4) rfl, Q.cell' (i := 5) rfl, Q.cell' (i := 6) rfl, Q.cell' (i := 7) rfl, Q.cell' (i := 8) rfl⟩)
 dsimp only at hS
 refine hK.out _ _ ?_ (fun hHeld => ?_)
 · exact hS
 clear hK K hHeld
 simp only [Act.put, pA, pB, pC]
 cases d3
 · skip
   refine tK (i := 37) (oi := zo29_3_37) (v := ?_) rfl (by kernel_rfl) (fun _ _ _ h => h) (Or.inl ⟨rfl, ?_⟩) hS ?_
   rotate_left
   · (intro w' hS'; (try dsimp only at hS'); dsimp only [zo29_3_37]; go_simp; try with_reducible rfl)
   simp only [Act.put, pA, pB, pC]
   refine tK (i := 38) (oi := zo29_3_38) (v := ?_) rfl (by kernel_rfl) (fun _ _ _ h => h) (Or.inl ⟨rfl, ?_⟩) hS ?_
   rotate_left
   · (intro w' hS'; (try dsimp only at hS'); dsimp only [zo29_3_38]; go_simp; try with_reducible rfl)
   simp only [Act.put, pA, pB, pC]
   refine tK (i := 39) (oi := zo29_3_39) (v := ?_) rfl (by kernel_rfl) (fun _ _ _ h => h) (Or.inl ⟨rfl, ?_⟩) hS ?_
   rotate_left
   · (intro w' hS'; (try dsimp only at hS'); dsimp only [zo29_3_39]; go_simp; try with_reducible rfl)
   simp only [Act.put, pA, pB, pC]
   refine tK (i := 40) (oi := zo29_3_40) rfl (by kernel_rfl) (fun _ _ _ h => h) (Or.inr ⟨rfl, rfl⟩) hS ?_
   simp only [Act.put, pA, pB, pC]
   refine tK (i := 41) (oi := zo29_3_41) rfl (by kernel_rfl) (fun _ _ _ h => h) (Or.inr ⟨rfl, rfl⟩) hS ?_
   simp only [Act.put, pA, pB, pC]
   refine tK (i := 42) (oi := zo29_3_42) rfl (by kernel_rfl) (fun _ _ _ h => h) (Or.inr ⟨rfl, rfl⟩) hS ?_
   simp only [Act.put, pA, pB, pC]
   refine tK (i := 43) (oi := zo29_3_43) rfl (by kernel_rfl) (fun _ _ _ h => h) (Or.inr ⟨rfl, rfl⟩) hS ?_
   simp only [Act.put, pA, pB, pC]
   refine tK (i := 44) (oi := zo29_3_44) rfl (by kernel_rfl) (fun _ _ _ h => h) (Or.inr ⟨rfl, rfl⟩) hS ?_
   simp only [Act.put, pA, pB, pC]
   refine tK (i := 45) (oi := zo29_3_45) rfl (by kernel_rfl) (fun _ _ _ h => h) (Or.inr ⟨rfl, rfl⟩) hS ?_
   simp only [Act.put, pA, pB, pC]
   refine tK (i := 46) (oi := zo29_3_46) rfl (by kernel_rfl) (fun _ _ _ h => h) (Or.inr ⟨rfl, rfl⟩) hS ?_
   simp only [Act.put, pA, pB, pC]
   refine tK (i := 47) (oi := zo29_3_47) rfl (by kernel_rfl) (fun _ _ _ h => h) (Or.inr ⟨rfl, rfl⟩) hS ?_
   simp only [Act.put, pA, pB, pC]
   refine tK (i := 48) (oi := zo29_3_48) rfl (by kernel_rfl) (fun _ _ _ h => h) (Or.inr ⟨rfl, rfl⟩) hS ?_
   simp only [Act.put, pA, pB, pC]
   refine tK (i := 49) (oi := zo29_3_49) (v := ?_) rfl (by kernel_rfl) (fun _ _ _ h => h) (Or.inl ⟨rfl, ?_⟩) hS ?_
   rotate_left
   · (intro w' hS'; (try dsimp only at hS'); dsimp only [zo29_3_49]; go_simp; try with_reducible rfl)
   simp only [Act.put, pA, pB, pC]
   refine wpAnyH_done (by kernel_rfl) ?_ _
   go_wp2_with fail
   go_ret
   first | exact ⟨rfl, bb⟩ | exact ⟨by simp, bb⟩
 cases d4
 · skip
   refine tK (i := 37) (oi := zo29_3_37) (v := ?_) rfl (by kernel_rfl) (fun _ _ _ h => h) (Or.inl ⟨rfl, ?_⟩) hS ?_
   rotate_left
   · (intro w' hS'; (try dsimp only at hS'); dsimp only [zo29_3_37]; go_simp; try with_reducible rfl)
   simp only [Act.put, pA, pB, pC]
   refine tK (i := 38) (oi := zo29_3_38) (v := ?_) rfl (by kernel_rfl) (fun _ _ _ h => h) (Or.inl ⟨rfl, ?_⟩) hS ?_
   rotate_left
   · (intro w' hS'; (try dsimp only at hS'); dsimp only [zo29_3_38]; go_simp; try with_reducible rfl)
   simp only [Act.put, pA, pB, pC]
   refine tK (i := 39) (oi := zo29_3_39) (v := ?_) rfl (by kernel_rfl) (fun _ _ _ h => h) (Or.inl ⟨rfl, ?_⟩) hS ?_
   rotate_left
   · (intro w' hS'; (try dsimp only at hS'); dsimp only [zo29_3_39]; go_simp; try with_reducible rfl)
   simp only [Act.put, pA, pB, pC]
   refine tK (i := 40) (oi := zo29_3_40) (v := ?_) rfl (by kernel_rfl) (fun _ _ _ h => h) (Or.inl ⟨rfl, ?_⟩) hS ?_
   rotate_left
   · (intro w' hS'; (try dsimp only at hS'); dsimp only [zo29_3_40]; go_simp; try with_reducible rfl)
   simp only [Act.put, pA, pB, pC]
   refine tK (i := 41) (oi := zo29_3_41) (v := ?_) rfl (by kernel_rfl) (fun _ _ _ h => h) (Or.inl ⟨rfl, ?_⟩) hS ?_
   rotate_left
   · (intro w' hS'; (try dsimp only at hS'); dsimp only [zo29_3_41]; go_simp; try with_reducible rfl)
   simp only [Act.put, pA, pB, pC]
   refine tK (i := 42) (oi := zo29_3_42) (v := ?_) rfl (by kernel_rfl) (fun _ _ _ h => h) (Or.inl ⟨rfl, ?_⟩) hS ?_
   rotate_left
   · (intro w' hS'; (try dsimp only at hS'); dsimp only [zo29_3_42]; go_simp; try with_reducible rfl)
   simp only [Act.put, pA, pB, pC]
   refine tK (i := 43) (oi := zo29_3_43) (v := ?_) rfl (by kernel_rfl) (fun _ _ _ h => h) (Or.inl ⟨rfl, ?_⟩) hS ?_
   rotate_left
   · (intro w' hS'; (try dsimp only at hS'); dsimp only [zo29_3_43]; go_simp; try with_reducible rfl)
   simp only [Act.put, pA, pB, pC]
   refine tK (i := 44) (oi := zo29_3_44) (v := ?_) rfl (by kernel_rfl) (fun _ _ _ h => h) (Or.inl ⟨rfl, ?_⟩) hS ?_
   rotate_left
   · (intro w' hS'; (try dsimp only at hS'); dsimp only [zo29_3_44]; go_simp; try with_reducible rfl)
   simp only [Act.put, pA, pB, pC]
   refine tK (i := 45) (oi := zo29_3_45) (v := ?_) rfl (by kernel_rfl) (fun _ _ _ h => h) (Or.inl ⟨rfl, ?_⟩) hS ?_
   rotate_left
   · (intro w' hS'; (try dsimp only at hS'); dsimp only [zo29_3_45]; go_simp; try with_reducible rfl)
   simp only [Act.put, pA, pB, pC]
   refine tK (i := 46) (oi := zo29_3_46) (v := ?_) rfl (by kernel_rfl) (fun _ _ _ h => h) (Or.inl ⟨rfl, ?_⟩) hS ?_
   rotate_left
   · (intro w' hS'; (try dsimp only at hS'); dsimp only [zo29_3_46]; go_simp; try with_reducible rfl)
   simp only [Act.put, pA, pB, pC]
   refine tK (i := 47) (oi := zo29_3_47) (v := ?_) rfl (by kernel_rfl) (fun _ _ _ h => h) (Or.inl ⟨rfl, ?_⟩) hS ?_
   rotate_left
   · (intro w' hS'; (try dsimp only at hS'); dsimp only [zo29_3_47]; go_simp; try with_reducible rfl)
   simp only [Act.put, pA, pB, pC]
   refine tK (i := 48) (oi := zo29_3_48) (v := ?_) rfl (by kernel_rfl) (fun _ _ _ h => h) (Or.inl ⟨rfl, ?_⟩) hS ?_
   rotate_left
   · (intro w' hS'; (try dsimp only at hS'); dsimp only [zo29_3_48]; go_simp; try with_reducible rfl)
   simp only [Act.put, pA, pB, pC]
   refine tK (i := 49) (oi := zo29_3_49) (v := ?_) rfl (by kernel_rfl) (fun _ _ _ h => h) (Or.inl ⟨rfl, ?_⟩) hS ?_
   rotate_left
   · (intro w' hS'; (try dsimp only at hS'); dsimp only [zo29_3_49]; go_simp; try with_reducible rfl)
   simp only [Act.put, pA, pB, pC]
   refine wpAnyH_done (by kernel_rfl) ?_ _
   go_wp2_with fail
   go_ret
   first | exact ⟨rfl, bb⟩ | exact ⟨by simp, bb⟩
 refine tK (i := 37) (oi := zo29_3_37) (v := ?_) rfl (by kernel_rfl) (fun _ _ _ h => h) (Or.inl ⟨rfl, ?_⟩) hS ?_
 rotate_left
 · (intro w' hS'; (try dsimp only at hS'); dsimp only [zo29_3_37]; go_simp; try with_reducible rfl)
 simp only [Act.put, pA, pB, pC]
 refine tK (i := 38) (oi := zo29_3_38) (v := ?_) rfl (by kernel_rfl) (fun _ _ _ h => h) (Or.inl ⟨rfl, ?_⟩) hS ?_
 rotate_left
 · (intro w' hS'; (try dsimp only at hS'); dsimp only [zo29_3_38]; go_simp; try with_reducible rfl)
 simp only [Act.put, pA, pB, pC]
 refine tK (i := 39) (oi := zo29_3_39) (v := ?_) rfl (by kernel_rfl) (fun _ _ _ h => h) (Or.inl ⟨rfl, ?_⟩) hS ?_
 rotate_left
 · (intro w' hS'; (try dsimp only at hS'); dsimp only [zo29_3_39]; go_simp; try with_reducible rfl)
 simp only [Act.put, pA, pB, pC]
 refine tK (i := 40) (oi := zo29_3_40) (v := ?_) rfl (by kernel_rfl) (fun _ _ _ h => h) (Or.inl ⟨rfl, ?_⟩) hS ?_
 rotate_left
 · (intro w' hS'; (try dsimp only at hS'); dsimp only [zo29_3_40]; go_simp; try with_reducible rfl)
 simp only [Act.put, pA, pB, pC]
 refine tK (i := 41) (oi := zo29_3_41) (v := ?_) rfl (by kernel_rfl) (fun _ _ _ h => h) (Or.inl ⟨rfl, ?_⟩) hS ?_
 rotate_left
 · (intro w' hS'; (try dsimp only at hS'); dsimp only [zo29_3_41]; go_simp; try with_reducible rfl)
 simp only [Act.put, pA, pB, pC]
 refine tK (i := 42) (oi := zo29_3_42) (v := ?_) rfl (by kernel_rfl) (fun _ _ _ h => h) (Or.inl ⟨rfl, ?_⟩) hS ?_
 rotate_left
 · (intro w' hS'; (try dsimp only at hS'); dsimp only [zo29_3_42]; go_simp; try with_reducible rfl)
 simp only [Act.put, pA, pB, pC]
 refine tK (i := 43) (oi := zo29_3_43) (v := ?_) rfl (by kernel_rfl) (fun _ _ _ h => h) (Or.inl ⟨rfl, ?_⟩) hS ?_
 rotate_left
 · (intro w' hS'; (try dsimp only at hS'); dsimp only [zo29_3_43]; go_simp; try with_reducible rfl)
 simp only [Act.put, pA, pB, pC]
 refine tK (i := 44) (oi := zo29_3_44) (v := ?_) rfl (by kernel_rfl) (fun _ _ _ h => h) (Or.inl ⟨rfl, ?_⟩) hS ?_
 rotate_left
 · (intro w' hS'; (try dsimp only at hS'); dsimp only [zo29_3_44]; go_simp; try with_reducible rfl)
 simp only [Act.put, pA, pB, pC]
 refine tK (i := 45) (oi := zo29_3_45) (v := ?_) rfl (by kernel_rfl) (fun _ _ _ h => h) (Or.inl ⟨rfl, ?_⟩) hS ?_
 rotate_left
 · (intro w' hS'; (try dsimp only at hS'); dsimp only [zo29_3_45]; go_simp; try with_reducible rfl)
 simp only [Act.put, pA, pB, pC]
 refine tK (i := 46) (oi := zo29_3_46) (v := ?_) rfl (by kernel_rfl) (fun _ _ _ h => h) (Or.inl ⟨rfl, ?_⟩) hS ?_
 rotate_left
 · (intro w' hS'; (try dsimp only at hS'); dsimp only [zo29_3_46]; go_simp; try with_reducible rfl)
 simp only [Act.put, pA, pB, pC]
 refine tK (i := 47) (oi := zo29_3_47) (v := ?_) rfl (by kernel_rfl) (fun _ _ _ h => h) (Or.inl ⟨rfl, ?_⟩) hS ?_
 rotate_left
 · (intro w' hS'; (try dsimp only at hS'); dsimp only [zo29_3_47]; go_simp; try with_reducible rfl)
 simp only [Act.put, pA, pB, pC]
 refine tK (i := 48) (oi := zo29_3_48) (v := ?_) rfl (by kernel_rfl) (fun _ _ _ h => h) (Or.inl ⟨rfl, ?_⟩) hS ?_
 rotate_left
 · (intro w' hS'; (try dsimp only at hS'); dsimp only [zo29_3_48]; go_simp; try with_reducible rfl)
 simp only [Act.put, pA, pB, pC]
 refine tK (i := 49) (oi := zo29_3_49) (v := ?_) rfl (by kernel_rfl) (fun _ _ _ h => h) (Or.inl ⟨rfl, ?_⟩) hS ?_
 rotate_left
 · (intro w' hS'; (try dsimp only at hS'); dsimp only [zo29_3_49]; go_simp; try with_reducible rfl)
 simp only [Act.put, pA, pB, pC]
 refine wpAnyH_done (by kernel_rfl) ?_ _
 have x2 := R.cell' (i := 10) rfl
 have y2 := Q.cell' (i := 10) rfl
 have lg := R.lt
 have lg' := Q.lt
 generalize hW : World.drewN _ m3 = W at *
 go_upto_region 7 with fail
 clear x2 y2
 have X := (Row.new W 141 #[.slice A4 p.opn.length Ak4]).alloc (.cells #[.slice B4 q.opn.length Bk4] 141)
 have Y := Row.new (W.alloc (.cells #[.slice A4 p.opn.length Ak4] 141)) 141 #[.slice B4 q.opn.length Bk4]
 simp only [World.size_alloc] at Y
 replace R := (R.alloc (.cells #[.slice A4 p.opn.length Ak4] 141)).alloc (.cells #[.slice B4 q.opn.length Bk4] 141)
 replace Q := (Q.alloc (.cells #[.slice A4 p.opn.length Ak4] 141)).alloc (.cells #[.slice B4 q.opn.length Bk4] 141)
 replace bb := (bb.alloc bb.size (.cells #[.slice A4 p.opn.length Ak4] 141)).alloc (by have := bb.size; simp; omega) (.cells #[.slice B4 q.opn.length Bk4] 141)
 replace h0 := (h0.alloc (.cells #[.slice A4 p.opn.length Ak4] 141)).alloc (.cells #[.slice B4 q.opn.length Bk4] 141)
 replace k0 := (k0.alloc (.cells #[.slice A4 p.opn.length Ak4] 141)).alloc (.cells #[.slice B4 q.opn.length Bk4] 141)
 replace h1 := (h1.alloc (.cells #[.slice A4 p.opn.length Ak4] 141)).alloc (.cells #[.slice B4 q.opn.length Bk4] 141)
 replace k1 := (k1.alloc (.cells #[.slice A4 p.opn.length Ak4] 141)).alloc (.cells #[.slice B4 q.opn.length Bk4] 141)
 replace h2 := (h2.alloc (.cells #[.slice A4 p.opn.length Ak4] 141)).alloc (.cells #[.slice B4 q.opn.length Bk4] 141)
 replace k2 := (k2.alloc (.cells #[.slice A4 p.opn.length Ak4] 141)).alloc (.cells #[.slice B4 q.opn.length Bk4] 141)
 replace h3 := (h3.alloc (.cells #[.slice A4 p.opn.length Ak4] 141)).alloc (.cells #[.slice B4 q.opn.length Bk4] 141)
 replace k3 := (k3.alloc (.cells #[.slice A4 p.opn.length Ak4] 141)).alloc (.cells #[.slice B4 q.opn.length Bk4] 141)
 replace h4 := (h4.alloc (.cells #[.slice A4 p.opn.length Ak4] 141)).alloc (.cells #[.slice B4 q.opn.length Bk4] 141)
 replace k4 := (k4.alloc (.cells #[.slice A4 p.opn.length Ak4] 141)).alloc (.cells #[.slice B4 q.opn.length Bk4] 141)
 replace h5 := (h5.alloc (.cells #[.slice A4 p.opn.length Ak4] 141)).alloc (.cells #[.slice B4 q.opn.length Bk4] 141)
 replace k5 := (k5.alloc (.cells #[.slice A4 p.opn.length Ak4] 141)).alloc (.cells #[.slice B4 q.opn.length Bk4] 141)
 go_wp2_with fail
 replace R := R.drew
 replace Q := Q.drew
 replace X := X.drew
 replace Y := Y.drew
 have hS : (fun w' : World => w'.cell? ⟨g, 9, none⟩ = some (.slice A3 p.strokes.length Ak3) ∧ w'.cell? ⟨g, 11, none⟩ = some (.int .i64 p.time) ∧ w'.cell? ⟨g, 12, none⟩ = some (.slice A5 p.words.length Ak5) ∧ w'.cell? ⟨g', 9, none⟩ = some (.slice B3 q.strokes.length Bk3) ∧ w'.cell? ⟨g', 11, none⟩ = some (.int .i64 q.time) ∧ w'.cell? ⟨g', 12, none⟩ = some (.slice B5 q.words.length Bk5) ∧ w'.cell? ⟨W.heap.size, 0, none⟩ = some (.slice A4 p.opn.length Ak4) ∧ w'.cell? ⟨(W.heap.size + 1), 0, none⟩ = some (.slice B4 q.opn.length Bk4)) ((W.alloc (.cells #[.slice A4 p.opn.length Ak4] 141)).alloc (.cells #[.slice B4 q.opn.length Bk4] 141)).drew := ⟨R.cell' (i := 9) rfl, R.cell' (i := 11) rfl, R.cell' (i := 12) rfl, Q.cell' (i := 9) rfl, Q.cell' (i := 11) rfl, Q.cell' (i := 12) rfl, X.cell' (i := 0) rfl, Y.cell' (i := 0) rfl⟩
 dsimp only at hS
 refine wp_region_held_drew (S := (fun w' : World => w'.cell? ⟨g, 9, none⟩ = some (.slice A3 p.strokes.length Ak3) ∧ w'.cell? ⟨g, 11, none⟩ = some (.int .i64 p.time) ∧ w'.cell? ⟨g, 12, none⟩ = some (.slice A5 p.words.length Ak5) ∧ w'.cell? ⟨g', 9, none⟩ = some (.slice B3 q.strokes.length Bk3) ∧ w'.cell? ⟨g', 11, none⟩ = some (.int .i64 q.time) ∧ w'.cell? ⟨g', 12, none⟩ = some (.slice B5 q.words.length Bk5) ∧ w'.cell? ⟨W.heap.size, 0, none⟩ = some (.slice A4 p.opn.length Ak4) ∧ w'.cell? ⟨(W.heap.size + 1), 0, none⟩ = some (.slice B4 q.opn.length Bk4))) (by kernel_rfl) hS (fun _ => ?_)
 replace bb := bb.drew
 replace h0 := h0.drew
 replace k0 := k0.drew
 replace h1 := h1.drew
 replace k1 := k1.drew
 replace h2 := h2.drew
 replace k2 := k2.drew
 replace h3 := h3.drew
 replace k3 := k3.drew
 replace h4 := h4.drew
 replace k4 := k4.drew
 replace h5 := h5.drew
 replace k5 := k5.drew
 refine tK (i := 0) (oi := zo29_7_0) (v := ?_) rfl (by kernel_rfl) (fun _ _ _ h => h) (Or.inl ⟨rfl, ?_⟩) hS ?_
 rotate_left
 · (intro w' hS'; (try dsimp only at hS'); dsimp only [zo29_7_0]; go_simp; try with_reducible rfl)
 simp only [Act.put, pA, pB, pC]
 refine tK (i := 1) (oi := zo29_7_1) (v := ?_) rfl (by kernel_rfl) (fun _ _ _ h => h) (Or.inl ⟨rfl, ?_⟩) hS ?_
 rotate_left
 · (intro w' hS'; (try dsimp only at hS'); dsimp only [zo29_7_1]; go_simp; try with_reducible rfl)
 simp only [Act.put, pA, pB, pC]
 refine tK (i := 2) (oi := zo29_7_2) (v := ?_) rfl (by kernel_rfl) (fun _ _ _ h => h) (Or.inl ⟨rfl, ?_⟩) hS ?_
 rotate_left
 · (intro w' hS'; (try dsimp only at hS'); dsimp only [zo29_7_2]; go_simp; try with_reducible rfl)
 simp only [Act.put, pA, pB, pC]
 refine tK (i := 3) (oi := zo29_7_3) (v := ?_) rfl (by kernel_rfl) (fun _ _ _ h => h) (Or.inl ⟨rfl, ?_⟩) hS ?_
 rotate_left
 · (intro w' hS'; (try dsimp only at hS'); dsimp only [zo29_7_3]; go_simp; try with_reducible rfl)
 simp only [Act.put, pA, pB, pC]
 refine tK (i := 4) (oi := zo29_7_4) (v := ?_) rfl (by kernel_rfl) (fun _ _ _ h => h) (Or.inl ⟨rfl, ?_⟩) hS ?_
 rotate_left
 · (intro w' hS'; (try dsimp only at hS'); dsimp only [zo29_7_4]; go_simp; try with_reducible rfl)
 simp only [Act.put, pA, pB, pC]
 refine tK (i := 5) (oi := zo29_7_5) (v := ?_) rfl (by kernel_rfl) (fun _ _ _ h => h) (Or.inl ⟨rfl, ?_⟩) hS ?_
 rotate_left
 · (intro w' hS'; (try dsimp only at hS'); dsimp only [zo29_7_5]; go_simp; try with_reducible rfl)
 simp only [Act.put, pA, pB, pC]
 refine wpAnyH_ready (rs := [6]) (by kernel_rfl) (by simp) ?_
 refine AllReadyH.cons (o := zo29_7_6) rfl (fun K hK => ?_) .nil
 refine step_call 79 #[.tmp 77, .tmp 80] _ rfl rfl #[.pointer (some ⟨g, 9, none⟩), .pointer (some ⟨g', 9, none⟩)] Tryz.call79 (by go_simp) (C5.out _ h3 k3 (R.cell' (i := 9) rfl) (Q.cell' (i := 9) rfl)) ?_
 rintro e we ⟨rfl, m5, rfl⟩
 refine ⟨_, rfl, ?_⟩
 replace R := R.drewN m5
 replace Q := Q.drewN m5
 replace bb := below_drewN bb m5
 replace h0 := h0.drewN m5
 replace k0 := k0.drewN m5
 replace h1 := h1.drewN m5
 replace k1 := k1.drewN m5
 replace h2 := h2.drewN m5
 replace k2 := k2.drewN m5
 replace h3 := h3.drewN m5
 replace k3 := k3.drewN m5
 replace h4 := h4.drewN m5
 replace k4 := k4.drewN m5
 replace h5 := h5.drewN m5
 replace k5 := k5.drewN m5
 replace X := X.drewN m5
 replace Y := Y.drewN m5
 replace hS := (show (fun w' : World => w'.cell? ⟨g, 9, none⟩ = some (.slice A3 p.strokes.length Ak3) ∧ w'.cell? ⟨g, 11, none⟩ = some (.int .i64 p.time) ∧ w'.cell? ⟨g, 12, none⟩ = some (.slice A5 p.words.length Ak5) ∧ w'.cell? ⟨g', 9, none⟩ = some (.slice B3 q.strokes.length Bk3) ∧ w'.cell? ⟨g', 11, none⟩ = some (.int .i64 q.time) ∧ w'.cell? ⟨g', 12, none⟩ = some (.slice B5 q.words.length Bk5) ∧ w'.cell? ⟨W.heap.size, 0, none⟩ = some (.slice A4 p.opn.length Ak4) ∧ w'.cell? ⟨(W.heap.size + 1), 0, none⟩ = some (.slice B4 q.opn.length Bk4)) _ from ⟨R.cell' (i := 9) rfl, R.cell' (i := 11) rfl, R.cell' (i := 12) rfl, Q.cell' (i := 9) rfl, Q.cell' (i := 11) rfl, Q.cell' (i := 12) rfl, X.cell' (i := 0) rfl, Y.cell' (i := 0) rfl⟩)
 dsimp only at hS
 refine hK.out _ _ ?_ (fun hHeld => ?_)
 · exact hS
 clear hK K hHeld
 simp only [Act.put, pA, pB, pC]
 cases d5
 · skip
   refine tK (i := 7) (oi := zo29_7_7) (v := ?_) rfl (by kernel_rfl) (fun _ _ _ h => h) (Or.inl ⟨rfl, ?_⟩) hS ?_
   rotate_left
   · (intro w' hS'; (try dsimp only at hS'); dsimp only [zo29_7_7]; go_simp; try with_reducible rfl)
   simp only [Act.put, pA, pB, pC]
   refine tK (i := 8) (oi := zo29_7_8) rfl (by kernel_rfl) (fun _ _ _ h => h) (Or.inr ⟨rfl, rfl⟩) hS ?_
   simp only [Act.put, pA, pB, pC]
   refine tK (i := 9) (oi := zo29_7_9) (v := ?_) rfl (by kernel_rfl) (fun _ _ _ h => h) (Or.inl ⟨rfl, ?_⟩) hS ?_
   rotate_left
   · (intro w' hS'; (try dsimp only at hS'); dsimp only [zo29_7_9]; go_simp; try with_reducible rfl)
   simp only [Act.put, pA, pB, pC]
   refine tK (i := 10) (oi := zo29_7_10) (v := ?_) rfl (by kernel_rfl) (fun _ _ _ h => h) (Or.inl ⟨rfl, ?_⟩) hS ?_
   rotate_left
   · (intro w' hS'; (try dsimp only at hS'); dsimp only [zo29_7_10]; go_simp; try with_reducible rfl)
   simp only [Act.put, pA, pB, pC]
   refine tK (i := 11) (oi := zo29_7_11) rfl (by kernel_rfl) (fun _ _ _ h => h) (Or.inr ⟨rfl, rfl⟩) hS ?_
   simp only [Act.put, pA, pB, pC]
   refine tK (i := 12) (oi := zo29_7_12) rfl (by kernel_rfl) (fun _ _ _ h => h) (Or.inr ⟨rfl, rfl⟩) hS ?_
   simp only [Act.put, pA, pB, pC]
   refine tK (i := 13) (oi := zo29_7_13) rfl (by kernel_rfl) (fun _ _ _ h => h) (Or.inr ⟨rfl, rfl⟩) hS ?_
   simp only [Act.put, pA, pB, pC]
   refine tK (i := 14) (oi := zo29_7_14) rfl (by kernel_rfl) (fun _ _ _ h => h) (Or.inr ⟨rfl, rfl⟩) hS ?_
   simp only [Act.put, pA, pB, pC]
   refine tK (i := 15) (oi := zo29_7_15) rfl (by kernel_rfl) (fun _ _ _ h => h) (Or.inr ⟨rfl, rfl⟩) hS ?_
   simp only [Act.put, pA, pB, pC]
   refine tK (i := 16) (oi := zo29_7_16) rfl (by kernel_rfl) (fun _ _ _ h => h) (Or.inr ⟨rfl, rfl⟩) hS ?_
   simp only [Act.put, pA, pB, pC]
   refine tK (i := 17) (oi := zo29_7_17) rfl (by kernel_rfl) (fun _ _ _ h => h) (Or.inr ⟨rfl, rfl⟩) hS ?_
   simp only [Act.put, pA, pB, pC]
   refine tK (i := 18) (oi := zo29_7_18) rfl (by kernel_rfl) (fun _ _ _ h => h) (Or.inr ⟨rfl, rfl⟩) hS ?_
   simp only [Act.put, pA, pB, pC]
   refine tK (i := 19) (oi := zo29_7_19) rfl (by kernel_rfl) (fun _ _ _ h => h) (Or.inr ⟨rfl, rfl⟩) hS ?_
   simp only [Act.put, pA, pB, pC]
   refine tK (i := 20) (oi := zo29_7_20) (v := ?_) rfl (by kernel_rfl) (fun _ _ _ h => h) (Or.inl ⟨rfl, ?_⟩) hS ?_
   rotate_left
   · (intro w' hS'; (try dsimp only at hS'); dsimp only [zo29_7_20]; go_simp; try with_reducible rfl)
   simp only [Act.put, pA, pB, pC]
   refine tK (i := 21) (oi := zo29_7_21) (v := ?_) rfl (by kernel_rfl) (fun _ _ _ h => h) (Or.inl ⟨rfl, ?_⟩) hS ?_
   rotate_left
   · (intro w' hS'; (try dsimp only at hS'); dsimp only [zo29_7_21]; go_simp; try with_reducible rfl)
   simp only [Act.put, pA, pB, pC]
   refine tK (i := 22) (oi := zo29_7_22) rfl (by kernel_rfl) (fun _ _ _ h => h) (Or.inr ⟨rfl, rfl⟩) hS ?_
   simp only [Act.put, pA, pB, pC]
   refine tK (i := 23) (oi := zo29_7_23) rfl (by kernel_rfl) (fun _ _ _ h => h) (Or.inr ⟨rfl, rfl⟩) hS ?_
   simp only [Act.put, pA, pB, pC]
   refine tK (i := 24) (oi := zo29_7_24) rfl (by kernel_rfl) (fun _ _ _ h => h) (Or.inr ⟨rfl, rfl⟩) hS ?_
   simp only [Act.put, pA, pB, pC]
   refine tK (i := 25) (oi := zo29_7_25) rfl (by kernel_rfl) (fun _ _ _ h => h) (Or.inr ⟨rfl, rfl⟩) hS ?_
   simp only [Act.put, pA, pB, pC]
   refine tK (i := 26) (oi := zo29_7_26) rfl (by kernel_rfl) (fun _ _ _ h => h) (Or.inr ⟨rfl, rfl⟩) hS ?_
   simp only [Act.put, pA, pB, pC]
   refine tK (i := 27) (oi := zo29_7_27) rfl (by kernel_rfl) (fun _ _ _ h => h) (Or.inr ⟨rfl, rfl⟩) hS ?_
   simp only [Act.put, pA, pB, pC]
   refine tK (i := 28) (oi := zo29_7_28) rfl (by kernel_rfl) (fun _ _ _ h => h) (Or.inr ⟨rfl, rfl⟩) hS ?_
   simp only [Act.put, pA, pB, pC]
   refine tK (i := 29) (oi := zo29_7_29) rfl (by kernel_rfl) (fun _ _ _ h => h) (Or.inr ⟨rfl, rfl⟩) hS ?_
   simp only [Act.put, pA, pB, pC]
   refine tK (i := 30) (oi := zo29_7_30) rfl (by kernel_rfl) (fun _ _ _ h => h) (Or.inr ⟨rfl, rfl⟩) hS ?_
   simp only [Act.put, pA, pB, pC]
   refine tK (i := 31) (oi := zo29_7_31) (v := ?_) rfl (by kernel_rfl) (fun _ _ _ h => h) (Or.inl ⟨rfl, ?_⟩) hS ?_
   rotate_left
   · (intro w' hS'; (try dsimp only at hS'); dsimp only [zo29_7_31]; go_simp; try with_reducible rfl)
   simp only [Act.put, pA, pB, pC]
   refine tK (i := 32) (oi := zo29_7_32) (v := ?_) rfl (by kernel_rfl) (fun _ _ _ h => h) (Or.inl ⟨rfl, ?_⟩) hS ?_
   rotate_left
   · (intro w' hS'; (try dsimp only at hS'); dsimp only [zo29_7_32]; go_simp; try with_reducible rfl)
   simp only [Act.put, pA, pB, pC]
   refine wpAnyH_done (by kernel_rfl) ?_ _
   go_wp2_with fail
   go_ret
   first | exact ⟨rfl, bb⟩ | exact ⟨by simp, bb⟩
 refine tK (i := 7) (oi := zo29_7_7) (v := ?_) rfl (by kernel_rfl) (fun _ _ _ h => h) (Or.inl ⟨rfl, ?_⟩) hS ?_
 rotate_left
 · (intro w' hS'; (try dsimp only at hS'); dsimp only [zo29_7_7]; go_simp; try with_reducible rfl)
 simp only [Act.put, pA, pB, pC]
 refine wpAnyH_ready (rs := [8]) (by kernel_rfl) (by simp) ?_
 refine AllReadyH.cons (o := zo29_7_8) rfl (fun K hK => ?_) .nil
 refine step_call 80 #[.tmp 7, .tmp 8] _ rfl rfl #[.pointer (some ⟨W.heap.size, 0, none⟩), .pointer (some ⟨W.heap.size + 1, 0, none⟩)] Tryz.call80 (by go_simp) (C6.out _ _ _ h4 k4 (X.cell' (i := 0) rfl) (Y.cell' (i := 0) rfl)) ?_
 rintro e we ⟨rfl, m6, rfl⟩
 refine ⟨_, rfl, ?_⟩
 replace R := R.drewN m6
 replace Q := Q.drewN m6
 replace bb := below_drewN bb m6
 replace h0 := h0.drewN m6
 replace k0 := k0.drewN m6
 replace h1 := h1.drewN m6
 replace k1 := k1.drewN m6
 replace h2 := h2.drewN m6
 replace k2 := k2.drewN m6
 replace h3 := h3.drewN m6
 replace k3 := k3.drewN m6
 replace h4 := h4.drewN m6
 replace k4 := k4.drewN m6
 replace h5 := h5.drewN m6
 replace k5 := k5.drewN m6
 replace X := X.drewN m6
 replace Y := Y.drewN m6
 replace hS := (show (fun w' : World => w'.cell? ⟨g, 9, none⟩ = some (.slice A3 p.strokes.length Ak3) ∧ w'.cell? ⟨g, 11, none⟩ = some (.int .i64 p.time) ∧ w'.cell? ⟨g, 12, none⟩ = some (.slice A5 p.words.length Ak5) ∧ w'.cell? ⟨g', 9, none⟩ = some (.slice B3 q.strokes.length Bk3) ∧ w'.cell? ⟨g', 11, none⟩ = some (.int .i64 q.time) ∧ w'.cell? ⟨g', 12, none⟩ = some (.slice B5 q.words.length Bk5) ∧ w'.cell? ⟨W.heap.size, 0, none⟩ = some (.slice A4 p.opn.length Ak4) ∧ w'.cell? ⟨(W.heap.size + 1), 0, none⟩ = some (.slice B4 q.opn.length Bk4)) _ from ⟨R.cell' (i := 9) rfl, R.cell' (i := 11) rfl, R.cell' (i := 12) rfl, Q.cell' (i := 9) rfl, Q.cell' (i := 11) rfl, Q.cell' (i := 12) rfl, X.cell' (i := 0) rfl, Y.cell' (i := 0) rfl⟩)
 dsimp only at hS
 refine hK.out _ _ ?_ (fun hHeld => ?_)
 · exact hS
 clear hK K hHeld
 simp only [Act.put, pA, pB, pC]
 cases d6
 · skip
   refine tK (i := 9) (oi := zo29_7_9) (v := ?_) rfl (by kernel_rfl) (fun _ _ _ h => h) (Or.inl ⟨rfl, ?_⟩) hS ?_
   rotate_left
   · (intro w' hS'; (try dsimp only at hS'); dsimp only [zo29_7_9]; go_simp; try with_reducible rfl)
   simp only [Act.put, pA, pB, pC]
   refine tK (i := 10) (oi := zo29_7_10) (v := ?_) rfl (by kernel_rfl) (fun _ _ _ h => h) (Or.inl ⟨rfl, ?_⟩) hS ?_
   rotate_left
   · (intro w' hS'; (try dsimp only at hS'); dsimp only [zo29_7_10]; go_simp; try with_reducible rfl)
   simp only [Act.put, pA, pB, pC]
   refine tK (i := 11) (oi := zo29_7_11) rfl (by kernel_rfl) (fun _ _ _ h => h) (Or.inr ⟨rfl, rfl⟩) hS ?_
   simp only [Act.put, pA, pB, pC]
   refine tK (i := 12) (oi := zo29_7_12) rfl (by kernel_rfl) (fun _ _ _ h => h) (Or.inr ⟨rfl, rfl⟩) hS ?_
   simp only [Act.put, pA, pB, pC]
   refine tK (i := 13) (oi := zo29_7_13) rfl (by kernel_rfl) (fun _ _ _ h => h) (Or.inr ⟨rfl, rfl⟩) hS ?_
   simp only [Act.put, pA, pB, pC]
   refine tK (i := 14) (oi := zo29_7_14) rfl (by kernel_rfl) (fun _ _ _ h => h) (Or.inr ⟨rfl, rfl⟩) hS ?_
   simp only [Act.put, pA, pB, pC]
   refine tK (i := 15) (oi := zo29_7_15) rfl (by kernel_rfl) (fun _ _ _ h => h) (Or.inr ⟨rfl, rfl⟩) hS ?_
   simp only [Act.put, pA, pB, pC]
   refine tK (i := 16) (oi := zo29_7_16) rfl (by kernel_rfl) (fun _ _ _ h => h) (Or.inr ⟨rfl, rfl⟩) hS ?_
   simp only [Act.put, pA, pB, pC]
   refine tK (i := 17) (oi := zo29_7_17) rfl (by kernel_rfl) (fun _ _ _ h => h) (Or.inr ⟨rfl, rfl⟩) hS ?_
   simp only [Act.put, pA, pB, pC]
   refine tK (i := 18) (oi := zo29_7_18) rfl (by kernel_rfl) (fun _ _ _ h => h) (Or.inr ⟨rfl, rfl⟩) hS ?_
   simp only [Act.put, pA, pB, pC]
   refine tK (i := 19) (oi := zo29_7_19) rfl (by kernel_rfl) (fun _ _ _ h => h) (Or.inr ⟨rfl, rfl⟩) hS ?_
   simp only [Act.put, pA, pB, pC]
   refine tK (i := 20) (oi := zo29_7_20) (v := ?_) rfl (by kernel_rfl) (fun _ _ _ h => h) (Or.inl ⟨rfl, ?_⟩) hS ?_
   rotate_left
   · (intro w' hS'; (try dsimp only at hS'); dsimp only [zo29_7_20]; go_simp; try with_reducible rfl)
   simp only [Act.put, pA, pB, pC]
   refine tK (i := 21) (oi := zo29_7_21) (v := ?_) rfl (by kernel_rfl) (fun _ _ _ h => h) (Or.inl ⟨rfl, ?_⟩) hS ?_
   rotate_left
   · (intro w' hS'; (try dsimp only at hS'); dsimp only [zo29_7_21]; go_simp; try with_reducible rfl)
   simp only [Act.put, pA, pB, pC]
   refine tK (i := 22) (oi := zo29_7_22) rfl (by kernel_rfl) (fun _ _ _ h => h) (Or.inr ⟨rfl, rfl⟩) hS ?_
   simp only [Act.put, pA, pB, pC]
   refine tK (i := 23) (oi := zo29_7_23) rfl (by kernel_rfl) (fun _ _ _ h => h) (Or.inr ⟨rfl, rfl⟩) hS ?_
   simp only [Act.put, pA, pB, pC]
   refine tK (i := 24) (oi := zo29_7_24) rfl (by kernel_rfl) (fun _ _ _ h => h) (Or.inr ⟨rfl, rfl⟩) hS ?_
   simp only [Act.put, pA, pB, pC]
   refine tK (i := 25) (oi := zo29_7_25) rfl (by kernel_rfl) (fun _ _ _ h => h) (Or.inr ⟨rfl, rfl⟩) hS ?_
   simp only [Act.put, pA, pB, pC]
   refine tK (i := 26) (oi := zo29_7_26) rfl (by kernel_rfl) (fun _ _ _ h => h) (Or.inr ⟨rfl, rfl⟩) hS ?_
   simp only [Act.put, pA, pB, pC]
   refine tK (i := 27) (oi := zo29_7_27) rfl (by kernel_rfl) (fun _ _ _ h => h) (Or.inr ⟨rfl, rfl⟩) hS ?_
   simp only [Act.put, pA, pB, pC]
   refine tK (i := 28) (oi := zo29_7_28) rfl (by kernel_rfl) (fun _ _ _ h => h) (Or.inr ⟨rfl, rfl⟩) hS ?_
   simp only [Act.put, pA, pB, pC]
   refine tK (i := 29) (oi := zo29_7_29) rfl (by kernel_rfl) (fun _ _ _ h => h) (Or.inr ⟨rfl, rfl⟩) hS ?_
   simp only [Act.put, pA, pB, pC]
   refine tK (i := 30) (oi := zo29_7_30) rfl (by kernel_rfl) (fun _ _ _ h => h) (Or.inr ⟨rfl, rfl⟩) hS ?_
   simp only [Act.put, pA, pB, pC]
   refine tK (i := 31) (oi := zo29_7_31) (v := ?_) rfl (by kernel_rfl) (fun _ _ _ h => h) (Or.inl ⟨rfl, ?_⟩) hS ?_
   rotate_left
   · (intro w' hS'; (try dsimp only at hS'); dsimp only [zo29_7_31]; go_simp; try with_reducible rfl)
   simp only [Act.put, pA, pB, pC]
   refine tK (i := 32) (oi := zo29_7_32) (v := ?_) rfl (by kernel_rfl) (fun _ _ _ h => h) (Or.inl ⟨rfl, ?_⟩) hS ?_
   rotate_left
   · (intro w' hS'; (try dsimp only at hS'); dsimp only [zo29_7_32]; go_simp; try with_reducible rfl)
   simp only [Act.put, pA, pB, pC]
   refine wpAnyH_done (by kernel_rfl) ?_ _
   go_wp2_with fail
   go_ret
   first | exact ⟨rfl, bb⟩ | exact ⟨by simp, bb⟩
 cases d7
 · skip
   refine tK (i := 9) (oi := zo29_7_9) (v := ?_) rfl (by kernel_rfl) (fun _ _ _ h => h) (Or.inl ⟨rfl, ?_⟩) hS ?_
   rotate_left
   · (intro w' hS'; (try dsimp only at hS'); dsimp only [zo29_7_9]; go_simp; try with_reducible rfl)
   simp only [Act.put, pA, pB, pC]
   refine tK (i := 10) (oi := zo29_7_10) (v := ?_) rfl (by kernel_rfl) (fun _ _ _ h => h) (Or.inl ⟨rfl, ?_⟩) hS ?_
   rotate_left
   · (intro w' hS'; (try dsimp only at hS'); dsimp only [zo29_7_10]; go_simp; try with_reducible rfl)
   simp only [Act.put, pA, pB, pC]
   refine tK (i := 11) (oi := zo29_7_11) (v := ?_) rfl (by kernel_rfl) (fun _ _ _ h => h) (Or.inl ⟨rfl, ?_⟩) hS ?_
   rotate_left
   · (intro w' hS'; (try dsimp only at hS'); dsimp only [zo29_7_11]; go_simp; try with_reducible rfl)
   simp only [Act.put, pA, pB, pC]
   refine tK (i := 12) (oi := zo29_7_12) (v := ?_) rfl (by kernel_rfl) (fun _ _ _ h => h) (Or.inl ⟨rfl, ?_⟩) hS ?_
   rotate_left
   · (intro w' hS'; (try dsimp only at hS'); dsimp only [zo29_7_12]; go_simp; try with_reducible rfl)
   simp only [Act.put, pA, pB, pC]
   refine tK (i := 13) (oi := zo29_7_13) (v := ?_) rfl (by kernel_rfl) (fun _ _ _ h => h) (Or.inl ⟨rfl, ?_⟩) hS ?_
   rotate_left
   · (intro w' hS'; (try dsimp only at hS'); dsimp only [zo29_7_13]; go_simp; try with_reducible rfl)
   simp only [Act.put, pA, pB, pC]
   refine tK (i := 14) (oi := zo29_7_14) (v := ?_) rfl (by kernel_rfl) (fun _ _ _ h => h) (Or.inl ⟨rfl, ?_⟩) hS ?_
   rotate_left
   · (intro w' hS'; (try dsimp only at hS'); dsimp only [zo29_7_14]; go_simp; try with_reducible rfl)
   simp only [Act.put, pA, pB, pC]
   refine tK (i := 15) (oi := zo29_7_15) (v := ?_) rfl (by kernel_rfl) (fun _ _ _ h => h) (Or.inl ⟨rfl, ?_⟩) hS ?_
   rotate_left
   · (intro w' hS'; (try dsimp only at hS'); dsimp only [zo29_7_15]; go_simp; try with_reducible rfl)
   simp only [Act.put, pA, pB, pC]
   refine tK (i := 16) (oi := zo29_7_16) (v := ?_) rfl (by kernel_rfl) (fun _ _ _ h => h) (Or.inl ⟨rfl, ?_⟩) hS ?_
   rotate_left
   · (intro w' hS'; (try dsimp only at hS'); dsimp only [zo29_7_16]; go_simp; try with_reducible rfl)
   simp only [Act.put, pA, pB, pC]
   refine tK (i := 17) (oi := zo29_7_17) (v := ?_) rfl (by kernel_rfl) (fun _ _ _ h => h) (Or.inl ⟨rfl, ?_⟩) hS ?_
   rotate_left
   · (intro w' hS'; (try dsimp only at hS'); dsimp only [zo29_7_17]; go_simp; try with_reducible rfl)
   simp only [Act.put, pA, pB, pC]
   refine tK (i := 18) (oi := zo29_7_18) (v := ?_) rfl (by kernel_rfl) (fun _ _ _ h => h) (Or.inl ⟨rfl, ?_⟩) hS ?_
   rotate_left
   · (intro w' hS'; (try dsimp only at hS'); dsimp only [zo29_7_18]; go_simp; try with_reducible rfl)
   simp only [Act.put, pA, pB, pC]
   refine tK (i := 19) (oi := zo29_7_19) (v := ?_) rfl (by kernel_rfl) (fun _ _ _ h => h) (Or.inl ⟨rfl, ?_⟩) hS ?_
   rotate_left
   · (intro w' hS'; (try dsimp only at hS'); dsimp only [zo29_7_19]; go_simp; try with_reducible rfl)
   simp only [Act.put, pA, pB, pC]
   refine tK (i := 20) (oi := zo29_7_20) (v := ?_) rfl (by kernel_rfl) (fun _ _ _ h => h) (Or.inl ⟨rfl, ?_⟩) hS ?_
   rotate_left
   · (intro w' hS'; (try dsimp only at hS'); dsimp only [zo29_7_20]; go_simp; try with_reducible rfl)
   simp only [Act.put, pA, pB, pC]
   refine tK (i := 21) (oi := zo29_7_21) (v := ?_) rfl (by kernel_rfl) (fun _ _ _ h => h) (Or.inl ⟨rfl, ?_⟩) hS ?_
   rotate_left
   · (intro w' hS'; (try dsimp only at hS'); dsimp only [zo29_7_21]; go_simp; try with_reducible rfl)
   simp only [Act.put, pA, pB, pC]
   refine tK (i := 22) (oi := zo29_7_22) rfl (by kernel_rfl) (fun _ _ _ h => h) (Or.inr ⟨rfl, rfl⟩) hS ?_
   simp only [Act.put, pA, pB, pC]
   refine tK (i := 23) (oi := zo29_7_23) rfl (by kernel_rfl) (fun _ _ _ h => h) (Or.inr ⟨rfl, rfl⟩) hS ?_
   simp only [Act.put, pA, pB, pC]
   refine tK (i := 24) (oi := zo29_7_24) rfl (by kernel_rfl) (fun _ _ _ h => h) (Or.inr ⟨rfl, rfl⟩) hS ?_
   simp only [Act.put, pA, pB, pC]
   refine tK (i := 25) (oi := zo29_7_25) rfl (by kernel_rfl) (fun _ _ _ h => h) (Or.inr ⟨rfl, rfl⟩) hS ?_
   simp only [Act.put, pA, pB, pC]
   refine tK (i := 26) (oi := zo29_7_26) rfl (by kernel_rfl) (fun _ _ _ h => h) (Or.inr ⟨rfl, rfl⟩) hS ?_
   simp only [Act.put, pA, pB, pC]
   refine tK (i := 27) (oi := zo29_7_27) rfl (by kernel_rfl) (fun _ _ _ h => h) (Or.inr ⟨rfl, rfl⟩) hS ?_
   simp only [Act.put, pA, pB, pC]
   refine tK (i := 28) (oi := zo29_7_28) rfl (by kernel_rfl) (fun _ _ _ h => h) (Or.inr ⟨rfl, rfl⟩) hS ?_
   simp only [Act.put, pA, pB, pC]
   refine tK (i := 29) (oi := zo29_7_29) rfl (by kernel_rfl) (fun _ _ _ h => h) (Or.inr ⟨rfl, rfl⟩) hS ?_
   simp only [Act.put, pA, pB, pC]
   refine tK (i := 30) (oi := zo29_7_30) rfl (by kernel_rfl) (fun _ _ _ h => h) (Or.inr ⟨rfl, rfl⟩) hS ?_
   simp only [Act.put, pA, pB, pC]
   refine tK (i := 31) (oi := zo29_7_31) (v := ?_) rfl (by kernel_rfl) (fun _ _ _ h => h) (Or.inl ⟨rfl, ?_⟩) hS ?_
   rotate_left
   · (intro w' hS'; (try dsimp only at hS'); dsimp only [zo29_7_31]; go_simp; try with_reducible rfl)
   simp only [Act.put, pA, pB, pC]
   refine tK (i := 32) (oi := zo29_7_32) (v := ?_) rfl (by kernel_rfl) (fun _ _ _ h => h) (Or.inl ⟨rfl, ?_⟩) hS ?_
   rotate_left
   · (intro w' hS'; (try dsimp only at hS'); dsimp only [zo29_7_32]; go_simp; try with_reducible rfl)
   simp only [Act.put, pA, pB, pC]
   refine wpAnyH_done (by kernel_rfl) ?_ _
   go_wp2_with fail
   go_ret
   first | exact ⟨rfl, bb⟩ | exact ⟨by simp, bb⟩
 refine tK (i := 9) (oi := zo29_7_9) (v := ?_) rfl (by kernel_rfl) (fun _ _ _ h => h) (Or.inl ⟨rfl, ?_⟩) hS ?_
 rotate_left
 · (intro w' hS'; (try dsimp only at hS'); dsimp only [zo29_7_9]; go_simp; try with_reducible rfl)
 simp only [Act.put, pA, pB, pC]
 refine tK (i := 10) (oi := zo29_7_10) (v := ?_) rfl (by kernel_rfl) (fun _ _ _ h => h) (Or.inl ⟨rfl, ?_⟩) hS ?_
 rotate_left
 · (intro w' hS'; (try dsimp only at hS'); dsimp only [zo29_7_10]; go_simp; try with_reducible rfl)
 simp only [Act.put, pA, pB, pC]
 refine tK (i := 11) (oi := zo29_7_11) (v := ?_) rfl (by kernel_rfl) (fun _ _ _ h => h) (Or.inl ⟨rfl, ?_⟩) hS ?_
 rotate_left
 · (intro w' hS'; (try dsimp only at hS'); dsimp only [zo29_7_11]; go_simp; try with_reducible rfl)
 simp only [Act.put, pA, pB, pC]
 refine tK (i := 12) (oi := zo29_7_12) (v := ?_) rfl (by kernel_rfl) (fun _ _ _ h => h) (Or.inl ⟨rfl, ?_⟩) hS ?_
 rotate_left
 · (intro w' hS'; (try dsimp only at hS'); dsimp only [zo29_7_12]; go_simp; try with_reducible rfl)
 simp only [Act.put, pA, pB, pC]
 refine tK (i := 13) (oi := zo29_7_13) (v := ?_) rfl (by kernel_rfl) (fun _ _ _ h => h) (Or.inl ⟨rfl, ?_⟩) hS ?_
 rotate_left
 · (intro w' hS'; (try dsimp only at hS'); dsimp only [zo29_7_13]; go_simp; try with_reducible rfl)
 simp only [Act.put, pA, pB, pC]
 refine tK (i := 14) (oi := zo29_7_14) (v := ?_) rfl (by kernel_rfl) (fun _ _ _ h => h) (Or.inl ⟨rfl, ?_⟩) hS ?_
 rotate_left
 · (intro w' hS'; (try dsimp only at hS'); dsimp only [zo29_7_14]; go_simp; try with_reducible rfl)
 simp only [Act.put, pA, pB, pC]
 refine tK (i := 15) (oi := zo29_7_15) (v := ?_) rfl (by kernel_rfl) (fun _ _ _ h => h) (Or.inl ⟨rfl, ?_⟩) hS ?_
 rotate_left
 · (intro w' hS'; (try dsimp only at hS'); dsimp only [zo29_7_15]; go_simp; try with_reducible rfl)
 simp only [Act.put, pA, pB, pC]
 refine tK (i := 16) (oi := zo29_7_16) (v := ?_) rfl (by kernel_rfl) (fun _ _ _ h => h) (Or.inl ⟨rfl, ?_⟩) hS ?_
 rotate_left
 · (intro w' hS'; (try dsimp only at hS'); dsimp only [zo29_7_16]; go_simp; try with_reducible rfl)
 simp only [Act.put, pA, pB, pC]
 refine tK (i := 17) (oi := zo29_7_17) (v := ?_) rfl (by kernel_rfl) (fun _ _ _ h => h) (Or.inl ⟨rfl, ?_⟩) hS ?_
 rotate_left
 · (intro w' hS'; (try dsimp only at hS'); dsimp only [zo29_7_17]; go_simp; try with_reducible rfl)
 simp only [Act.put, pA, pB, pC]
 refine tK (i := 18) (oi := zo29_7_18) (v := ?_) rfl (by kernel_rfl) (fun _ _ _ h => h) (Or.inl ⟨rfl, ?_⟩) hS ?_
 rotate_left
 · (intro w' hS'; (try dsimp only at hS'); dsimp only [zo29_7_18]; go_simp; try with_reducible rfl)
 simp only [Act.put, pA, pB, pC]
 refine tK (i := 19) (oi := zo29_7_19) (v := ?_) rfl (by kernel_rfl) (fun _ _ _ h => h) (Or.inl ⟨rfl, ?_⟩) hS ?_
 rotate_left
 · (intro w' hS'; (try dsimp only at hS'); dsimp only [zo29_7_19]; go_simp; try with_reducible rfl)
 simp only [Act.put, pA, pB, pC]
 refine tK (i := 20) (oi := zo29_7_20) (v := ?_) rfl (by kernel_rfl) (fun _ _ _ h => h) (Or.inl ⟨rfl, ?_⟩) hS ?_
 rotate_left
 · (intro w' hS'; (try dsimp only at hS'); dsimp only [zo29_7_20]; go_simp; try with_reducible rfl)
 simp only [Act.put, pA, pB, pC]
 refine tK (i := 21) (oi := zo29_7_21) (v := ?_) rfl (by kernel_rfl) (fun _ _ _ h => h) (Or.inl ⟨rfl, ?_⟩) hS ?_
 rotate_left
 · (intro w' hS'; (try dsimp only at hS'); dsimp only [zo29_7_21]; go_simp; try with_reducible rfl)
 simp only [Act.put, pA, pB, pC]
 refine tK (i := 22) (oi := zo29_7_22) (v := ?_) rfl (by kernel_rfl) (fun _ _ _ h => h) (Or.inl ⟨rfl, ?_⟩) hS ?_
 rotate_left
 · (intro w' hS'; (try dsimp only at hS'); dsimp only [zo29_7_22]; go_simp; try with_reducible rfl)
 simp only [Act.put, pA, pB, pC]
 refine tK (i := 23) (oi := zo29_7_23) (v := ?_) rfl (by kernel_rfl) (fun _ _ _ h => h) (Or.inl ⟨rfl, ?_⟩) hS ?_
 rotate_left
 · (intro w' hS'; (try dsimp only at hS'); dsimp only [zo29_7_23]; go_simp; try with_reducible rfl)
 simp only [Act.put, pA, pB, pC]
 refine tK (i := 24) (oi := zo29_7_24) (v := ?_) rfl (by kernel_rfl) (fun _ _ _ h => h) (Or.inl ⟨rfl, ?_⟩) hS ?_
 rotate_left
 · (intro w' hS'; (try dsimp only at hS'); dsimp only [zo29_7_24]; go_simp; try with_reducible rfl)
 simp only [Act.put, pA, pB, pC]
 refine tK (i := 25) (oi := zo29_7_25) (v := ?_) rfl (by kernel_rfl) (fun _ _ _ h => h) (Or.inl ⟨rfl, ?_⟩) hS ?_
 rotate_left
 · (intro w' hS'; (try dsimp only at hS'); dsimp only [zo29_7_25]; go_simp; try with_reducible rfl)
 simp only [Act.put, pA, pB, pC]
 refine tK (i := 26) (oi := zo29_7_26) (v := ?_) rfl (by kernel_rfl) (fun _ _ _ h => h) (Or.inl ⟨rfl, ?_⟩) hS ?_
 rotate_left
 · (intro w' hS'; (try dsimp only at hS'); dsimp only [zo29_7_26]; go_simp; try with_reducible rfl)
 simp only [Act.put, pA, pB, pC]
 refine tK (i := 27) (oi := zo29_7_27) (v := ?_) rfl (by kernel_rfl) (fun _ _ _ h => h) (Or.inl ⟨rfl, ?_⟩) hS ?_
 rotate_left
 · (intro w' hS'; (try dsimp only at hS'); dsimp only [zo29_7_27]; go_simp; try with_reducible rfl)
 simp only [Act.put, pA, pB, pC]
 refine tK (i := 28) (oi := zo29_7_28) (v := ?_) rfl (by kernel_rfl) (fun _ _ _ h => h) (Or.inl ⟨rfl, ?_⟩) hS ?_
 rotate_left
 · (intro w' hS'; (try dsimp only at hS'); dsimp only [zo29_7_28]; go_simp; try with_reducible rfl)
 simp only [Act.put, pA, pB, pC]
 refine tK (i := 29) (oi := zo29_7_29) (v := ?_) rfl (by kernel_rfl) (fun _ _ _ h => h) (Or.inl ⟨rfl, ?_⟩) hS ?_
 rotate_left
 · (intro w' hS'; (try dsimp only at hS'); dsimp only [zo29_7_29]; go_simp; try with_reducible rfl)
 simp only [Act.put, pA, pB, pC]
 refine wpAnyH_ready (rs := [30]) (by kernel_rfl) (by simp) ?_
 refine AllReadyH.cons (o := zo29_7_30) rfl (fun K hK => ?_) .nil
 refine step_call 81 #[.tmp 100, .tmp 104] _ rfl rfl #[.slice A5 p.words.length Ak5, .slice B5 q.words.length Bk5] Tryz.call81 (by go_simp) (C8.out _ h5 k5) ?_
 rintro e we ⟨rfl, m8, rfl⟩
 refine ⟨_, rfl, ?_⟩
 replace R := R.drewN m8
 replace Q := Q.drewN m8
 replace bb := below_drewN bb m8
 replace h0 := h0.drewN m8
 replace k0 := k0.drewN m8
 replace h1 := h1.drewN m8
 replace k1 := k1.drewN m8
 replace h2 := h2.drewN m8
 replace k2 := k2.drewN m8
 replace h3 := h3.drewN m8
 replace k3 := k3.drewN m8
 replace h4 := h4.drewN m8
 replace k4 := k4.drewN m8
 replace h5 := h5.drewN m8
 replace k5 := k5.drewN m8
 replace X := X.drewN m8
 replace Y := Y.drewN m8
 replace hS := (show (fun w' : World => w'.cell? ⟨g, 9, none⟩ = some (.slice A3 p.strokes.length Ak3) ∧ w'.cell? ⟨g, 11, none⟩ = some (.int .i64 p.time) ∧ w'.cell? ⟨g, 12, none⟩ = some (.slice A5 p.words.length Ak5) ∧ w'.cell? ⟨g', 9, none⟩ = some (.slice B3 q.strokes.length Bk3) ∧ w'.cell? ⟨g', 11, none⟩ = some (.int .i64 q.time) ∧ w'.cell? ⟨g', 12, none⟩ = some (.slice B5 q.words.length Bk5) ∧ w'.cell? ⟨W.heap.size, 0, none⟩ = some (.slice A4 p.opn.length Ak4) ∧ w'.cell? ⟨(W.heap.size + 1), 0, none⟩ = some (.slice B4 q.opn.length Bk4)) _ from ⟨R.cell' (i := 9) rfl, R.cell' (i := 11) rfl, R.cell' (i := 12) rfl, Q.cell' (i := 9) rfl, Q.cell' (i := 11) rfl, Q.cell' (i := 12) rfl, X.cell' (i := 0) rfl, Y.cell' (i := 0) rfl⟩)
 dsimp only at hS
 refine hK.out _ _ ?_ (fun hHeld => ?_)
 · exact hS
 clear hK K hHeld
 simp only [Act.put, pA, pB, pC]
 refine tK (i := 31) (oi := zo29_7_31) (v := ?_) rfl (by kernel_rfl) (fun _ _ _ h => h) (Or.inl ⟨rfl, ?_⟩) hS ?_
 rotate_left
 · (intro w' hS'; (try dsimp only at hS'); dsimp only [zo29_7_31]; go_simp; try with_reducible rfl)
 simp only [Act.put, pA, pB, pC]
 refine tK (i := 32) (oi := zo29_7_32) (v := ?_) rfl (by kernel_rfl) (fun _ _ _ h => h) (Or.inl ⟨rfl, ?_⟩) hS ?_
 rotate_left
 · (intro w' hS'; (try dsimp only at hS'); dsimp only [zo29_7_32]; go_simp; try with_reducible rfl)
 simp only [Act.put, pA, pB, pC]
 refine wpAnyH_done (by kernel_rfl) ?_ _
 go_wp2_with fail
 go_ret
 first | exact ⟨rfl, bb⟩ | exact ⟨by simp, bb⟩
end Go.Proofs.YtkfadfddhbpngaaGreat

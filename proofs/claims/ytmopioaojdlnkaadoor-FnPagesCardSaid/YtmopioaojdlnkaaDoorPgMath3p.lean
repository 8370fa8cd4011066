/- Pages as plain data: the results of edits are small, and their steps possible. No program is named here. Conditions: none. -/
import Derived.Test.YtmopioaojdlnkaaDoorPgMath2p
import Derived.Shelf.Strings.Builder1
import Derived.Shelf.Strings.OnBuilder
import Derived.Test.YtmopioaojdlnkaaDoorLibp
import Derived.Test.YtmopioaojdlnkaaDoorProg
namespace Go.Proofs.YtmopioaojdlnkaaDoor
open Go Go.RowKit
theorem validB_parts {p : PPage} (h : validB p = true) : LinesOk p.lines ∧ p.done.length ≤ 30 ∧ p.undone.length ≤ 30 ∧ followB true p.lines p.done.reverse = true ∧ followB false p.lines p.undone.reverse = true := by
 simp only [validB, Bool.and_eq_true, decide_eq_true_eq] at h
 exact ⟨(linesOk_iff _).1 h.1, h.2.1, h.2.2.1, h.2.2.2.1, h.2.2.2.2⟩
theorem follow_last {b : Bool} {ls : List PLine} {l : List PStep} {s : PStep} (h : followB b ls l.reverse = true) (hs : l.getLast? = some s) : canB ls (flipS b s) = true := by
 have e : l.reverse.head? = some s := by rw [List.head?_reverse]; exact hs
 cases hl : l.reverse with
 | nil => rw [hl] at e; cases e
 | cons a r =>
   rw [hl] at e h
   simp only [List.head?_cons, Option.some.injEq] at e
   subst e
   simp only [followB, Bool.and_eq_true] at h
   exact h.1
end Go.Proofs.YtmopioaojdlnkaaDoor
namespace Go.Proofs.YtmopioaojdlnkaaDoor
open Go Go.Shelf Go.RowKit
def Tryd.lays156_ren : Go.Shelf.Ren := ⟨fun | 156 => 29 | 165 => 59 | 166 => 28 | 169 => 30 | 240 => 58 | 241 => 79 | 276 => 78 | 277 => 88 | n => n, fun | 31 => 52 | 9 => 9 | 3 => 3 | 4 => 4 | 0 => 0 | 20 => 20 | 72 => 60 | 76 => 63 | 70 => 58 | 37 => 22 | 75 => 62 | 127 => 94 | 164 => 105 | 5 => 5 | 80 => 66 | n => n, fun | n => n⟩
theorem Tryd.lays156 : Go.Proofs.Lays.n156 Tryd.prog Tryd.lays156_ren := {
 mixed := by kernel_rfl
 f156 := Tryd.func29.trans (congrArg some (by kernel_rfl))
 f165 := Tryd.func59.trans (congrArg some (by kernel_rfl))
 f166 := Tryd.func28.trans (congrArg some (by kernel_rfl))
 f169 := Tryd.func30.trans (congrArg some (by kernel_rfl))
 f240 := Tryd.func58.trans (congrArg some (by kernel_rfl))
 f241 := Tryd.func79.trans (congrArg some (by kernel_rfl))
 f276 := Tryd.func78.trans (congrArg some (by kernel_rfl))
 f277 := Tryd.func88.trans (congrArg some (by kernel_rfl))
 t0 := Tryd.underlying0
 a0 := Tryd.isAgg0
 z0 := Tryd.sizeOf0
 v0 := Tryd.zeroValue0
 t3 := Tryd.underlying3
 a3 := Tryd.isAgg3
 z3 := Tryd.sizeOf3
 v3 := Tryd.zeroValue3
 t4 := Tryd.underlying4
 a4 := Tryd.isAgg4
 z4 := Tryd.sizeOf4
 v4 := Tryd.zeroValue4
 t9 := Tryd.underlying9
 a9 := Tryd.isAgg9
 z9 := Tryd.sizeOf9
 v9 := Tryd.zeroValue9
 t20 := Tryd.underlying20
 a20 := Tryd.isAgg20
 z20 := Tryd.sizeOf20
 v20 := Tryd.zeroValue20
 t31 := Tryd.underlying52
 a31 := Tryd.isAgg52
 z31 := Tryd.sizeOf52
 v31 := Tryd.zeroValue52
 t37 := Tryd.underlying22
 a37 := Tryd.isAgg22
 z37 := Tryd.sizeOf22
 v37 := Tryd.zeroValue22
 t70 := Tryd.underlying58
 a70 := Tryd.isAgg58
 z70 := Tryd.sizeOf58
 v70 := Tryd.zeroValue58
 t72 := Tryd.underlying60
 a72 := Tryd.isAgg60
 z72 := Tryd.sizeOf60
 v72 := Tryd.zeroValue60
 t75 := Tryd.underlying62
 a75 := Tryd.isAgg62
 z75 := Tryd.sizeOf62
 v75 := Tryd.zeroValue62
 t76 := Tryd.underlying63
 a76 := Tryd.isAgg63
 z76 := Tryd.sizeOf63
 v76 := Tryd.zeroValue63
 t127 := Tryd.underlying94
 a127 := Tryd.isAgg94
 z127 := Tryd.sizeOf94
 v127 := Tryd.zeroValue94
 t164 := Tryd.underlying105
 a164 := Tryd.isAgg105
 z164 := Tryd.sizeOf105
 v164 := Tryd.zeroValue105 }
theorem Tryd.Builder_Extra_156 : Builder.Extra Tryd.prog Tryd.lays156_ren := {
 sizeBuilder := by kernel_rfl
 liesBuilder := by kernel_rfl
 t5 := Tryd.underlying5
 a5 := Tryd.isAgg5
 z5 := Tryd.sizeOf5
 v5 := Tryd.zeroValue5
 infoByte := by kernel_rfl
 cellsByte := by kernel_rfl
 sizeByte := by kernel_rfl
 neB5 := by decide }
theorem Tryd.lays166 : Go.Proofs.Lays.n166 Tryd.prog Tryd.lays156_ren := {
 mixed := Tryd.lays156.mixed
 f166 := Tryd.lays156.f166
 f240 := Tryd.lays156.f240
 f276 := Tryd.lays156.f276
 t0 := Tryd.lays156.t0
 a0 := Tryd.lays156.a0
 z0 := Tryd.lays156.z0
 v0 := Tryd.lays156.v0
 t3 := Tryd.lays156.t3
 a3 := Tryd.lays156.a3
 z3 := Tryd.lays156.z3
 v3 := Tryd.lays156.v3
 t4 := Tryd.lays156.t4
 a4 := Tryd.lays156.a4
 z4 := Tryd.lays156.z4
 v4 := Tryd.lays156.v4
 t9 := Tryd.lays156.t9
 a9 := Tryd.lays156.a9
 z9 := Tryd.lays156.z9
 v9 := Tryd.lays156.v9
 t20 := Tryd.lays156.t20
 a20 := Tryd.lays156.a20
 z20 := Tryd.lays156.z20
 v20 := Tryd.lays156.v20
 t37 := Tryd.lays156.t37
 a37 := Tryd.lays156.a37
 z37 := Tryd.lays156.z37
 v37 := Tryd.lays156.v37
 t70 := Tryd.lays156.t70
 a70 := Tryd.lays156.a70
 z70 := Tryd.lays156.z70
 v70 := Tryd.lays156.v70
 t72 := Tryd.lays156.t72
 a72 := Tryd.lays156.a72
 z72 := Tryd.lays156.z72
 v72 := Tryd.lays156.v72
 t75 := Tryd.lays156.t75
 a75 := Tryd.lays156.a75
 z75 := Tryd.lays156.z75
 v75 := Tryd.lays156.v75
 t164 := Tryd.lays156.t164
 a164 := Tryd.lays156.a164
 z164 := Tryd.lays156.z164
 v164 := Tryd.lays156.v164 }
theorem Tryd.lays169 : Go.Proofs.Lays.n169 Tryd.prog Tryd.lays156_ren := {
 mixed := Tryd.lays156.mixed
 f169 := Tryd.lays156.f169
 t0 := Tryd.lays156.t0
 a0 := Tryd.lays156.a0
 z0 := Tryd.lays156.z0
 v0 := Tryd.lays156.v0
 t3 := Tryd.lays156.t3
 a3 := Tryd.lays156.a3
 z3 := Tryd.lays156.z3
 v3 := Tryd.lays156.v3
 t9 := Tryd.lays156.t9
 a9 := Tryd.lays156.a9
 z9 := Tryd.lays156.z9
 v9 := Tryd.lays156.v9
 t37 := Tryd.lays156.t37
 a37 := Tryd.lays156.a37
 z37 := Tryd.lays156.z37
 v37 := Tryd.lays156.v37
 t70 := Tryd.lays156.t70
 a70 := Tryd.lays156.a70
 z70 := Tryd.lays156.z70
 v70 := Tryd.lays156.v70
 t72 := Tryd.lays156.t72
 a72 := Tryd.lays156.a72
 z72 := Tryd.lays156.z72
 v72 := Tryd.lays156.v72
 t127 := Tryd.lays156.t127
 a127 := Tryd.lays156.a127
 z127 := Tryd.lays156.z127
 v127 := Tryd.lays156.v127 }
theorem WriteString_c (B b : Nat) (bs : List Value) (s : ByteArray) (w : World) (h : Lib.IsBuilder 60 5 B b bs w) (hlen : bs.length + s.size ≤ 140737488355328) (hBw : B ≤ w.heap.size) :
 Calls Tryd.prog 28 #[.pointer (some ⟨b, 0, none⟩), .string s] w fun e w' => e = .returned (.tuple #[.int .i64 s.size, .nilIface]) ∧ (Lib.BuilderAt 60 5 B b (.pointer (some ⟨b, 0, none⟩)) (bs ++ Lib.strCells s) w' ∧ Below B w w') := Any.Builder_WriteString Tryd.lays166 Tryd.Builder_Extra_156 B b bs s w h hlen hBw
theorem String_c (B b : Nat) (l : List UInt8) (w : World) (h : Lib.IsBuilder 60 5 B b (Lib.byteCells l) w) (hBw : B ≤ w.heap.size) :
 Calls Tryd.prog 30 #[.pointer (some ⟨b, 0, none⟩)] w fun e w' => e = .returned (.string ⟨l.toArray⟩) ∧ Below B w w' := Any.Builder_String_any Tryd.lays169 Tryd.Builder_Extra_156 B b l w h hBw
theorem Join_none_c (a : Option Addr) (c : Nat) (sep : ByteArray) (w : World) :
 Calls Tryd.prog 29 #[.slice a 0 c, .string sep] w fun e w' => e = .returned (.string ⟨#[]⟩) ∧ w' = w := Any.strings_Join_none Tryd.lays156 Tryd.Builder_Extra_156 a c sep w
theorem Join_c (bk o c : Nat) (xs : List ByteArray) (sep : ByteArray) (w : World) (hcells : ∀ (j : Nat) x, xs[j]? = some x → w.cell? ⟨bk, o + j, none⟩ = some (.string x)) (hbk : bk < w.heap.size) (hN : xs.length ≤ 140737488355328) (hcap : xs.length ≤ c) (hlen : (Lib.join (xs.map (·.data.toList)) sep.data.toList).length ≤ 140737488355328) :
 Calls Tryd.prog 29 #[.slice (some ⟨bk, o, none⟩) xs.length c, .string sep] w fun e w' => e = .returned (.string ⟨(Lib.join (xs.map (·.data.toList)) sep.data.toList).toArray⟩) ∧ Below w.heap.size w w' := Any.strings_Join Tryd.lays156 Tryd.Builder_Extra_156 bk o c xs sep w hcells hbk hN hcap hlen
end Go.Proofs.YtmopioaojdlnkaaDoor

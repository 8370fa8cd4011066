/- The shelf's contract for strings.Contains at one byte, at this program: what it says is proved in the library for any program. Conditions: none. -/
import Derived.Shelf.Strings.Search1
import Derived.Shelf.Strings.Search2
import Derived.Shelf.Strings.Search3
import Derived.Test.YtkkignkoneeieaaLibm
import Derived.Test.YtkkignkoneeieaaProg
namespace Go.Proofs.Ytkkignkoneeieaa
open Go Go.Shelf Go.RowKit

def lays144_ren : Go.Shelf.Ren := ⟨fun | 144 => 116 | 143 => 123 | 219 => 128 | 217 => 130 | 225 => 131 | 224 => 132 | 267 => 133 | 266 => 134 | 314 => 135 | n => n, fun | 9 => 9 | 4 => 4 | 3 => 3 | 5 => 5 | 46 => 194 | 146 => 196 | 51 => 195 | n => n, fun | 1 => 0 | n => n⟩
theorem lays144 : Go.Proofs.Lays.n144 Try.prog lays144_ren := {
  mixed := by kernel_rfl
  f143 := Try.func123.trans (congrArg some (by kernel_rfl))
  f144 := Try.func116.trans (congrArg some (by kernel_rfl))
  f217 := Try.func130.trans (congrArg some (by kernel_rfl))
  f219 := Try.func128.trans (congrArg some (by kernel_rfl))
  f224 := Try.func132.trans (congrArg some (by kernel_rfl))
  f225 := Try.func131.trans (congrArg some (by kernel_rfl))
  f266 := Try.func134.trans (congrArg some (by kernel_rfl))
  f267 := Try.func133.trans (congrArg some (by kernel_rfl))
  f314 := Try.func135.trans (congrArg some (by kernel_rfl))
  t3 := Try.underlying3
  a3 := Try.isAgg3
  z3 := Try.sizeOf3
  v3 := Try.zeroValue3
  t4 := Try.underlying4
  a4 := Try.isAgg4
  z4 := Try.sizeOf4
  v4 := Try.zeroValue4
  t5 := Try.underlying5
  a5 := Try.isAgg5
  z5 := Try.sizeOf5
  v5 := Try.zeroValue5
  t9 := Try.underlying9
  a9 := Try.isAgg9
  z9 := Try.sizeOf9
  v9 := Try.zeroValue9
  t46 := Try.underlying194
  a46 := Try.isAgg194
  z46 := Try.sizeOf194
  v46 := Try.zeroValue194
  t51 := Try.underlying195
  a51 := Try.isAgg195
  z51 := Try.sizeOf195
  v51 := Try.zeroValue195
  t146 := Try.underlying196
  a146 := Try.isAgg196
  z146 := Try.sizeOf196
  v146 := Try.zeroValue196
  g1 := by kernel_rfl }
open Go.RowKit Go.Lib in
theorem strings_Contains_one (s : ByteArray) (c : UInt8) (w : World) :
    Calls Try.prog 116 #[.string s, .string ⟨#[c]⟩] w fun e w' => e = .returned (.bool (decide (0 ≤ Lib.indexByte s.data.toList c))) ∧ w' = w := Any.strings_Contains_one lays144 s c w
end Go.Proofs.Ytkkignkoneeieaa
